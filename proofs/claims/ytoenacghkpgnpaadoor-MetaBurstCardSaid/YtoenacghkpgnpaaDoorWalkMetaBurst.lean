/- The walk of MetaBurst: a meta of which up to four bytes were changed is valid in no slot. -/
import Derived.Test.YtoenacghkpgnpaaDoorBurstInv
import Derived.Test.YtoenacghkpgnpaaDoorWalkMetaBack
import Derived.Deep.CutBlock
namespace Go.Proofs.YtoenacghkpgnpaaDoor.LMetaBurst
open Go.RowKit Go.Proofs.YtoenacghkpgnpaaDoor.K Go.Proofs.YtoenacghkpgnpaaDoor.E Go.Proofs.YtoenacghkpgnpaaDoor.P1 Go.Proofs.YtoenacghkpgnpaaDoor.Codec Go.Proofs.YtoenacghkpgnpaaDoor.Meta Go.Proofs.YtoenacghkpgnpaaDoor.Q Go.Proofs.YtoenacghkpgnpaaDoor.S Go.Proofs.YtoenacghkpgnpaaDoor.D
open Go.Proofs.YtoenacghkpgnpaaDoor.LMetaBack (errV0 errV2 num_errY pagesM)

/-- The rows of the world while the bytes are changed. -/
structure Rows (w W : World) (m0 : Array Value) (b3 g : Nat) (p r T : Int) (ys : List Int) : Prop where
  below : Below w.heap.size w W
  box : W.heap[w.heap.size]? = some (.cells m0 67 (0, 0))
  meta3 : W.heap[b3]? = some (.cells #[.int .i64 p, .int .i64 r, .int .u64 T] 24 (0, 0))
  bytes : W.heap[g]? = some (.cells (u8s ys) 5 (0, 0))
theorem Rows.step {w W W' : World} {m0 : Array Value} {b3 g : Nat} {p r T : Int} {ys : List Int} (h : Rows w W m0 b3 g p r T ys) (hb : Below W.heap.size W W') : Rows w W' m0 b3 g p r T ys :=
  ⟨below_step h.below hb, below_row hb h.box, below_row hb h.meta3, below_row hb h.bytes⟩

theorem neq_meta (p r t : Int) (w : World) : (binOp .neq 24 (.agg #[.int .i64 p, .int .i64 r, .int .u64 t]) (.agg #[.int .i64 p, .int .i64 r, .int .u64 t])).run Tryd.prog w = .ok (.bool false) w := by
  have h := eql_meta p r t p r t true (by simp) w
  rw [run_eql_struct] at h
  rw [run_neq_struct]
  cases hx : (Op.equalIn 10000 24 (.agg #[.int .i64 p, .int .i64 r, .int .u64 t]) (.agg #[.int .i64 p, .int .i64 r, .int .u64 t])).run Tryd.prog w <;> rw [hx] at h <;> simp [Result.andThen] at h ⊢
  · exact h
theorem decR_bad (ys : List Int) (p : Int) (n : Nat) (hp : PagesM p) (hn : n = 0 ∨ n = 1) (_ : ys.length = 512) (h : ¬ OkD ys p n) : decR ys p n = (0, 0, 0, 2) := by
  unfold decR
  rw [if_pos ⟨hp, by omega⟩, if_neg (fun k => h k.2)]
theorem flagF (b x : Int) (h : x = b) : ((b != 0) = true ↔ (false = true ∨ x ≠ 0)) := by subst h; simp
theorem Rows.put {w W : World} {m0 : Array Value} {b3 g : Nat} {p r T : Int} {ys : List Int} (h : Rows w W m0 b3 g p r T ys) (hg : b3 < g ∧ w.heap.size < g) (i : Nat) (v : Int) :
    Rows w ((W.setCell ⟨g, i, none⟩ (.int .u8 v)).drew) m0 b3 g p r T (ys.set i v) := by
  have ht := (Tch.refl (fun j => j = g) W).setCell (p := ⟨g, i, none⟩) (.inl rfl) (.int .u8 v)
  have h1 : (W.setCell ⟨g, i, none⟩ (.int .u8 v)).heap[g]? = some (.cells (u8s (ys.set i v)) 5 (0, 0)) := by
    rw [← u8s_set]; exact Joins.block_setCell h.bytes _
  exact ⟨below_drewN (below_set h.below (Nat.le_of_lt hg.2) _) 1, ht.row h.box (fun e => by omega), ht.row h.meta3 (fun e => by omega), h1⟩

set_option maxRecDepth 100000 in
set_option maxHeartbeats 1000000 in
theorem walk {B : Nat → Addr} (P R T At b0 b1 b2 b3 : Int) (w : World) (hE : Errs errG B w) (hs : TabOk w) (ht0 : 0 ≤ T) (ht1 : T < 18446744073709551616) (hb : ∀ j, 0 ≤ [b0, b1, b2, b3].getD j 0 ∧ [b0, b1, b2, b3].getD j 0 ≤ 255) :
    Calls Tryd.prog 11 #[.agg #[.int .i64 P, .int .i64 R, .int .u64 T, .int .i64 At, .int .u8 b0, .int .u8 b1, .int .u8 b2, .int .u8 b3]] w fun e w' => e = .returned (.bool true) ∧ Below w.heap.size w w' := by
  have HE : Hd (Errs errG B w ∧ TabOk w) := ⟨hE, hs⟩
  have HT : Hd (0 ≤ T ∧ T < 18446744073709551616) := ⟨ht0, ht1⟩
  have HBs : Hd (∀ j, 0 ≤ [b0, b1, b2, b3].getD j 0 ∧ [b0, b1, b2, b3].getD j 0 ≤ 255) := ⟨hb⟩
  obtain ⟨T2, hT2⟩ : ∃ T2, T % 2 = T2 := ⟨_, rfl⟩
  have HT2 : Hd (T % 2 = T2) := ⟨hT2⟩
  have ht20 : 0 ≤ T2 := by omega
  have ht21 : T2 ≤ 1 := by omega
  have hrem : Int.tmod T 2 = T2 := by rw [Int.tmod_eq_emod_of_nonneg ht0]; exact hT2
  have qn := eql_nil_nil
  have qn' := neq_nil_nil
  obtain ⟨m0, hm0⟩ : ∃ m0 : Array Value, #[.int .i64 P, .int .i64 R, .int .u64 T, .int .i64 At, .int .u8 b0, .int .u8 b1, .int .u8 b2, .int .u8 b3] = m0 := ⟨_, rfl⟩
  have HM0 : Hd (#[.int .i64 P, .int .i64 R, .int .u64 T, .int .i64 At, .int .u8 b0, .int .u8 b1, .int .u8 b2, .int .u8 b3] = m0) := ⟨hm0⟩
  clear hE hs ht1 hT2 hb hm0
  go_enter Tryd.func11, Tryd.ntmps11
  go_upto_block 0 with (first
    | (go_at_call 33; refine (tidy_calls P R T _).mono ?_; rintro e W1 ⟨p, r, rfl, HM, hb⟩; have k3 := fun o => below_cell (below_alloc (Below.refl _ W1) o) (box_cell hb 3 _ rfl); have H1 : Hd (Below w.heap.size w W1 ∧ W1.heap[w.heap.size]? = some (.cells m0 67 (0, 0))) := ⟨box_below hb, HM0.out ▸ box_row hb⟩; clear hb)
    | (go_at_call 16; refine (encode_ok p r T _ (HE.out.2.below (below_alloc H1.out.1 _)) HM.out HT.out.1 HT.out.2).mono ?_; rintro e W2 ⟨g, rfl, hg, hrow, hb⟩; have HGg : Hd (W1.heap.size < g ∧ w.heap.size < g) := ⟨by have h5 := (Array.getElem?_eq_some_iff.1 H1.out.2).1; have h6 : W1.heap.size < g := Nat.lt_of_lt_of_le (by simp) hg; omega⟩; have x3 := below_cell hb (k3 _); have H2 : Hd (Rows w W2 m0 W1.heap.size g p r T (wr p r T) ∧ w.heap.size ≤ g) := ⟨⟨below_step H1.out.1 (box_below hb), below_row (box_below hb) H1.out.2, box_row hb, hrow⟩, Nat.le_trans (Nat.le_trans H1.out.1.size (Nat.le_of_lt (by simp))) hg⟩; clear hrow hb k3 hg)
    | (go_at_call 34; refine (pick_calls _ 512 (by decide) (by decide) _).mono ?_; rintro e W3 ⟨a, rfl, hr, hb⟩; have ha0 := hr.1; have ha1 := hr.2; have H3 : Hd (Rows w W3 m0 W1.heap.size g p r T (wr p r T)) := ⟨H2.out.1.step hb⟩; clear hr hb x3)
    | fail)
  obtain ⟨a, rfl⟩ := Int.eq_ofNat_of_zero_le ha0
  have HA : Hd (a < 512) := ⟨by omega⟩
  go_cut [7] from 31 to 84 (fun s7 wx => ∃ (c : Bool) (k : Nat) (ys : List Int), s7 = .bool c ∧ Hd (Inv (wr p r T) [b0, b1, b2, b3] a k c ys ∧ Rows w wx m0 W1.heap.size g p r T ys))
  case first =>
    go_wp2_with (fail)
    go_loopw [7, 8, 9] (fun s7 s8 _ wx => ∃ (c : Bool) (k : Nat) (ys : List Int), s7 = .bool c ∧ s8 = .int .i64 k ∧ Hd (Inv (wr p r T) [b0, b1, b2, b3] a k c ys ∧ Rows w wx m0 W1.heap.size g p r T ys)) (fun _ s8 _ _ => 4 - (intOf s8).toNat)
    case atStart => exact ⟨false, 0, _, rfl, rfl, ⟨Inv.start _ _ a (by have := HA.out; omega) (wr_length p r T), H3.out⟩⟩
    case round =>
      obtain ⟨c, k, ys, rfl, rfl, HI⟩ := hrel
      have hk4 : (k : Int) ≤ 4 := by have := HI.out.1.k4; omega
      by_cases hk : k < 4 ∧ a + k < 512
      · obtain ⟨y, hy⟩ : ∃ y, ys.getD (a + k) 0 = y := ⟨_, rfl⟩
        obtain ⟨b, hbk⟩ : ∃ b, [b0, b1, b2, b3].getD k 0 = b := ⟨_, rfl⟩
        have cp : wr.cell? ⟨g, a + k, none⟩ = some (.int .u8 y) := by
          rw [Joins.cell_of_block HI.out.2.bytes, K.u8s_at ys (a + k) (by rw [HI.out.1.len]; exact hk.2), hy]
        have fp := Joins.unfrozen_of_block HI.out.2.bytes
        have cb : wr.cell? ⟨w.heap.size, 4 + k, none⟩ = some (.int .u8 b) := by
          rw [Joins.cell_of_block HI.out.2.box, ← HM0.out, ← hbk]
          have := hk.1
          rcases (by omega : k = 0 ∨ k = 1 ∨ k = 2 ∨ k = 3) with rfl | rfl | rfl | rfl <;> rfl
        have HY : Hd (ys.getD (a + k) 0 = y ∧ [b0, b1, b2, b3].getD k 0 = b ∧ k < 4 ∧ a + k < 512) := ⟨hy, hbk, hk⟩
        have i1 : (k : Int) < 4 := by omega
        have i2 : (a : Int) + k < 512 := by omega
        have i3 : (0 : Int) ≤ k := by omega
        have n1 : (IntKind.i64.wrap ((a : Int) + k)) = (a : Int) + k := IntWalk.i64_in _ (by omega)
        have n2 : ((a : Int) + k).toNat = a + k := by omega
        clear hy hbk hk
        -- CASES
        have pA : (a : Int) + k < 24 ∨ 28 ≤ (a : Int) ∨ (24 ≤ (a : Int) ∧ (a : Int) + k < 28) ∨ ((a : Int) < 24 ∧ 24 ≤ (a : Int) + k) ∨ (24 ≤ (a : Int) ∧ (a : Int) < 28 ∧ 28 ≤ (a : Int) + k) := by omega
        cases c
        · rcases pA with h1 | h1 | ⟨h1, h2⟩ | ⟨h1, h2⟩ | ⟨h1, h2, h3⟩
          · have h2 : (a : Int) < 24 := by omega
            have d0 : decide (24 ≤ (a : Int) + k) = false := decide_eq_false (by omega)
            have d1 : decide ((a : Int) + k < 28) = true := decide_eq_true (by omega)
            have d2 : decide (24 ≤ (a : Int)) = false := decide_eq_false (by omega)
            have d3 : decide ((a : Int) < 28) = true := decide_eq_true (by omega)
            go_wp2
            go_region
            all_goals
              (try go_wp2)
              go_roundw
              case rel => exact ⟨(b != 0), k + 1, _, rfl, by go_num, ⟨HI.out.1.step HY.out.2.2.1 HY.out.2.2.2 (by omega) (b != 0) (flagF b _ HY.out.2.1), by rw [HY.out.1, HY.out.2.1]; exact HI.out.2.put HGg.out _ _⟩⟩
              case measure => simp [intOf]; omega
          · have h2 : 24 ≤ (a : Int) := by omega
            have h3 : 24 ≤ (a : Int) + k := by omega
            have h4 : 28 ≤ (a : Int) + k := by omega
            have d0 : decide (24 ≤ (a : Int) + k) = true := decide_eq_true (by omega)
            have d1 : decide ((a : Int) + k < 28) = false := decide_eq_false (by omega)
            have d2 : decide (24 ≤ (a : Int)) = true := decide_eq_true (by omega)
            have d3 : decide ((a : Int) < 28) = false := decide_eq_false (by omega)
            go_wp2
            go_region
            all_goals
              (try go_wp2)
              go_roundw
              case rel => exact ⟨(b != 0), k + 1, _, rfl, by go_num, ⟨HI.out.1.step HY.out.2.2.1 HY.out.2.2.2 (by omega) (b != 0) (flagF b _ HY.out.2.1), by rw [HY.out.1, HY.out.2.1]; exact HI.out.2.put HGg.out _ _⟩⟩
              case measure => simp [intOf]; omega
          · have h3 : (a : Int) < 28 := by omega
            have h4 : 24 ≤ (a : Int) + k := by omega
            have d0 : decide (24 ≤ (a : Int) + k) = true := decide_eq_true (by omega)
            have d1 : decide ((a : Int) + k < 28) = true := decide_eq_true (by omega)
            have d2 : decide (24 ≤ (a : Int)) = true := decide_eq_true (by omega)
            have d3 : decide ((a : Int) < 28) = true := decide_eq_true (by omega)
            go_wp2
            go_region
            all_goals
              (try go_wp2)
              go_roundw
              case rel => exact ⟨(b != 0), k + 1, _, rfl, by go_num, ⟨HI.out.1.step HY.out.2.2.1 HY.out.2.2.2 (by omega) (b != 0) (flagF b _ HY.out.2.1), by rw [HY.out.1, HY.out.2.1]; exact HI.out.2.put HGg.out _ _⟩⟩
              case measure => simp [intOf]; omega
          · have h3 : (a : Int) + k < 28 := by omega
            have d0 : decide (24 ≤ (a : Int) + k) = true := decide_eq_true (by omega)
            have d1 : decide ((a : Int) + k < 28) = true := decide_eq_true (by omega)
            have d2 : decide (24 ≤ (a : Int)) = false := decide_eq_false (by omega)
            have d3 : decide ((a : Int) < 28) = true := decide_eq_true (by omega)
            go_wp2
            go_meet
            exact ⟨_, k, ys, rfl, HI⟩
          · have h4 : 24 ≤ (a : Int) + k := by omega
            have d0 : decide (24 ≤ (a : Int) + k) = true := decide_eq_true (by omega)
            have d1 : decide ((a : Int) + k < 28) = false := decide_eq_false (by omega)
            have d2 : decide (24 ≤ (a : Int)) = true := decide_eq_true (by omega)
            have d3 : decide ((a : Int) < 28) = true := decide_eq_true (by omega)
            go_wp2
            go_meet
            exact ⟨_, k, ys, rfl, HI⟩
        · rcases pA with h1 | h1 | ⟨h1, h2⟩ | ⟨h1, h2⟩ | ⟨h1, h2, h3⟩
          · have h2 : (a : Int) < 24 := by omega
            have d0 : decide (24 ≤ (a : Int) + k) = false := decide_eq_false (by omega)
            have d1 : decide ((a : Int) + k < 28) = true := decide_eq_true (by omega)
            have d2 : decide (24 ≤ (a : Int)) = false := decide_eq_false (by omega)
            have d3 : decide ((a : Int) < 28) = true := decide_eq_true (by omega)
            go_wp2
            go_region
            all_goals
              (try go_wp2)
              go_roundw
              case rel => exact ⟨true, k + 1, _, rfl, by go_num, ⟨HI.out.1.step HY.out.2.2.1 HY.out.2.2.2 (by omega) true (by simp), by rw [HY.out.1, HY.out.2.1]; exact HI.out.2.put HGg.out _ _⟩⟩
              case measure => simp [intOf]; omega
          · have h2 : 24 ≤ (a : Int) := by omega
            have h3 : 24 ≤ (a : Int) + k := by omega
            have h4 : 28 ≤ (a : Int) + k := by omega
            have d0 : decide (24 ≤ (a : Int) + k) = true := decide_eq_true (by omega)
            have d1 : decide ((a : Int) + k < 28) = false := decide_eq_false (by omega)
            have d2 : decide (24 ≤ (a : Int)) = true := decide_eq_true (by omega)
            have d3 : decide ((a : Int) < 28) = false := decide_eq_false (by omega)
            go_wp2
            go_region
            all_goals
              (try go_wp2)
              go_roundw
              case rel => exact ⟨true, k + 1, _, rfl, by go_num, ⟨HI.out.1.step HY.out.2.2.1 HY.out.2.2.2 (by omega) true (by simp), by rw [HY.out.1, HY.out.2.1]; exact HI.out.2.put HGg.out _ _⟩⟩
              case measure => simp [intOf]; omega
          · have h3 : (a : Int) < 28 := by omega
            have h4 : 24 ≤ (a : Int) + k := by omega
            have d0 : decide (24 ≤ (a : Int) + k) = true := decide_eq_true (by omega)
            have d1 : decide ((a : Int) + k < 28) = true := decide_eq_true (by omega)
            have d2 : decide (24 ≤ (a : Int)) = true := decide_eq_true (by omega)
            have d3 : decide ((a : Int) < 28) = true := decide_eq_true (by omega)
            go_wp2
            go_region
            all_goals
              (try go_wp2)
              go_roundw
              case rel => exact ⟨true, k + 1, _, rfl, by go_num, ⟨HI.out.1.step HY.out.2.2.1 HY.out.2.2.2 (by omega) true (by simp), by rw [HY.out.1, HY.out.2.1]; exact HI.out.2.put HGg.out _ _⟩⟩
              case measure => simp [intOf]; omega
          · have h3 : (a : Int) + k < 28 := by omega
            have d0 : decide (24 ≤ (a : Int) + k) = true := decide_eq_true (by omega)
            have d1 : decide ((a : Int) + k < 28) = true := decide_eq_true (by omega)
            have d2 : decide (24 ≤ (a : Int)) = false := decide_eq_false (by omega)
            have d3 : decide ((a : Int) < 28) = true := decide_eq_true (by omega)
            go_wp2
            go_meet
            exact ⟨_, k, ys, rfl, HI⟩
          · have h4 : 24 ≤ (a : Int) + k := by omega
            have d0 : decide (24 ≤ (a : Int) + k) = true := decide_eq_true (by omega)
            have d1 : decide ((a : Int) + k < 28) = false := decide_eq_false (by omega)
            have d2 : decide (24 ≤ (a : Int)) = true := decide_eq_true (by omega)
            have d3 : decide ((a : Int) < 28) = true := decide_eq_true (by omega)
            go_wp2
            go_meet
            exact ⟨_, k, ys, rfl, HI⟩
      · by_cases h4 : (k : Int) < 4
        · have h5 : 512 ≤ (a : Int) + k := by omega
          have n1 : (IntKind.i64.wrap ((a : Int) + k)) = (a : Int) + k := IntWalk.i64_in _ (by omega)
          clear hk
          go_wp2
          go_meet
          exact ⟨c, k, ys, rfl, HI⟩
        · clear hk
          go_wp2
          go_meet
          exact ⟨c, k, ys, rfl, HI⟩
  case rest =>
    obtain ⟨c, k, ys, hs7, HC⟩ := hcut
    subst hs7
    have HYR : Hd (∀ y, y ∈ ys → 0 ≤ y ∧ y ≤ 255) := ⟨HC.out.1.range (wr_length p r T) (wr_range p r T) HBs.out⟩
    have qa := eql_err_nil (B 1)
    have qz : ∀ w, (binOp .neq 24 (.agg #[.int .i64 0, .int .i64 0, .int .u64 0]) (.agg #[.int .i64 0, .int .i64 0, .int .u64 0])).run Tryd.prog w = .ok (.bool false) w := fun w => neq_meta 0 0 0 w
    clear ha0 ha1
    cases c
    · obtain rfl : ys = Meta.wr p r T := HC.out.1.unchanged (wr_length p r T) (wr_range p r T)
      go_wp2_with (fail)
      go_loopw [10, 11, 12] (fun s10 _ _ wx => ∃ n : Nat, n ≤ 2 ∧ s10 = .int .i64 n ∧ Hd (Rows w wx m0 W1.heap.size g p r T (Meta.wr p r T))) (fun s10 _ _ _ => 2 - (intOf s10).toNat)
      case atStart => exact ⟨0, by omega, rfl, ⟨HC.out.2⟩⟩
      case round =>
        obtain ⟨n, hn2, rfl, HR⟩ := hrel
        by_cases hn : (n : Int) < 2
        · by_cases hne : (n : Int) = T2
          · have HNe : Hd ((n : Int) = T2) := ⟨hne⟩
            have qe : ((n : Int) == T2) = true := by simp [hne]
            clear hne
            have j0 := (Joins.cell_of_block HR.out.meta3 0).trans (show _ = some (Value.int .i64 p) from rfl)
            go_upto_region 20 with (first
              | (go_at_call 25; refine (decode_calls (B := B) _ 512 512 (Meta.wr p r T) (wr_length p r T).symm p n _ _ _ _ (decR_back p r T HM.out HT.out.1 HT.out.2 n (HT2.out.trans HNe.out.symm)) _ (HE.out.1.below HR.out.below) (HE.out.2.below HR.out.below) (RdB.of_row0 HR.out.bytes) (wr_range p r T)).mono ?_; rw [errV0]; rintro e W5 ⟨rfl, hb⟩; have H5 : Hd (Rows w W5 m0 W1.heap.size g p r T (Meta.wr p r T)) := ⟨HR.out.step hb⟩; clear hb)
              | fail)
            obtain ⟨W6, hW6⟩ : ∃ W6, W5.alloc (.cells #[.int .i64 p, .int .i64 r, .int .u64 T] 24) = W6 := ⟨_, rfl⟩
            have H6 : Hd (Rows w W6 m0 W1.heap.size g p r T (Meta.wr p r T)) := ⟨hW6 ▸ H5.out.step (below_alloc (Below.refl _ _) _)⟩
            rw [hW6]
            have l2 := (Joins.cell_of_block H6.out.meta3 2).trans (show _ = some (Value.int .u64 T) from rfl)
            clear hW6 j0
            go_quiet (fail)
            rename_i nq
            (try go_wp2)
            go_roundw
            case rel => exact ⟨n + 1, by omega, by go_num, ⟨H6.out.step (below_drewN (Below.refl _ _) nq)⟩⟩
            case measure => simp [intOf]; omega
          · have HNe : Hd (¬ (n : Int) = T2) := ⟨hne⟩
            have qe : ((n : Int) == T2) = false := by simp [hne]
            clear hne
            have j0 := (Joins.cell_of_block HR.out.meta3 0).trans (show _ = some (Value.int .i64 p) from rfl)
            go_upto_region 20 with (first
              | (go_at_call 25; refine (decode_calls (B := B) _ 512 512 (Meta.wr p r T) (wr_length p r T).symm p n _ _ _ _ (decR_other p r T HM.out HT.out.1 HT.out.2 p n (pagesM HM.out) (by omega) (fun k => HNe.out (by have := HT2.out; have := k.2; omega))) _ (HE.out.1.below HR.out.below) (HE.out.2.below HR.out.below) (RdB.of_row0 HR.out.bytes) (wr_range p r T)).mono ?_; rw [errV2]; rintro e W5 ⟨rfl, hb⟩; have H5 : Hd (Rows w W5 m0 W1.heap.size g p r T (Meta.wr p r T)) := ⟨HR.out.step hb⟩; clear hb)
              | fail)
            obtain ⟨W6, hW6⟩ : ∃ W6, W5.alloc (.cells #[.int .i64 0, .int .i64 0, .int .u64 0] 24) = W6 := ⟨_, rfl⟩
            have H6 : Hd (Rows w W6 m0 W1.heap.size g p r T (Meta.wr p r T)) := ⟨hW6 ▸ H5.out.step (below_alloc (Below.refl _ _) _)⟩
            rw [hW6]
            have l2 := (Joins.cell_of_block H6.out.meta3 2).trans (show _ = some (Value.int .u64 T) from rfl)
            clear hW6 j0
            go_quiet (fail)
            rename_i nq
            (try go_wp2)
            go_roundw
            case rel => exact ⟨n + 1, by omega, by go_num, ⟨H6.out.step (below_drewN (Below.refl _ _) nq)⟩⟩
            case measure => simp [intOf]; omega
        · go_wp2
          go_ret
          exact ⟨rfl, HR.out.below⟩
    · go_wp2_with (fail)
      go_loopw [10, 11, 12] (fun s10 _ _ wx => ∃ n : Nat, n ≤ 2 ∧ s10 = .int .i64 n ∧ Hd (Rows w wx m0 W1.heap.size g p r T ys)) (fun s10 _ _ _ => 2 - (intOf s10).toNat)
      case atStart => exact ⟨0, by omega, rfl, ⟨HC.out.2⟩⟩
      case round =>
        obtain ⟨n, hn2, rfl, HR⟩ := hrel
        by_cases hn : (n : Int) < 2
        · have hn0 : n = 0 ∨ n = 1 := by omega
          have j0 := (Joins.cell_of_block HR.out.meta3 0).trans (show _ = some (Value.int .i64 p) from rfl)
          go_upto_region 20 with (first
            | (go_at_call 25; refine (decode_calls (B := B) _ 512 512 ys HC.out.1.len.symm p n _ _ _ _ (decR_bad ys p n (pagesM HM.out) (by omega) HC.out.1.len (HC.out.1.none HBs.out HM.out HT.out.1 HT.out.2 p n)) _ (HE.out.1.below HR.out.below) (HE.out.2.below HR.out.below) (RdB.of_row0 HR.out.bytes) HYR.out).mono ?_; rw [errV2]; rintro e W5 ⟨rfl, hb⟩; have H5 : Hd (Rows w W5 m0 W1.heap.size g p r T ys) := ⟨HR.out.step hb⟩; clear hb)
            | (go_at_call 19; refine (num_errY 2 _ (errV2 B) (by decide) _ (HE.out.1.below (below_alloc H5.out.below _))).mono ?_; rintro e W7 ⟨rfl, rfl⟩)
            | fail)
          obtain ⟨W6, hW6⟩ : ∃ W6, W5.alloc (.cells #[.int .i64 0, .int .i64 0, .int .u64 0] 24) = W6 := ⟨_, rfl⟩
          have H6 : Hd (Rows w W6 m0 W1.heap.size g p r T ys) := ⟨hW6 ▸ H5.out.step (below_alloc (Below.refl _ _) _)⟩
          rw [hW6]
          have l2 := (Joins.cell_of_block H6.out.meta3 2).trans (show _ = some (Value.int .u64 T) from rfl)
          clear hW6 j0
          go_quiet (fail)
          rename_i nq
          (try go_wp2)
          go_roundw
          case rel => exact ⟨n + 1, by omega, by go_num, ⟨H6.out.step (below_drewN (Below.refl _ _) nq)⟩⟩
          case measure => simp [intOf]; omega
        · go_wp2
          go_ret
          exact ⟨rfl, HR.out.below⟩
end Go.Proofs.YtoenacghkpgnpaaDoor.LMetaBurst
