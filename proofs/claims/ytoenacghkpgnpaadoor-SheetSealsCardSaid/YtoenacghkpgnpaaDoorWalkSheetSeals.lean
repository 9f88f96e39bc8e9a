/- The walk of SheetSeals: the page of every sheet, every refusal; what was answered is new memory. -/
import Derived.Test.YtoenacghkpgnpaaDoorSeal
import Derived.Test.YtoenacghkpgnpaaDoorSheetP
import Derived.Test.YtoenacghkpgnpaaDoorErrV
import Derived.Lib.SmallJoins
import Derived.Deep.CutBlock
import Derived.Deep.CutRange
namespace Go.Proofs.YtoenacghkpgnpaaDoor.LSheetSeals
open Go.RowKit Go.Proofs.YtoenacghkpgnpaaDoor.K Go.Proofs.YtoenacghkpgnpaaDoor.E Go.Proofs.YtoenacghkpgnpaaDoor.P1 Go.Proofs.YtoenacghkpgnpaaDoor.Codec Go.Proofs.YtoenacghkpgnpaaDoor.Sh Go.Proofs.YtoenacghkpgnpaaDoor.S Go.Proofs.YtoenacghkpgnpaaDoor.D Go.Proofs.YtoenacghkpgnpaaDoor.R5

/-- The box of the sheet, and what stands in its cells. -/
theorem bx5 {W : World} {g : Nat} {a b c d e : Value} (h : W.heap[g]? = some (.cells #[a, b, c, d, e] 37 (0, 0))) : W.cell? ⟨g, 0, none⟩ = some a ∧ W.cell? ⟨g, 1, none⟩ = some b ∧ W.cell? ⟨g, 2, none⟩ = some c ∧ W.cell? ⟨g, 3, none⟩ = some d ∧ W.cell? ⟨g, 4, none⟩ = some e :=
  ⟨(cell_of_row _ _ _ _ _ _ h).trans rfl, (cell_of_row _ _ _ _ _ _ h).trans rfl, (cell_of_row _ _ _ _ _ _ h).trans rfl, (cell_of_row _ _ _ _ _ _ h).trans rfl, (cell_of_row _ _ _ _ _ _ h).trans rfl⟩

set_option maxRecDepth 100000 in
set_option maxHeartbeats 1000000 in
theorem walk_ok {B : Nat → Addr} (kd id tx ct : Int) (bd : ByteArray) (w : World) (hE : Errs errG B w) (hs : TabOk w) (hh : HeadOk w) (ht0 : 0 ≤ tx) (ht1 : tx < 18446744073709551616) (hm : MayS kd ct id bd.size) :
    Calls Tryd.prog 4 #[.agg #[.int .i64 kd, .int .i64 id, .int .u64 tx, .int .i64 ct, .string bd]] w fun e w' => e = .returned (.bool true) ∧ Below w.heap.size w w' := by
  have HE : Hd (Errs errG B w ∧ TabOk w ∧ HeadOk w) := ⟨hE, hs, hh⟩
  have HT : Hd (0 ≤ tx ∧ tx < 18446744073709551616) := ⟨ht0, ht1⟩
  have HM : Hd (MayS kd ct id bd.size) := ⟨hm⟩
  have HL : Hd ((pg kd ct id tx (sb bd)).length = 4096) := ⟨pg_length _ _ _ _ _ (by rw [sb_length]; unfold MayS at hm; omega)⟩
  clear hE hs hh ht0 ht1 hm
  go_enter Tryd.func4, Tryd.ntmps4
  go_upto_region 1 with (fail)
  have H0 : Hd ((Below w.heap.size w (w.alloc (.cells #[.int .i64 kd, .int .i64 id, .int .u64 tx, .int .i64 ct, .string bd] 37)) ∧ (w.alloc (.cells #[.int .i64 kd, .int .i64 id, .int .u64 tx, .int .i64 ct, .string bd] 37)).heap[w.heap.size]? = some (.cells #[.int .i64 kd, .int .i64 id, .int .u64 tx, .int .i64 ct, .string bd] 37 (0, 0))) ∧ True) := ⟨⟨below_alloc (Below.refl _ _) _, row_alloc_at _ _ _ rfl⟩, trivial⟩
  obtain ⟨W0, hW0⟩ : ∃ W0, w.alloc (.cells #[.int .i64 kd, .int .i64 id, .int .u64 tx, .int .i64 ct, .string bd] 37) = W0 := ⟨_, rfl⟩
  rw [hW0] at H0 ⊢
  clear hW0
  obtain ⟨j0, j1, j2, j3, j4⟩ := bx5 H0.out.1.2
  go_upto_region 2 with (first
    | (go_at_call 22; refine (seal_ok kd id tx ct bd _ (HE.out.2.1.below H0.out.1.1) (HE.out.2.2.below H0.out.1.1) HM.out HT.out.1 HT.out.2).mono ?_; rintro e W1 ⟨g1, rfl, hg, hrow, hb⟩; have H1 : Hd ((Below w.heap.size w W1 ∧ W1.heap[w.heap.size]? = some (.cells #[.int .i64 kd, .int .i64 id, .int .u64 tx, .int .i64 ct, .string bd] 37 (0, 0))) ∧ W1.heap[g1]? = some (.cells (u8s (pg kd ct id tx (sb bd))) 5 (0, 0)) ∧ w.heap.size < g1) := ⟨⟨below_step H0.out.1.1 hb, below_row hb H0.out.1.2⟩, hrow, Nat.lt_of_lt_of_le (row_lt H0.out.1.2) hg⟩; clear hrow hg hb j0 j1 j2 j3 j4)
    | fail)
  obtain ⟨j0, j1, j2, j3, j4⟩ := bx5 H1.out.1.2
  go_upto_region 3 with (first
    | (go_at_call 23; refine (rseal_calls kd ct id tx bd _ HT.out.1 HT.out.2 (pg kd ct id tx (sb bd)) 0 (by rw [if_pos HM.out])).mono ?_; rintro e W2 ⟨vq, rfl, ho, hb⟩; have H2 : Hd ((Below w.heap.size w W2 ∧ W2.heap[w.heap.size]? = some (.cells #[.int .i64 kd, .int .i64 id, .int .u64 tx, .int .i64 ct, .string bd] 37 (0, 0))) ∧ W2.heap[g1]? = some (.cells (u8s (pg kd ct id tx (sb bd))) 5 (0, 0)) ∧ OwnB W2 W1.heap.size vq (pg kd ct id tx (sb bd))) := ⟨⟨below_step H1.out.1.1 hb, below_row hb H1.out.1.2⟩, below_row hb H1.out.2.1, ho⟩; clear ho hb j0 j1 j2 j3 j4)
    | fail)
  obtain ⟨Aq, cq, hvq, hcq, hrq⟩ := H2.out.2.2.form
  have HC : Hd (List.length (pg kd ct id tx (sb bd)) ≤ cq) := ⟨hcq⟩
  have HRQ : Hd (RdB W2 Aq (pg kd ct id tx (sb bd))) := ⟨hrq⟩
  rw [HL.out] at hvq
  subst hvq
  clear hcq hrq
  go_upto_region 6 with (first
    | (go_at_call 18; refine (same_calls _ _ _ _ _ _ (pg kd ct id tx (sb bd)) (pg kd ct id tx (sb bd)) true (by simp) HL.out.symm HL.out.symm _ (RdB.of_row0 H2.out.2.1) HRQ.out (Nat.le_refl _) (by rw [← HL.out]; exact HC.out) (by rw [HL.out]; omega) (by rw [HL.out]; omega)).mono ?_; rintro e W3 ⟨rfl, hw⟩; have hb := below_drawn hw; have H3 : Hd ((Below w.heap.size w W3 ∧ W3.heap[w.heap.size]? = some (.cells #[.int .i64 kd, .int .i64 id, .int .u64 tx, .int .i64 ct, .string bd] 37 (0, 0))) ∧ W3.heap[g1]? = some (.cells (u8s (pg kd ct id tx (sb bd))) 5 (0, 0)) ∧ OwnB W3 W1.heap.size (.slice Aq 4096 cq) (pg kd ct id tx (sb bd))) := ⟨⟨below_step H2.out.1.1 hb, below_row hb H2.out.1.2⟩, below_row hb H2.out.2.1, H2.out.2.2.below hb⟩; clear hw hb)
    | (go_at_call 19; refine (num_errV (B := B) 0 (by decide) _ (HE.out.1.below H3.out.1.1)).mono ?_; rintro e W' ⟨rfl, rfl⟩)
    | fail)
  obtain ⟨j0, j1, j2, j3, j4⟩ := bx5 H3.out.1.2
  go_upto_block 0 with (first
    | (go_at_call 22; refine (seal_ok kd id tx ct bd _ (HE.out.2.1.below H3.out.1.1) (HE.out.2.2.below H3.out.1.1) HM.out HT.out.1 HT.out.2).mono ?_; rintro e W4 ⟨g2, rfl, hg, hrow, hb⟩; have H4 : Hd ((Below w.heap.size w W4 ∧ W4.heap[w.heap.size]? = some (.cells #[.int .i64 kd, .int .i64 id, .int .u64 tx, .int .i64 ct, .string bd] 37 (0, 0))) ∧ W4.heap[g1]? = some (.cells (u8s (pg kd ct id tx (sb bd))) 5 (0, 0)) ∧ W4.heap[g2]? = some (.cells (u8s (pg kd ct id tx (sb bd))) 5 (0, 0)) ∧ OwnB W4 W1.heap.size (.slice Aq 4096 cq) (pg kd ct id tx (sb bd)) ∧ W3.heap.size ≤ g2) := ⟨⟨below_step H3.out.1.1 hb, below_row hb H3.out.1.2⟩, below_row hb H3.out.2.1, hrow, H3.out.2.2.below hb, hg⟩; clear hrow hg hb j0 j1 j2 j3 j4)
    | fail)
  go_cut [3] from 42 to 50 (fun s3 wx => s3 = .slice (some ⟨g1, 0, none⟩) 4096 4096 ∧ ∃ L : List Int, Hd (L.length = 4096 ∧ Tch (fun i => i = g1) W4 wx ∧ wx.heap[g1]? = some (.cells (u8s L) 5 (0, 0))))
  case first =>
    go_wp2_with (fail)
    go_loopw [10] (fun s9 wx => ∃ (i : Nat) (L : List Int), i ≤ 4096 ∧ s9 = .int .i64 i ∧ Hd (L.length = 4096 ∧ Tch (fun i => i = g1) W4 wx ∧ wx.heap[g1]? = some (.cells (u8s L) 5 (0, 0)))) (fun s9 _ => 4096 - (intOf s9).toNat)
    case atStart => exact ⟨0, _, by omega, rfl, ⟨HL.out, Tch.refl _ _, H4.out.2.1⟩⟩
    case round =>
      obtain ⟨i, L, hi, rfl, HI⟩ := hrel
      by_cases hlt : (i : Int) < 4096
      · obtain ⟨y, hy⟩ : ∃ y, L.getD i 0 = y := ⟨_, rfl⟩
        have cp : wr.cell? ⟨g1, i, none⟩ = some (.int .u8 y) := by
          rw [Joins.cell_of_block HI.out.2.2, K.u8s_at L i (by rw [HI.out.1]; omega), hy]
        have fp := Joins.unfrozen_of_block HI.out.2.2
        clear hy
        go_wp2
        go_roundw
        case rel => exact ⟨i + 1, L.set i 99, by omega, by go_num, ⟨by rw [List.length_set]; exact HI.out.1, HI.out.2.1.setCell (.inl rfl) _, by rw [← u8s_set]; exact Joins.block_setCell HI.out.2.2 _⟩⟩
        case measure => simp [intOf]; omega
      · go_wp2
        go_meet
        exact ⟨rfl, L, HI⟩
  case rest =>
    obtain ⟨hs3, L, HI⟩ := hcut
    subst hs3
    have HQ : Hd (OwnB wc w.heap.size (.slice (some ⟨g1, 0, none⟩) 4096 4096) L) := ⟨by have h := OwnB.of_row (base := w.heap.size) HI.out.2.2 (Nat.le_of_lt H1.out.2.2) (by rw [HI.out.1]; decide); rw [HI.out.1] at h; exact h⟩
    have HW4 : Hd (w.heap.size ≤ W4.heap.size) := ⟨H4.out.1.1.size⟩
    go_upto_block 2 with (fail)
    go_cut [3] from 51 to 57 (fun s3 wx => ∃ (A10 : Option Addr) (c10 : Nat), s3 = .slice A10 4160 c10 ∧ Hd (Tch (fun i => i = g1) W4 wx))
    case first =>
      go_wp2_with (fail)
      go_loopw [3, 11] (fun v s11 wx => ∃ (j : Nat) (ys : List Int), j ≤ 64 ∧ s11 = .int .i64 j ∧ Hd (ys.length = 4096 + j ∧ OwnB wx w.heap.size v ys ∧ Tch (fun i => i = g1) W4 wx ∧ ∀ i, v.ownBlock = some i → i = g1 ∨ W4.heap.size ≤ i)) (fun _ s11 _ => 64 - (intOf s11).toNat)
      case atStart => exact ⟨0, _, by omega, rfl, ⟨by rw [HI.out.1], HQ.out, HI.out.2.1, fun i hi => .inl (Option.some.inj hi).symm⟩⟩
      case round =>
        obtain ⟨j, ys, hj1, rfl, HJ⟩ := hrel
        by_cases hlt : (j : Int) < 64
        · go_wp2_with (first
            | ((with_reducible refine gD (N := 57) rfl ?_); refine wpList_ap rfl (.tmp 55) (.tmp 56) rfl w.heap.size ys [98] u3 rfl (Ap.alloc (.inl HJ.out.2.1) _) (by rw [World.size_alloc]; exact Nat.le_succ_of_le (Nat.le_trans HW4.out HJ.out.2.2.1.size)) _ _ _ rfl rfl (by decide) (one_reads _ _ _) (by rw [HJ.out.1]; omega) ?_; intro v2 w2 ho ht hat; have HN2 : Hd (OwnB w2 w.heap.size v2 (ys ++ [98]) ∧ Tch (fun i => i = g1) W4 w2 ∧ ∀ i, v2.ownBlock = some i → i = g1 ∨ W4.heap.size ≤ i) := ⟨ho.out, (HJ.out.2.2.1.alloc _).trans ht (fun i hi => HJ.out.2.2.2 i hi.1), fun i hi => (hat i hi).elim (fun e => HJ.out.2.2.2 i e) (fun e => .inr (Nat.le_trans HJ.out.2.2.1.size (Nat.le_trans (by rw [World.size_alloc]; omega) e)))⟩; clear ho ht hat)
            | fail)
          go_roundw
          case rel => exact ⟨j + 1, _, by omega, by go_num, ⟨by rw [List.length_append, HJ.out.1]; rfl, HN2.out.1, HN2.out.2.1, HN2.out.2.2⟩⟩
          case measure => simp [intOf]; omega
        · obtain rfl : j = 64 := by omega
          obtain ⟨A10, c10, hv, -, -⟩ := HJ.out.2.1.form
          rw [HJ.out.1] at hv
          subst hv
          go_wp2
          go_meet
          exact ⟨_, _, rfl, ⟨HJ.out.2.2.1⟩⟩
    case rest =>
      obtain ⟨A10, c10, hs10, HT4⟩ := hcut
      subst hs10
      have hg1 := row_lt H1.out.2.1
      have hne2 : ¬ g2 = g1 := by have := row_lt H3.out.2.1; have := H4.out.2.2.2.2; omega
      have hne1 : ¬ w.heap.size = g1 := by have := H1.out.2.2; omega
      obtain ⟨Ah, ch, hvh, hcc, hrd⟩ := (H4.out.2.2.2.1.tch HT4.out (fun k hk => by have := (H4.out.2.2.2.1.lt k hk).1; omega)).form
      have HR : Hd ((Below w.heap.size w wc ∧ wc.heap[w.heap.size]? = some (.cells #[.int .i64 kd, .int .i64 id, .int .u64 tx, .int .i64 ct, .string bd] 37 (0, 0))) ∧ wc.heap[g2]? = some (.cells (u8s (pg kd ct id tx (sb bd))) 5 (0, 0)) ∧ RdB wc Aq (pg kd ct id tx (sb bd))) := ⟨⟨below_tch H4.out.1.1 HT4.out (fun i hi => by have := H1.out.2.2; omega), HT4.out.row H4.out.1.2 hne1⟩, HT4.out.row H4.out.2.2.1 hne2, by rw [HL.out] at hvh; injection hvh with h1 h2 h3; rw [h1]; exact hrd⟩
      clear hvh hcc hrd hg1 hne1 hne2
      obtain ⟨j0, j1, j2, j3, j4⟩ := bx5 HR.out.1.2
      go_upto_region 16 with (first
        | (go_at_call 22; refine (seal_ok kd id tx ct bd _ (HE.out.2.1.below HR.out.1.1) (HE.out.2.2.below HR.out.1.1) HM.out HT.out.1 HT.out.2).mono ?_; rintro e W5 ⟨g3, rfl, hg, hrow, hb⟩; have H5 : Hd ((Below w.heap.size w W5 ∧ W5.heap[w.heap.size]? = some (.cells #[.int .i64 kd, .int .i64 id, .int .u64 tx, .int .i64 ct, .string bd] 37 (0, 0))) ∧ W5.heap[g2]? = some (.cells (u8s (pg kd ct id tx (sb bd))) 5 (0, 0)) ∧ W5.heap[g3]? = some (.cells (u8s (pg kd ct id tx (sb bd))) 5 (0, 0)) ∧ RdB W5 Aq (pg kd ct id tx (sb bd))) := ⟨⟨below_step HR.out.1.1 hb, below_row hb HR.out.1.2⟩, below_row hb HR.out.2.1, hrow, HR.out.2.2.below hb⟩; clear hrow hg hb j0 j1 j2 j3 j4)
        | fail)
      go_upto_region 17 with (first
        | (go_at_call 18; refine (same_calls _ _ _ _ _ _ (pg kd ct id tx (sb bd)) (pg kd ct id tx (sb bd)) true (by simp) HL.out.symm HL.out.symm _ (RdB.of_row0 H5.out.2.1) H5.out.2.2.2 (Nat.le_refl _) (by rw [← HL.out]; exact HC.out) (by rw [HL.out]; omega) (by rw [HL.out]; omega)).mono ?_; rintro e W6 ⟨rfl, hw⟩; have hb := below_drawn hw; have H6 : Hd ((Below w.heap.size w W6 ∧ W6.heap[w.heap.size]? = some (.cells #[.int .i64 kd, .int .i64 id, .int .u64 tx, .int .i64 ct, .string bd] 37 (0, 0))) ∧ W6.heap[g3]? = some (.cells (u8s (pg kd ct id tx (sb bd))) 5 (0, 0)) ∧ RdB W6 Aq (pg kd ct id tx (sb bd))) := ⟨⟨below_step H5.out.1.1 hb, below_row hb H5.out.1.2⟩, below_row hb H5.out.2.2.1, H5.out.2.2.2.below hb⟩; clear hw hb)
        | fail)
      go_upto_region 18 with (first
        | (go_at_call 18; refine (same_calls _ _ _ _ _ _ (pg kd ct id tx (sb bd)) (pg kd ct id tx (sb bd)) true (by simp) HL.out.symm HL.out.symm _ (RdB.of_row0 H6.out.2.1) H6.out.2.2 (Nat.le_refl _) (by rw [← HL.out]; exact HC.out) (by rw [HL.out]; omega) (by rw [HL.out]; omega)).mono ?_; rintro e W7 ⟨rfl, hw⟩; have H7 : Hd (Below w.heap.size w W7) := ⟨below_step H6.out.1.1 (below_drawn hw)⟩; clear hw)
        | fail)
      go_wp2
      go_ret
      exact ⟨rfl, H7.out⟩

set_option maxRecDepth 100000 in
set_option maxHeartbeats 1000000 in
theorem walk_no {B : Nat → Addr} (kd id tx ct : Int) (bd : ByteArray) (w : World) (hE : Errs errG B w) (hs : TabOk w) (hh : HeadOk w) (ht0 : 0 ≤ tx) (ht1 : tx < 18446744073709551616) (hm : ¬ MayS kd ct id bd.size) :
    Calls Tryd.prog 4 #[.agg #[.int .i64 kd, .int .i64 id, .int .u64 tx, .int .i64 ct, .string bd]] w fun e w' => e = .returned (.bool true) ∧ Below w.heap.size w w' := by
  have HE : Hd (Errs errG B w ∧ TabOk w ∧ HeadOk w) := ⟨hE, hs, hh⟩
  have HT : Hd (0 ≤ tx ∧ tx < 18446744073709551616) := ⟨ht0, ht1⟩
  have HM : Hd (¬ MayS kd ct id bd.size) := ⟨hm⟩
  clear hE hs hh ht0 ht1 hm
  go_enter Tryd.func4, Tryd.ntmps4
  go_upto_region 1 with (fail)
  have H0 : Hd ((Below w.heap.size w (w.alloc (.cells #[.int .i64 kd, .int .i64 id, .int .u64 tx, .int .i64 ct, .string bd] 37)) ∧ (w.alloc (.cells #[.int .i64 kd, .int .i64 id, .int .u64 tx, .int .i64 ct, .string bd] 37)).heap[w.heap.size]? = some (.cells #[.int .i64 kd, .int .i64 id, .int .u64 tx, .int .i64 ct, .string bd] 37 (0, 0))) ∧ True) := ⟨⟨below_alloc (Below.refl _ _) _, row_alloc_at _ _ _ rfl⟩, trivial⟩
  obtain ⟨W0, hW0⟩ : ∃ W0, w.alloc (.cells #[.int .i64 kd, .int .i64 id, .int .u64 tx, .int .i64 ct, .string bd] 37) = W0 := ⟨_, rfl⟩
  rw [hW0] at H0 ⊢
  clear hW0
  obtain ⟨j0, j1, j2, j3, j4⟩ := bx5 H0.out.1.2
  go_upto_region 2 with (first
    | (go_at_call 22; refine (seal_no kd id tx ct bd _ _ ((HE.out.1.below H0.out.1.1).cell 0 (by decide)) HM.out).mono ?_; rintro e W1 ⟨rfl, hb⟩; have H1 : Hd ((Below w.heap.size w W1 ∧ W1.heap[w.heap.size]? = some (.cells #[.int .i64 kd, .int .i64 id, .int .u64 tx, .int .i64 ct, .string bd] 37 (0, 0))) ∧ True) := ⟨⟨below_step H0.out.1.1 hb, below_row hb H0.out.1.2⟩, trivial⟩; clear hb j0 j1 j2 j3 j4)
    | fail)
  obtain ⟨j0, j1, j2, j3, j4⟩ := bx5 H1.out.1.2
  go_upto_region 3 with (first
    | (go_at_call 23; refine (rseal_calls kd ct id tx bd _ HT.out.1 HT.out.2 [] 1 (by rw [if_neg HM.out])).mono ?_; rintro e W2 ⟨vq, rfl, ho, hb⟩; have H2 : Hd ((Below w.heap.size w W2 ∧ W2.heap[w.heap.size]? = some (.cells #[.int .i64 kd, .int .i64 id, .int .u64 tx, .int .i64 ct, .string bd] 37 (0, 0))) ∧ OwnB W2 W1.heap.size vq []) := ⟨⟨below_step H1.out.1.1 hb, below_row hb H1.out.1.2⟩, ho⟩; clear ho hb j0 j1 j2 j3 j4)
    | fail)
  obtain ⟨Aq, cq, hvq, hcq, hrq⟩ := H2.out.2.form
  have HC : Hd (List.length ([] : List Int) ≤ cq) := ⟨hcq⟩
  have HRQ : Hd (RdB W2 Aq []) := ⟨hrq⟩
  rw [List.length_nil] at hvq
  subst hvq
  clear hcq hrq
  go_upto_region 6 with (first
    | (go_at_call 18; refine (same_calls _ _ _ _ _ _ [] [] true (by simp) rfl rfl _ (RdB.nil _ _) HRQ.out (Nat.le_refl _) HC.out (by decide) (by decide)).mono ?_; rintro e W3 ⟨rfl, hw⟩; have hb := below_drawn hw; have H3 : Hd ((Below w.heap.size w W3 ∧ W3.heap[w.heap.size]? = some (.cells #[.int .i64 kd, .int .i64 id, .int .u64 tx, .int .i64 ct, .string bd] 37 (0, 0))) ∧ OwnB W3 W1.heap.size (.slice Aq 0 cq) []) := ⟨⟨below_step H2.out.1.1 hb, below_row hb H2.out.1.2⟩, H2.out.2.below hb⟩; clear hw hb)
    | (go_at_call 19; refine (num_errV (B := B) 1 (by decide) _ (HE.out.1.below H3.out.1.1)).mono ?_; rintro e W' ⟨rfl, rfl⟩)
    | fail)
  obtain ⟨j0, j1, j2, j3, j4⟩ := bx5 H3.out.1.2
  go_upto_block 0 with (first
    | (go_at_call 22; refine (seal_no kd id tx ct bd _ _ ((HE.out.1.below H3.out.1.1).cell 0 (by decide)) HM.out).mono ?_; rintro e W4 ⟨rfl, hb⟩; have H4 : Hd ((Below w.heap.size w W4 ∧ W4.heap[w.heap.size]? = some (.cells #[.int .i64 kd, .int .i64 id, .int .u64 tx, .int .i64 ct, .string bd] 37 (0, 0))) ∧ OwnB W4 W1.heap.size (.slice Aq 0 cq) []) := ⟨⟨below_step H3.out.1.1 hb, below_row hb H3.out.1.2⟩, H3.out.2.below hb⟩; clear hb j0 j1 j2 j3 j4)
    | fail)
  go_cut [3] from 42 to 50 (fun s3 wx => s3 = .slice none 0 0 ∧ wx = W4)
  case first =>
    go_wp2_with (fail)
    go_loopw [10] (fun s9 wx => s9 = .int .i64 0 ∧ wx = W4) (fun _ _ => 0)
    case atStart => exact ⟨rfl, rfl⟩
    case round =>
      obtain ⟨rfl, rfl⟩ := hrel
      go_wp2
      go_meet
      exact ⟨rfl, rfl⟩
  case rest =>
    obtain ⟨hs3, hwc⟩ := hcut
    subst hs3 hwc
    have HQ : Hd (OwnB wc w.heap.size (.slice none 0 0) []) := ⟨OwnB.nil _ _⟩
    have HW4 : Hd (w.heap.size ≤ wc.heap.size) := ⟨H4.out.1.1.size⟩
    go_upto_block 2 with (fail)
    go_cut [3] from 51 to 57 (fun s3 wx => ∃ (A10 : Option Addr) (c10 : Nat), s3 = .slice A10 64 c10 ∧ Hd (Tch (fun _ => False) wc wx))
    case first =>
      go_wp2_with (fail)
      go_loopw [3, 11] (fun v s11 wx => ∃ (j : Nat) (ys : List Int), j ≤ 64 ∧ s11 = .int .i64 j ∧ Hd (ys.length = 0 + j ∧ OwnB wx w.heap.size v ys ∧ Tch (fun _ => False) wc wx ∧ ∀ i, v.ownBlock = some i → wc.heap.size ≤ i)) (fun _ s11 _ => 64 - (intOf s11).toNat)
      case atStart => exact ⟨0, _, by omega, rfl, ⟨rfl, HQ.out, Tch.refl _ _, fun i hi => by simp [Value.ownBlock] at hi⟩⟩
      case round =>
        obtain ⟨j, ys, hj1, rfl, HJ⟩ := hrel
        by_cases hlt : (j : Int) < 64
        · go_wp2_with (first
            | ((with_reducible refine gD (N := 57) rfl ?_); refine wpList_ap rfl (.tmp 55) (.tmp 56) rfl w.heap.size ys [98] u3 rfl (Ap.alloc (.inl HJ.out.2.1) _) (by rw [World.size_alloc]; exact Nat.le_succ_of_le (Nat.le_trans HW4.out HJ.out.2.2.1.size)) _ _ _ rfl rfl (by decide) (one_reads _ _ _) (by rw [HJ.out.1]; omega) ?_; intro v2 w2 ho ht hat; have HN2 : Hd (OwnB w2 w.heap.size v2 (ys ++ [98]) ∧ Tch (fun _ => False) wc w2 ∧ ∀ i, v2.ownBlock = some i → wc.heap.size ≤ i) := ⟨ho.out, (HJ.out.2.2.1.alloc _).trans ht (fun i hi => .inr (HJ.out.2.2.2 i hi.1)), fun i hi => (hat i hi).elim (fun e => HJ.out.2.2.2 i e) (fun e => (Nat.le_trans HJ.out.2.2.1.size (Nat.le_trans (by rw [World.size_alloc]; omega) e)))⟩; clear ho ht hat)
            | fail)
          go_roundw
          case rel => exact ⟨j + 1, _, by omega, by go_num, ⟨by rw [List.length_append, HJ.out.1]; rfl, HN2.out.1, HN2.out.2.1, HN2.out.2.2⟩⟩
          case measure => simp [intOf]; omega
        · obtain rfl : j = 64 := by omega
          obtain ⟨A10, c10, hv, -, -⟩ := HJ.out.2.1.form
          rw [HJ.out.1] at hv
          subst hv
          go_wp2
          go_meet
          exact ⟨_, _, rfl, ⟨HJ.out.2.2.1⟩⟩
    case rest =>
      obtain ⟨A10, c10, hs10, HT4⟩ := hcut
      subst hs10
      have HR : Hd ((Below w.heap.size w wc ∧ wc.heap[w.heap.size]? = some (.cells #[.int .i64 kd, .int .i64 id, .int .u64 tx, .int .i64 ct, .string bd] 37 (0, 0))) ∧ True) := ⟨⟨below_tch H4.out.1.1 HT4.out (fun i hi => hi.elim), HT4.out.row H4.out.1.2 (fun h => h)⟩, trivial⟩
      obtain ⟨j0, j1, j2, j3, j4⟩ := bx5 HR.out.1.2
      go_upto_region 16 with (first
        | (go_at_call 22; refine (seal_no kd id tx ct bd _ _ ((HE.out.1.below HR.out.1.1).cell 0 (by decide)) HM.out).mono ?_; rintro e W5 ⟨rfl, hb⟩; have H5 : Hd ((Below w.heap.size w W5 ∧ W5.heap[w.heap.size]? = some (.cells #[.int .i64 kd, .int .i64 id, .int .u64 tx, .int .i64 ct, .string bd] 37 (0, 0))) ∧ True) := ⟨⟨below_step HR.out.1.1 hb, below_row hb HR.out.1.2⟩, trivial⟩; clear hb j0 j1 j2 j3 j4)
        | fail)
      go_upto_region 17 with (first
        | (go_at_call 18; refine (same_calls _ _ _ _ _ _ [] [] true (by simp) rfl rfl _ (RdB.nil _ _) (RdB.nil _ _) (Nat.le_refl _) HC.out (by decide) (by decide)).mono ?_; rintro e W6 ⟨rfl, hw⟩; have hb := below_drawn hw; have H6 : Hd ((Below w.heap.size w W6 ∧ W6.heap[w.heap.size]? = some (.cells #[.int .i64 kd, .int .i64 id, .int .u64 tx, .int .i64 ct, .string bd] 37 (0, 0))) ∧ True) := ⟨⟨below_step H5.out.1.1 hb, below_row hb H5.out.1.2⟩, trivial⟩; clear hw hb)
        | fail)
      go_upto_region 18 with (first
        | (go_at_call 18; refine (same_calls _ _ _ _ _ _ [] [] true (by simp) rfl rfl _ (RdB.nil _ _) (RdB.nil _ _) (Nat.le_refl _) HC.out (by decide) (by decide)).mono ?_; rintro e W7 ⟨rfl, hw⟩; have H7 : Hd (Below w.heap.size w W7) := ⟨below_step H6.out.1.1 (below_drawn hw)⟩; clear hw)
        | fail)
      go_wp2
      go_ret
      exact ⟨rfl, H7.out⟩
end Go.Proofs.YtoenacghkpgnpaaDoor.LSheetSeals
