/- The walk of MetaMemory: bytes that Encode answers are new memory. -/
import Derived.Test.YtoenacghkpgnpaaDoorAnew
import Derived.Test.YtoenacghkpgnpaaDoorTidy
import Derived.Test.YtoenacghkpgnpaaDoorRef5
namespace Go.Proofs.YtoenacghkpgnpaaDoor.LMetaMemory
open Go.RowKit Go.Proofs.YtoenacghkpgnpaaDoor.K Go.Proofs.YtoenacghkpgnpaaDoor.E Go.Proofs.YtoenacghkpgnpaaDoor.P1 Go.Proofs.YtoenacghkpgnpaaDoor.Codec Go.Proofs.YtoenacghkpgnpaaDoor.Meta Go.Proofs.YtoenacghkpgnpaaDoor.Q Go.Proofs.YtoenacghkpgnpaaDoor.S Go.Proofs.YtoenacghkpgnpaaDoor.D Go.Proofs.YtoenacghkpgnpaaDoor.R5

set_option maxRecDepth 100000 in
set_option maxHeartbeats 1000000 in
theorem walk {B : Nat → Addr} (P R T : Int) (w : World) (hE : Errs errG B w) (hs : TabOk w) (ht0 : 0 ≤ T) (ht1 : T < 18446744073709551616) :
    Calls Tryd.prog 13 #[.agg #[.int .i64 P, .int .i64 R, .int .u64 T]] w fun e w' => e = .returned (.bool true) ∧ Below w.heap.size w w' := by
  have HE : Hd (Errs errG B w ∧ TabOk w) := ⟨hE, hs⟩
  have HT : Hd (0 ≤ T ∧ T < 18446744073709551616) := ⟨ht0, ht1⟩
  have qn := eql_nil_nil
  have qn' := neq_nil_nil
  clear hE hs ht1 ht0
  go_enter Tryd.func13, Tryd.ntmps13
  go_upto_region 3 with (first
    | (go_at_call 33; refine (tidy_calls P R T _).mono ?_; rintro e W1 ⟨p, r, rfl, HM, hb⟩; have H1 : Hd (Below w.heap.size w W1) := ⟨box_below hb⟩; clear hb)
    | (go_at_call 16; refine (encode_ok p r T _ (HE.out.2.below (below_alloc H1.out _)) HM.out HT.out.1 HT.out.2).mono ?_; rintro e W2 ⟨g1, rfl, hg, hrow, hb⟩; have H2 : Hd (Below w.heap.size w W2 ∧ W2.heap[W1.heap.size]? = some (.cells #[.int .i64 p, .int .i64 r, .int .u64 T] 24 (0, 0)) ∧ W2.heap[g1]? = some (.cells (u8s (Meta.wr p r T)) 5 (0, 0)) ∧ W1.heap.size < g1) := ⟨below_step H1.out (box_below hb), box_row hb, hrow, Nat.lt_of_lt_of_le (by simp) hg⟩; have j0 := (Joins.cell_of_block H2.out.2.1 0).trans (show _ = some (Value.int .i64 p) from rfl); have j1 := (Joins.cell_of_block H2.out.2.1 1).trans (show _ = some (Value.int .i64 r) from rfl); have j2 := (Joins.cell_of_block H2.out.2.1 2).trans (show _ = some (Value.int .u64 T) from rfl); clear hrow hb hg)
    | fail)
  go_upto_block 0 with (first
    | (go_at_call 16; refine (encode_ok p r T _ (HE.out.2.below H2.out.1) HM.out HT.out.1 HT.out.2).mono ?_; rintro e W3 ⟨g2, rfl, hg, hrow, hb⟩; have H3 : Hd (Below w.heap.size w W3 ∧ W3.heap[W1.heap.size]? = some (.cells #[.int .i64 p, .int .i64 r, .int .u64 T] 24 (0, 0)) ∧ W3.heap[g1]? = some (.cells (u8s (Meta.wr p r T)) 5 (0, 0)) ∧ W3.heap[g2]? = some (.cells (u8s (Meta.wr p r T)) 5 (0, 0)) ∧ W2.heap.size ≤ g2) := ⟨below_step H2.out.1 hb, below_row hb H2.out.2.1, below_row hb H2.out.2.2.1, hrow, hg⟩; clear hrow hb hg j0 j1 j2)
    | (go_at_call 37; refine (copy_calls _ 512 512 (Meta.wr p r T) (wr_length p r T).symm _ (RdB.of_row0 H3.out.2.2.1) (Nat.le_refl _) (by rw [wr_length]; decide)).mono ?_; rintro e W4 ⟨vh, rfl, ho, hb⟩; have H4 : Hd ((Below w.heap.size w W4 ∧ W4.heap[W1.heap.size]? = some (.cells #[.int .i64 p, .int .i64 r, .int .u64 T] 24 (0, 0)) ∧ W4.heap[g1]? = some (.cells (u8s (Meta.wr p r T)) 5 (0, 0)) ∧ W4.heap[g2]? = some (.cells (u8s (Meta.wr p r T)) 5 (0, 0))) ∧ OwnB W4 W3.heap.size vh (Meta.wr p r T)) := ⟨⟨below_step H3.out.1 hb, below_row hb H3.out.2.1, below_row hb H3.out.2.2.1, below_row hb H3.out.2.2.2.1⟩, ho⟩; clear hb ho)
    | fail)
  go_cut [4] from 42 to 50 (fun s4 wx => s4 = .slice (some ⟨g1, 0, none⟩) 512 512 ∧ ∃ L : List Int, Hd (L.length = 512 ∧ Tch (fun i => i = g1) W4 wx ∧ wx.heap[g1]? = some (.cells (u8s L) 5 (0, 0))))
  case first =>
    go_wp2_with (fail)
    go_loopw [9] (fun s9 wx => ∃ (i : Nat) (L : List Int), i ≤ 512 ∧ s9 = .int .i64 i ∧ Hd (L.length = 512 ∧ Tch (fun i => i = g1) W4 wx ∧ wx.heap[g1]? = some (.cells (u8s L) 5 (0, 0)))) (fun s9 _ => 512 - (intOf s9).toNat)
    case atStart => exact ⟨0, _, by omega, rfl, ⟨wr_length p r T, Tch.refl _ _, H4.out.1.2.2.1⟩⟩
    case round =>
      obtain ⟨i, L, hi, rfl, HL⟩ := hrel
      by_cases hlt : (i : Int) < 512
      · obtain ⟨y, hy⟩ : ∃ y, L.getD i 0 = y := ⟨_, rfl⟩
        have cp : wr.cell? ⟨g1, i, none⟩ = some (.int .u8 y) := by
          rw [Joins.cell_of_block HL.out.2.2, K.u8s_at L i (by rw [HL.out.1]; omega), hy]
        have fp := Joins.unfrozen_of_block HL.out.2.2
        clear hy
        go_wp2
        go_roundw
        case rel => exact ⟨i + 1, L.set i 1, by omega, by go_num, ⟨by rw [List.length_set]; exact HL.out.1, HL.out.2.1.setCell (.inl rfl) _, by rw [← u8s_set]; exact Joins.block_setCell HL.out.2.2 _⟩⟩
        case measure => simp [intOf]; omega
      · go_wp2
        go_meet
        exact ⟨rfl, L, HL⟩
  case rest =>
    obtain ⟨hs4, L, HL⟩ := hcut
    subst hs4
    -- SECOND
    have HQ : Hd (OwnB wc w.heap.size (.slice (some ⟨g1, 0, none⟩) 512 512) L) := ⟨by have h := OwnB.of_row (base := w.heap.size) HL.out.2.2 (Nat.le_trans H1.out.size (Nat.le_of_lt H2.out.2.2.2)) (by rw [HL.out.1]; decide); rw [HL.out.1] at h; exact h⟩
    have HW4 : Hd (w.heap.size ≤ W4.heap.size) := ⟨H4.out.1.1.size⟩
    go_upto_block 2 with (first
      | ((with_reducible refine gD (N := 53) rfl ?_); refine wpList_ap rfl (.tmp 51) (.tmp 52) rfl w.heap.size L [1] (.slice (some ⟨g1, 0, none⟩) 512 512) rfl (Ap.alloc (.inl HQ.out) _) (by rw [World.size_alloc]; exact Nat.le_succ_of_le (Nat.le_trans HW4.out HL.out.2.1.size)) _ _ _ rfl rfl (by decide) (one_reads _ _ _) (by rw [HL.out.1]; decide) ?_; intro v1 w1 ho ht hat; have HN : Hd (OwnB w1 w.heap.size v1 (L ++ [1]) ∧ Tch (fun i => i = g1) W4 w1 ∧ ∀ i, v1.ownBlock = some i → i = g1 ∨ W4.heap.size ≤ i) := ⟨ho.out, (HL.out.2.1.alloc _).trans ht (fun i hi => .inl (Option.some.inj hi.1).symm), fun i hi => (hat i hi).elim (fun e => .inl (Option.some.inj e).symm) (fun e => .inr (Nat.le_trans HL.out.2.1.size (Nat.le_trans (by rw [World.size_alloc]; omega) e)))⟩; clear ho ht hat)
      | fail)
    go_cut [10] from 54 to 60 (fun s10 wx => ∃ (A10 : Option Addr) (c10 : Nat), s10 = .slice A10 576 c10 ∧ Hd (Tch (fun i => i = g1) W4 wx))
    case first =>
      go_wp2_with (fail)
      go_loopw [10, 11] (fun v s11 wx => ∃ (j : Nat) (ys : List Int), (1 ≤ j ∧ j ≤ 64) ∧ s11 = .int .i64 j ∧ Hd (ys.length = 512 + j ∧ OwnB wx w.heap.size v ys ∧ Tch (fun i => i = g1) W4 wx ∧ ∀ i, v.ownBlock = some i → i = g1 ∨ W4.heap.size ≤ i)) (fun _ s11 _ => 64 - (intOf s11).toNat)
      case atStart => exact ⟨1, _, ⟨by omega, by omega⟩, rfl, ⟨by rw [List.length_append, HL.out.1]; rfl, HN.out.1, HN.out.2.1, HN.out.2.2⟩⟩
      case round =>
        obtain ⟨j, ys, ⟨hj0, hj1⟩, rfl, HI⟩ := hrel
        by_cases hlt : (j : Int) < 64
        · go_wp2_with (first
            | ((with_reducible refine gD (N := 60) rfl ?_); refine wpList_ap rfl (.tmp 58) (.tmp 59) rfl w.heap.size ys [1] u10 rfl (Ap.alloc (.inl HI.out.2.1) _) (by rw [World.size_alloc]; exact Nat.le_succ_of_le (Nat.le_trans HW4.out HI.out.2.2.1.size)) _ _ _ rfl rfl (by decide) (one_reads _ _ _) (by rw [HI.out.1]; omega) ?_; intro v2 w2 ho ht hat; have HN2 : Hd (OwnB w2 w.heap.size v2 (ys ++ [1]) ∧ Tch (fun i => i = g1) W4 w2 ∧ ∀ i, v2.ownBlock = some i → i = g1 ∨ W4.heap.size ≤ i) := ⟨ho.out, (HI.out.2.2.1.alloc _).trans ht (fun i hi => HI.out.2.2.2 i hi.1), fun i hi => (hat i hi).elim (fun e => HI.out.2.2.2 i e) (fun e => .inr (Nat.le_trans HI.out.2.2.1.size (Nat.le_trans (by rw [World.size_alloc]; omega) e)))⟩; clear ho ht hat)
            | fail)
          go_roundw
          case rel => exact ⟨j + 1, _, ⟨by omega, by omega⟩, by go_num, ⟨by rw [List.length_append, HI.out.1]; rfl, HN2.out.1, HN2.out.2.1, HN2.out.2.2⟩⟩
          case measure => simp [intOf]; omega
        · obtain rfl : j = 64 := by omega
          obtain ⟨A10, c10, hv, -, -⟩ := HI.out.2.1.form
          rw [HI.out.1] at hv
          subst hv
          go_wp2
          go_meet
          exact ⟨_, _, rfl, ⟨HI.out.2.2.1⟩⟩
    case rest =>
      obtain ⟨A10, c10, hs10, HT4⟩ := hcut
      subst hs10
      have hg1 := (Array.getElem?_eq_some_iff.1 H2.out.2.2.1).1
      have hne2 : ¬ g2 = g1 := by have := H3.out.2.2.2.2; omega
      have hne1 : ¬ W1.heap.size = g1 := by have := H2.out.2.2.2; omega
      have hsz : W2.heap.size ≤ W3.heap.size := by have := (Array.getElem?_eq_some_iff.1 H3.out.2.2.2.1).1; have := H3.out.2.2.2.2; omega
      obtain ⟨Ah, ch, hvh, hcc, hrd⟩ := (H4.out.2.tch HT4.out (fun k hk => by have := (H4.out.2.lt k hk).1; omega)).form
      have HG2 : Hd (w.heap.size ≤ g2 ∧ (Meta.wr p r T).length ≤ ch) := ⟨by have := H3.out.2.2.2.2; have := H2.out.1.size; omega, hcc⟩
      have HR : Hd (Below w.heap.size w wc ∧ wc.heap[W1.heap.size]? = some (.cells #[.int .i64 p, .int .i64 r, .int .u64 T] 24 (0, 0)) ∧ wc.heap[g2]? = some (.cells (u8s (Meta.wr p r T)) 5 (0, 0)) ∧ RdB wc Ah (Meta.wr p r T)) := ⟨below_tch H4.out.1.1 HT4.out (fun i hi => by have := H2.out.2.2.2; have := H1.out.size; omega), HT4.out.row H4.out.1.2.1 hne1, HT4.out.row H4.out.1.2.2.2 hne2, hrd⟩
      subst hvh
      clear hcc hrd hg1 hne1 hne2 hsz
      go_wp2_with (first
        | (go_at_call_of 18 (Value.slice (some ⟨g2, 0, none⟩) 512 512); refine (same_calls _ _ _ _ _ _ (Meta.wr p r T) (Meta.wr p r T) true (by simp) (wr_length p r T).symm rfl _ (RdB.of_row0 HR.out.2.2.1) HR.out.2.2.2 (Nat.le_refl _) HG2.out.2 (by rw [wr_length]; omega) (by rw [wr_length]; omega)).mono ?_; rintro e W5 ⟨rfl, hw⟩; have H5 : Hd (Below w.heap.size w W5 ∧ W5.heap[W1.heap.size]? = some (.cells #[.int .i64 p, .int .i64 r, .int .u64 T] 24 (0, 0)) ∧ W5.heap[g2]? = some (.cells (u8s (Meta.wr p r T)) 5 (0, 0)) ∧ RdB W5 Ah (Meta.wr p r T)) := ⟨below_step HR.out.1 (below_drawn hw), below_row (below_drawn hw) HR.out.2.1, below_row (below_drawn hw) HR.out.2.2.1, HR.out.2.2.2.below (below_drawn hw)⟩; have j0 := (Joins.cell_of_block H5.out.2.1 0).trans (show _ = some (Value.int .i64 p) from rfl); have j1 := (Joins.cell_of_block H5.out.2.1 1).trans (show _ = some (Value.int .i64 r) from rfl); have j2 := (Joins.cell_of_block H5.out.2.1 2).trans (show _ = some (Value.int .u64 T) from rfl); clear hw)
        | (go_at_call 16; refine (encode_ok p r T _ (HE.out.2.below H5.out.1) HM.out HT.out.1 HT.out.2).mono ?_; rintro e W6 ⟨g3, rfl, -, hrow, hb⟩; have H6 : Hd ((Below w.heap.size w W6 ∧ W6.heap[W1.heap.size]? = some (.cells #[.int .i64 p, .int .i64 r, .int .u64 T] 24 (0, 0)) ∧ W6.heap[g2]? = some (.cells (u8s (Meta.wr p r T)) 5 (0, 0)) ∧ RdB W6 Ah (Meta.wr p r T)) ∧ W6.heap[g3]? = some (.cells (u8s (Meta.wr p r T)) 5 (0, 0))) := ⟨⟨below_step H5.out.1 hb, below_row hb H5.out.2.1, below_row hb H5.out.2.2.1, H5.out.2.2.2.below hb⟩, hrow⟩; clear hrow hb)
        | (go_at_call 18; refine (same_calls _ _ _ _ _ _ (Meta.wr p r T) (Meta.wr p r T) true (by simp) (wr_length p r T).symm rfl _ (RdB.of_row0 H6.out.2) H6.out.1.2.2.2 (Nat.le_refl _) HG2.out.2 (by rw [wr_length]; omega) (by rw [wr_length]; omega)).mono ?_; rintro e W7 ⟨rfl, hw⟩; have H7 : Hd (Below w.heap.size w W7 ∧ W7.heap[W1.heap.size]? = some (.cells #[.int .i64 p, .int .i64 r, .int .u64 T] 24 (0, 0)) ∧ W7.heap[g2]? = some (.cells (u8s (Meta.wr p r T)) 5 (0, 0)) ∧ RdB W7 Ah (Meta.wr p r T)) := ⟨below_step H6.out.1.1 (below_drawn hw), below_row (below_drawn hw) H6.out.1.2.1, below_row (below_drawn hw) H6.out.1.2.2.1, H6.out.1.2.2.2.below (below_drawn hw)⟩; have l0 := (Joins.cell_of_block H7.out.2.1 0).trans (show _ = some (Value.int .i64 p) from rfl); have l1 := (Joins.cell_of_block H7.out.2.1 1).trans (show _ = some (Value.int .i64 r) from rfl); have l2 := (Joins.cell_of_block H7.out.2.1 2).trans (show _ = some (Value.int .u64 T) from rfl); clear hw)
        | (go_at_call 38; refine (anew_calls (B := B) w _ g2 p r T HM HT HE ⟨⟨H7.out.1, HG2.out.1, H7.out.2.2.1⟩⟩).mono ?_; rintro e W8 ⟨rfl, hb⟩; have H8 : Hd (Below w.heap.size w W8) := ⟨hb⟩; clear hb)
        | fail)
      go_ret
      exact ⟨rfl, H8.out⟩
end Go.Proofs.YtoenacghkpgnpaaDoor.LMetaMemory
