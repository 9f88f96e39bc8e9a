/- The walks of MetaEncodes: both ways, the program's answer is the document's. -/
import Derived.Test.YtoenacghkpgnpaaDoorSame
namespace Go.Proofs.YtoenacghkpgnpaaDoor.LMetaEncodes
open Go.RowKit Go.Proofs.YtoenacghkpgnpaaDoor.K Go.Proofs.YtoenacghkpgnpaaDoor.E Go.Proofs.YtoenacghkpgnpaaDoor.P1 Go.Proofs.YtoenacghkpgnpaaDoor.Codec Go.Proofs.YtoenacghkpgnpaaDoor.Meta Go.Proofs.YtoenacghkpgnpaaDoor.S

set_option maxRecDepth 100000 in
set_option maxHeartbeats 400000 in
theorem walk_ok (p r t : Int) (w : World) (hs : TabOk w) (ht0 : 0 ≤ t) (ht1 : t < 18446744073709551616) (hm : MayM p r) :
    Calls Tryd.prog 3 #[.agg #[.int .i64 p, .int .i64 r, .int .u64 t]] w fun e w' => e = .returned (.bool true) ∧ Below w.heap.size w w' := by
  have HM : Hd (MayM p r) := ⟨hm⟩
  have HS : Hd (TabOk w) := ⟨hs⟩
  have HT : Hd (0 ≤ t ∧ t < 18446744073709551616) := ⟨ht0, ht1⟩
  clear hs hm ht0 ht1
  go_enter Tryd.func3, Tryd.ntmps3
  go_wp2_with (first
    | (go_at_call 16; refine (encode_ok p r t _ (HS.out.below (below_alloc (Below.refl _ _) _)) HM.out HT.out.1 HT.out.2).mono ?_; rintro e W1 ⟨g, rfl, hg, hrow, hb⟩; have hc0 := box_cell hb 0 _ rfl; have hc1 := box_cell hb 1 _ rfl; have hc2 := box_cell hb 2 _ rfl; have H1 : Hd (Below w.heap.size w W1 ∧ W1.heap[g]? = some (.cells (u8s (wr p r t)) 5 (0, 0)) ∧ W1.heap[w.heap.size]? = some (.cells #[.int .i64 p, .int .i64 r, .int .u64 t] 24 (0, 0))) := ⟨box_below hb, hrow, box_row hb⟩; clear hb hg hrow)
    | (go_at_call 17; refine (rencode_ok p r t _ HM.out).mono ?_; rintro e W2 ⟨v2, rfl, ho, hb⟩; have H2 : Hd (Below w.heap.size w W2 ∧ W2.heap[g]? = some (.cells (u8s (wr p r t)) 5 (0, 0)) ∧ W2.cell? ⟨w.heap.size, 2, none⟩ = some (.int .u64 t)) := ⟨below_step H1.out.1 hb, below_row hb H1.out.2.1, below_cell hb hc2⟩; obtain ⟨A2, c2, rfl, hcc, hrd⟩ := ho.form; have H3 : Hd ((wr p r t).length ≤ c2 ∧ RdB W2 A2 (wr p r t)) := ⟨hcc, hrd⟩; clear ho hb hcc hrd hc0 hc1 hc2; have hc2 := H2.out.2.2)
    | (go_at_call 18; refine (same_calls _ _ _ _ _ _ (wr p r t) (wr p r t) true (by simp) (wr_length p r t).symm rfl _ (RdB.of_row0 H2.out.2.1) H3.out.2 (by omega) H3.out.1 (by rw [wr_length]; omega) (by rw [wr_length]; omega)).mono ?_; rintro e W3 ⟨rfl, hw⟩; have H4 : Hd (Below w.heap.size w W3) := ⟨below_step H2.out.1 (below_drawn hw)⟩; have hc2' := below_cell (below_drawn hw) hc2; clear hw hc2)
    | fail)
  go_quiet (first | (go_at_call 19; exact quiet_same (num_nil _)) | (go_at_call 20; exact slot_quiet _ _ _) | (go_at_call 21; exact rslot_quiet _ _ _))
  go_wp2
  go_ret
  exact ⟨rfl, below_drewN H4.out _⟩
set_option maxRecDepth 100000 in
set_option maxHeartbeats 400000 in
theorem walk_no {A : Nat → Addr} (p r t : Int) (w : World) (hE : Errs errG A w) (hm : ¬ MayM p r) :
    Calls Tryd.prog 3 #[.agg #[.int .i64 p, .int .i64 r, .int .u64 t]] w fun e w' => e = .returned (.bool true) ∧ Below w.heap.size w w' := by
  have HM : Hd (¬ MayM p r) := ⟨hm⟩
  have HE : Hd (Errs errG A w) := ⟨hE⟩
  have hA := hE.cell 0 (by decide)
  clear hE hm
  go_enter Tryd.func3, Tryd.ntmps3
  go_wp2_with (first
    | (go_at_call 16; refine (encode_no p r t _ _ (below_cell (below_alloc (Below.refl _ _) _) hA) HM.out).mono ?_; rintro e W1 ⟨rfl, hb⟩; have hc0 := box_cell hb 0 _ rfl; have hc1 := box_cell hb 1 _ rfl; have hc2 := box_cell hb 2 _ rfl; have H1 : Hd (Below w.heap.size w W1 ∧ W1.heap[w.heap.size]? = some (.cells #[.int .i64 p, .int .i64 r, .int .u64 t] 24 (0, 0))) := ⟨box_below hb, box_row hb⟩; clear hb)
    | (go_at_call 17; refine (rencode_no p r t _ HM.out).mono ?_; rintro e W2 ⟨v2, rfl, ho, hb⟩; have H2 : Hd (Below w.heap.size w W2 ∧ W2.cell? ⟨w.heap.size, 2, none⟩ = some (.int .u64 t)) := ⟨below_step H1.out.1 hb, below_cell hb hc2⟩; obtain ⟨A2, c2, rfl, hcc, hrd⟩ := ho.form; have H3 : Hd (([] : List Int).length ≤ c2 ∧ RdB W2 A2 []) := ⟨hcc, hrd⟩; clear ho hb hcc hrd hc0 hc1 hc2; have hc2 := H2.out.2)
    | (go_at_call 18; (refine (same_calls none A2 0 0 0 c2 [] [] true (by simp) rfl rfl _ (RdB.nil _ _) H3.out.2 (by omega) H3.out.1 (by simp) (by simp)).mono ?_); rintro e W3 ⟨rfl, hw⟩; have H4 : Hd (Below w.heap.size w W3) := ⟨below_step H2.out.1 (below_drawn hw)⟩; have hc2' := below_cell (below_drawn hw) hc2; clear hw hc2)
    | fail)
  go_quiet (first | (go_at_call 19; exact quiet_same (num_ErrArg ((HE.out.below H4.out).drewN _))) | (go_at_call 20; exact slot_quiet _ _ _) | (go_at_call 21; exact rslot_quiet _ _ _))
  go_wp2
  go_ret
  exact ⟨rfl, below_drewN H4.out _⟩
end Go.Proofs.YtoenacghkpgnpaaDoor.LMetaEncodes
