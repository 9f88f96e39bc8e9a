/- The walk of MetaBack: every meta that may be is read back in its slot, in that alone, and with its pages alone. -/
import Derived.Test.YtoenacghkpgnpaaDoorTidy
import Derived.Test.YtoenacghkpgnpaaDoorBack
namespace Go.Proofs.YtoenacghkpgnpaaDoor.LMetaBack
open Go.RowKit Go.Proofs.YtoenacghkpgnpaaDoor.K Go.Proofs.YtoenacghkpgnpaaDoor.E Go.Proofs.YtoenacghkpgnpaaDoor.P1 Go.Proofs.YtoenacghkpgnpaaDoor.Codec Go.Proofs.YtoenacghkpgnpaaDoor.Meta Go.Proofs.YtoenacghkpgnpaaDoor.Q Go.Proofs.YtoenacghkpgnpaaDoor.S Go.Proofs.YtoenacghkpgnpaaDoor.D

theorem errV0 (B : Nat → Addr) : errV B 0 = .nilIface := rfl
theorem errV2 (B : Nat → Addr) : errV B 2 = errAt (B 1) := rfl
theorem pagesM {p r : Int} (h : MayM p r) : PagesM p := by unfold PagesM; unfold MayM at h; omega
theorem num_errY {B : Nat → Addr} (n : Int) (ev : Value) (hv : errV B n = ev) (hn : n = 0 ∨ n = 1 ∨ n = 2 ∨ n = 9) (w : World) (hE : Errs errG B w) : Calls Tryd.prog 19 #[ev] w fun e w' => e = .returned (.int .i64 n) ∧ w = w' :=
  hv ▸ num_errV n hn w hE

set_option maxRecDepth 100000 in
set_option maxHeartbeats 1000000 in
theorem walk {B : Nat → Addr} (P R T : Int) (w : World) (hE : Errs errG B w) (hs : TabOk w) (ht0 : 0 ≤ T) (ht1 : T < 18446744073709551616) :
    Calls Tryd.prog 9 #[.agg #[.int .i64 P, .int .i64 R, .int .u64 T]] w fun e w' => e = .returned (.bool true) ∧ Below w.heap.size w w' := by
  have HE : Hd (Errs errG B w ∧ TabOk w) := ⟨hE, hs⟩
  have HT : Hd (0 ≤ T ∧ T < 18446744073709551616) := ⟨ht0, ht1⟩
  obtain ⟨T2, hT2⟩ : ∃ T2, T % 2 = T2 := ⟨_, rfl⟩
  have HT2 : Hd (T % 2 = T2) := ⟨hT2⟩
  have ht20 : 0 ≤ T2 := by omega
  have ht21 : T2 ≤ 1 := by omega
  obtain ⟨S2, hS2⟩ : ∃ S2, 1 - T2 = S2 := ⟨_, rfl⟩
  have HS2 : Hd (1 - T2 = S2) := ⟨hS2⟩
  have hq : ∀ (p r : Int) w, (binOp .eql 24 (.agg #[.int .i64 p, .int .i64 r, .int .u64 T]) (.agg #[.int .i64 p, .int .i64 r, .int .u64 T])).run Tryd.prog w = .ok (.bool true) w := fun p r w => eql_meta p r T p r T true (by simp) w
  have qn := eql_nil_nil
  have hrem : Int.tmod T 2 = T2 := by rw [Int.tmod_eq_emod_of_nonneg ht0]; exact hT2
  clear hE hs ht1 hT2
  go_enter Tryd.func9, Tryd.ntmps9
  go_upto_region 7 with (first
    | (go_at_call 33; refine (tidy_calls P R T _).mono ?_; rintro e W1 ⟨p, r, rfl, HM, hb⟩; have H1 : Hd (Below w.heap.size w W1) := ⟨box_below hb⟩; clear hb)
    | (go_at_call 16; refine (encode_ok p r T _ (HE.out.2.below (below_alloc H1.out _)) HM.out HT.out.1 HT.out.2).mono ?_; rintro e W2 ⟨g, rfl, -, hrow, hb⟩; have H2 : Hd (Below w.heap.size w W2 ∧ W2.heap[W1.heap.size]? = some (.cells #[.int .i64 p, .int .i64 r, .int .u64 T] 24 (0, 0)) ∧ W2.heap[g]? = some (.cells (u8s (wr p r T)) 5 (0, 0))) := ⟨below_step H1.out (box_below hb), box_row hb, hrow⟩; have j0 := ((Joins.cell_of_block H2.out.2.1 0).trans (show _ = some (Value.int .i64 p) from rfl)); have j1 := ((Joins.cell_of_block H2.out.2.1 1).trans (show _ = some (Value.int .i64 r) from rfl)); have j2 := ((Joins.cell_of_block H2.out.2.1 2).trans (show _ = some (Value.int .u64 T) from rfl)); clear hrow hb)
    | (go_at_call_of 25 (Value.int .i64 T2); (refine (decode_calls (B := B) _ 512 512 (wr p r T) (wr_length p r T).symm p T2 _ _ _ _ (decR_back p r T HM.out HT.out.1 HT.out.2 T2 HT2.out) _ (HE.out.1.below H2.out.1) (HE.out.2.below H2.out.1) (RdB.of_row0 H2.out.2.2) (wr_range p r T)).mono ?_); rw [errV0]; rintro e W3 ⟨rfl, hb⟩; have H3 : Hd (Below w.heap.size w W3 ∧ W3.heap[W1.heap.size]? = some (.cells #[.int .i64 p, .int .i64 r, .int .u64 T] 24 (0, 0)) ∧ W3.heap[g]? = some (.cells (u8s (wr p r T)) 5 (0, 0))) := ⟨below_step H2.out.1 hb, below_row hb H2.out.2.1, below_row hb H2.out.2.2⟩; clear hb j0 j1 j2; have j0 := fun o => below_cell (below_alloc (Below.refl _ W3) o) ((Joins.cell_of_block H3.out.2.1 0).trans (show _ = some (Value.int .i64 p) from rfl)); have j1 := fun o => below_cell (below_alloc (Below.refl _ W3) o) ((Joins.cell_of_block H3.out.2.1 1).trans (show _ = some (Value.int .i64 r) from rfl)); have j2 := fun o => below_cell (below_alloc (Below.refl _ W3) o) ((Joins.cell_of_block H3.out.2.1 2).trans (show _ = some (Value.int .u64 T) from rfl)))
    | (go_at_call_of 25 (Value.int .i64 S2); (refine (decode_calls (B := B) _ 512 512 (wr p r T) (wr_length p r T).symm p S2 _ _ _ _ (decR_other p r T HM.out HT.out.1 HT.out.2 p S2 (pagesM HM.out) (by have := HS2.out; omega) (fun k => by have := HT2.out; have := HS2.out; have := k.2; omega)) _ (HE.out.1.below (below_alloc H3.out.1 _)) (HE.out.2.below (below_alloc H3.out.1 _)) (RdB.of_row0 (below_row (below_alloc (Below.refl _ _) _) H3.out.2.2)) (wr_range p r T)).mono ?_); rw [errV2]; rintro e W4 ⟨rfl, hb⟩; have H4 : Hd (Below w.heap.size w W4 ∧ W4.heap[W1.heap.size]? = some (.cells #[.int .i64 p, .int .i64 r, .int .u64 T] 24 (0, 0)) ∧ W4.heap[g]? = some (.cells (u8s (wr p r T)) 5 (0, 0))) := ⟨below_step H3.out.1 (box_below hb), below_row (box_below hb) H3.out.2.1, below_row (box_below hb) H3.out.2.2⟩; have HN : Hd (W4.heap[W3.heap.size]? = some (.cells #[.int .i64 p, .int .i64 r, .int .u64 T] 24 (0, 0))) := ⟨box_row hb⟩; clear hb j0 j1 j2; have j0 := fun o => below_cell (below_alloc (Below.refl _ W4) o) ((Joins.cell_of_block H4.out.2.1 0).trans (show _ = some (Value.int .i64 p) from rfl)); have j1 := fun o => below_cell (below_alloc (Below.refl _ W4) o) ((Joins.cell_of_block H4.out.2.1 1).trans (show _ = some (Value.int .i64 r) from rfl)); have j2 := fun o => below_cell (below_alloc (Below.refl _ W4) o) ((Joins.cell_of_block H4.out.2.1 2).trans (show _ = some (Value.int .u64 T) from rfl)); have v0 := fun o => below_cell (below_alloc (Below.refl _ W4) o) ((Joins.cell_of_block HN.out 0).trans (show _ = some (Value.int .i64 p) from rfl)); have v1 := fun o => below_cell (below_alloc (Below.refl _ W4) o) ((Joins.cell_of_block HN.out 1).trans (show _ = some (Value.int .i64 r) from rfl)); have v2 := fun o => below_cell (below_alloc (Below.refl _ W4) o) ((Joins.cell_of_block HN.out 2).trans (show _ = some (Value.int .u64 T) from rfl)))
    | fail)
  by_cases hp4 : p = 4
  · have hpb : (p == 4) = true := by simp [hp4]
    have HP4 : Hd (p = 4) := ⟨hp4⟩
    clear hp4
    go_wp2_with (first
      | (go_at_call_of 25 (Value.int .i64 5); (refine (decode_calls (B := B) _ 512 512 (wr p r T) (wr_length p r T).symm 5 T2 _ _ _ _ (decR_other p r T HM.out HT.out.1 HT.out.2 5 T2 (by unfold PagesM; decide) (by omega) (fun k => by have := HP4.out; have := k.1; omega)) _ (HE.out.1.below (below_alloc H4.out.1 _)) (HE.out.2.below (below_alloc H4.out.1 _)) (RdB.of_row0 (below_row (below_alloc (Below.refl _ _) _) H4.out.2.2)) (wr_range p r T)).mono ?_); rw [errV2]; rintro e W5 ⟨rfl, hb⟩; have H5 : Hd (Below w.heap.size w W5 ∧ W5.heap[W1.heap.size]? = some (.cells #[.int .i64 p, .int .i64 r, .int .u64 T] 24 (0, 0)) ∧ W5.heap[g]? = some (.cells (u8s (wr p r T)) 5 (0, 0))) := ⟨below_step H4.out.1 (box_below hb), below_row (box_below hb) H4.out.2.1, below_row (box_below hb) H4.out.2.2⟩; have HN5 : Hd (W5.heap[W3.heap.size]? = some (.cells #[.int .i64 p, .int .i64 r, .int .u64 T] 24 (0, 0))) := ⟨below_row (box_below hb) HN.out⟩; clear hb j0 j1 j2 v0 v1 v2; have j0 := fun o => below_cell (below_alloc (Below.refl _ W5) o) ((Joins.cell_of_block H5.out.2.1 0).trans (show _ = some (Value.int .i64 p) from rfl)); have j1 := fun o => below_cell (below_alloc (Below.refl _ W5) o) ((Joins.cell_of_block H5.out.2.1 1).trans (show _ = some (Value.int .i64 r) from rfl)); have j2 := fun o => below_cell (below_alloc (Below.refl _ W5) o) ((Joins.cell_of_block H5.out.2.1 2).trans (show _ = some (Value.int .u64 T) from rfl)); have v0 := fun o => below_cell (below_alloc (Below.refl _ W5) o) ((Joins.cell_of_block HN5.out 0).trans (show _ = some (Value.int .i64 p) from rfl)); have v1 := fun o => below_cell (below_alloc (Below.refl _ W5) o) ((Joins.cell_of_block HN5.out 1).trans (show _ = some (Value.int .i64 r) from rfl)); have v2 := fun o => below_cell (below_alloc (Below.refl _ W5) o) ((Joins.cell_of_block HN5.out 2).trans (show _ = some (Value.int .u64 T) from rfl)))
      | (go_at_call 20; refine (slot_calls T T2 HT.out.1 HT2.out _).mono ?_; rintro e W6 ⟨rfl, hb⟩; have H6 : Hd (Below w.heap.size w W6) := ⟨below_step (below_alloc H5.out.1 _) hb⟩; clear hb)
      | (go_at_call 19; refine (num_errY 2 _ (errV2 B) (by decide) _ (HE.out.1.below H6.out)).mono ?_; rintro e W7 ⟨rfl, rfl⟩)
      | fail)
    go_ret
    exact ⟨rfl, H6.out⟩
  · have hpb : (p == 4) = false := by simp [hp4]
    have HP4 : Hd (¬ p = 4) := ⟨hp4⟩
    clear hp4
    go_wp2_with (first
      | (go_at_call_of 25 (Value.int .i64 4); (refine (decode_calls (B := B) _ 512 512 (wr p r T) (wr_length p r T).symm 4 T2 _ _ _ _ (decR_other p r T HM.out HT.out.1 HT.out.2 4 T2 (by unfold PagesM; decide) (by omega) (fun k => HP4.out k.1.symm)) _ (HE.out.1.below (below_alloc H4.out.1 _)) (HE.out.2.below (below_alloc H4.out.1 _)) (RdB.of_row0 (below_row (below_alloc (Below.refl _ _) _) H4.out.2.2)) (wr_range p r T)).mono ?_); rw [errV2]; rintro e W5 ⟨rfl, hb⟩; have H5 : Hd (Below w.heap.size w W5 ∧ W5.heap[W1.heap.size]? = some (.cells #[.int .i64 p, .int .i64 r, .int .u64 T] 24 (0, 0)) ∧ W5.heap[g]? = some (.cells (u8s (wr p r T)) 5 (0, 0))) := ⟨below_step H4.out.1 (box_below hb), below_row (box_below hb) H4.out.2.1, below_row (box_below hb) H4.out.2.2⟩; have HN5 : Hd (W5.heap[W3.heap.size]? = some (.cells #[.int .i64 p, .int .i64 r, .int .u64 T] 24 (0, 0))) := ⟨below_row (box_below hb) HN.out⟩; clear hb j0 j1 j2 v0 v1 v2; have j0 := fun o => below_cell (below_alloc (Below.refl _ W5) o) ((Joins.cell_of_block H5.out.2.1 0).trans (show _ = some (Value.int .i64 p) from rfl)); have j1 := fun o => below_cell (below_alloc (Below.refl _ W5) o) ((Joins.cell_of_block H5.out.2.1 1).trans (show _ = some (Value.int .i64 r) from rfl)); have j2 := fun o => below_cell (below_alloc (Below.refl _ W5) o) ((Joins.cell_of_block H5.out.2.1 2).trans (show _ = some (Value.int .u64 T) from rfl)); have v0 := fun o => below_cell (below_alloc (Below.refl _ W5) o) ((Joins.cell_of_block HN5.out 0).trans (show _ = some (Value.int .i64 p) from rfl)); have v1 := fun o => below_cell (below_alloc (Below.refl _ W5) o) ((Joins.cell_of_block HN5.out 1).trans (show _ = some (Value.int .i64 r) from rfl)); have v2 := fun o => below_cell (below_alloc (Below.refl _ W5) o) ((Joins.cell_of_block HN5.out 2).trans (show _ = some (Value.int .u64 T) from rfl)))
      | (go_at_call 20; refine (slot_calls T T2 HT.out.1 HT2.out _).mono ?_; rintro e W6 ⟨rfl, hb⟩; have H6 : Hd (Below w.heap.size w W6) := ⟨below_step (below_alloc H5.out.1 _) hb⟩; clear hb)
      | (go_at_call 19; refine (num_errY 2 _ (errV2 B) (by decide) _ (HE.out.1.below H6.out)).mono ?_; rintro e W7 ⟨rfl, rfl⟩)
      | fail)
    go_ret
    exact ⟨rfl, H6.out⟩
end Go.Proofs.YtoenacghkpgnpaaDoor.LMetaBack
