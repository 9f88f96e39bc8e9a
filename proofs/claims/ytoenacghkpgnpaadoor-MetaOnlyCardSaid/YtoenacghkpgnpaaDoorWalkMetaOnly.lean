/- The walk of MetaOnly: what is read, written again, is the very bytes; all else is refused with the right error. -/
import Derived.Test.YtoenacghkpgnpaaDoorWalkMetaBack
namespace Go.Proofs.YtoenacghkpgnpaaDoor.LMetaOnly
open Go.RowKit Go.Proofs.YtoenacghkpgnpaaDoor.K Go.Proofs.YtoenacghkpgnpaaDoor.E Go.Proofs.YtoenacghkpgnpaaDoor.P1 Go.Proofs.YtoenacghkpgnpaaDoor.Codec Go.Proofs.YtoenacghkpgnpaaDoor.Meta Go.Proofs.YtoenacghkpgnpaaDoor.Q Go.Proofs.YtoenacghkpgnpaaDoor.S Go.Proofs.YtoenacghkpgnpaaDoor.D
open Go.Proofs.YtoenacghkpgnpaaDoor.LMetaBack (errV0 errV2 num_errY)

theorem errV1 (B : Nat → Addr) : errV B 1 = errAt (B 0) := rfl
theorem decR_ok (xs : List Int) (hxr : ∀ x, x ∈ xs → 0 ≤ x ∧ x ≤ 255) (pages slot p r t : Int) (h : decR xs pages slot = (p, r, t, 0)) :
    p = pages ∧ MayM p r ∧ t % 2 = slot ∧ wr p r t = xs ∧ 0 ≤ t ∧ t < 18446744073709551616 := by
  unfold decR at h
  by_cases c1 : PagesM pages ∧ (slot = 0 ∨ slot = 1)
  · rw [if_pos c1] at h
    by_cases c2 : xs.length = 512 ∧ OkD xs pages slot
    · rw [if_pos c2] at h
      simp only [Prod.mk.injEq] at h
      obtain ⟨rfl, rfl, rfl, -⟩ := h
      exact ⟨c2.2.1, c2.2.2.2.1, c2.2.2.1, c2.2.2.2.2, (part_range xs hxr 16 8).1, (part_range xs hxr 16 8).2⟩
    · rw [if_neg c2] at h
      simp only [Prod.mk.injEq] at h
      exact absurd h.2.2.2 (by decide)
  · rw [if_neg c1] at h
    simp only [Prod.mk.injEq] at h
    exact absurd h.2.2.2 (by decide)

set_option maxRecDepth 100000 in
set_option maxHeartbeats 1000000 in
theorem walk_lo {B : Nat → Addr} (A : Option Addr) (nI c : Nat) (xs : List Int) (hnI : nI = xs.length) (hc : nI ≤ c) (hxr : ∀ x, x ∈ xs → 0 ≤ x ∧ x ≤ 255) (pages slot : Int) (h1 : ¬ pages ≥ 4) (hd : decR xs pages slot = (0, 0, 0, 1))
    (w : World) (hE : Errs errG B w) (hs : TabOk w) (hr : RdB w A xs) :
    Calls Tryd.prog 10 #[.agg #[.slice A nI c, .int .i64 pages, .int .i64 slot]] w fun e w' => e = .returned (.bool true) ∧ Below w.heap.size w w' := by
  have HN : Hd (nI = xs.length ∧ nI ≤ c) := ⟨hnI, hc⟩
  have HG : Hd (∀ x, x ∈ xs → 0 ≤ x ∧ x ≤ 255) := ⟨hxr⟩
  have HD : Hd (decR xs pages slot = (0, 0, 0, 1)) := ⟨hd⟩
  have HE : Hd (Errs errG B w ∧ TabOk w ∧ RdB w A xs) := ⟨hE, hs, hr⟩
  have hq : ∀ w, (binOp .eql 24 (.agg #[.int .i64 0, .int .i64 0, .int .u64 0]) (.agg #[.int .i64 0, .int .i64 0, .int .u64 0])).run Tryd.prog w = .ok (.bool true) w := fun w => eql_meta 0 0 0 0 0 0 true rfl w
  have qa := neq_err_nil (B 0)
  clear hnI hc hxr hd hE hs hr
  go_enter Tryd.func10, Tryd.ntmps10
  go_wp2_with (first
    | (go_at_call 9; refine (LMetaBack.walk (B := B) 9 3 12 _ (HE.out.1.below (below_alloc (Below.refl _ _) _)) (HE.out.2.1.below (below_alloc (Below.refl _ _) _)) (by decide) (by decide)).mono ?_; rintro e W1 ⟨rfl, hb⟩; have k0 := box_cell hb 0 _ rfl; have k1 := box_cell hb 1 _ rfl; have k2 := box_cell hb 2 _ rfl; have H1 : Hd (Below w.heap.size w W1) := ⟨box_below hb⟩; clear hb)
    | (go_at_call 25; refine (decode_calls (B := B) A c nI xs HN.out.1 pages slot _ _ _ _ HD.out _ (HE.out.1.below H1.out) (HE.out.2.1.below H1.out) (HE.out.2.2.below H1.out) HG.out).mono ?_; rw [errV1]; rintro e W2 ⟨rfl, hb⟩; have H2 : Hd (Below w.heap.size w W2) := ⟨below_step H1.out hb⟩; have m0 := fun o => below_cell (below_alloc (Below.refl _ W2) o) (below_cell hb k0); have m1 := fun o => below_cell (below_alloc (Below.refl _ W2) o) (below_cell hb k1); have m2 := fun o => below_cell (below_alloc (Below.refl _ W2) o) (below_cell hb k2); clear hb k0 k1 k2)
    | (go_at_call 19; refine (num_errY 1 _ (errV1 B) (by decide) _ (HE.out.1.below (below_alloc H2.out _))).mono ?_; rintro e W3 ⟨rfl, rfl⟩)
    | fail)
  go_ret
  exact ⟨rfl, below_alloc H2.out _⟩

set_option maxRecDepth 100000 in
set_option maxHeartbeats 1000000 in
theorem walk_hi {B : Nat → Addr} (A : Option Addr) (nI c : Nat) (xs : List Int) (hnI : nI = xs.length) (hc : nI ≤ c) (hxr : ∀ x, x ∈ xs → 0 ≤ x ∧ x ≤ 255) (pages slot : Int) (h0 : pages ≥ 4) (h1 : ¬ pages ≤ 1048576) (hd : decR xs pages slot = (0, 0, 0, 1))
    (w : World) (hE : Errs errG B w) (hs : TabOk w) (hr : RdB w A xs) :
    Calls Tryd.prog 10 #[.agg #[.slice A nI c, .int .i64 pages, .int .i64 slot]] w fun e w' => e = .returned (.bool true) ∧ Below w.heap.size w w' := by
  have HN : Hd (nI = xs.length ∧ nI ≤ c) := ⟨hnI, hc⟩
  have HG : Hd (∀ x, x ∈ xs → 0 ≤ x ∧ x ≤ 255) := ⟨hxr⟩
  have HD : Hd (decR xs pages slot = (0, 0, 0, 1)) := ⟨hd⟩
  have HE : Hd (Errs errG B w ∧ TabOk w ∧ RdB w A xs) := ⟨hE, hs, hr⟩
  have hq : ∀ w, (binOp .eql 24 (.agg #[.int .i64 0, .int .i64 0, .int .u64 0]) (.agg #[.int .i64 0, .int .i64 0, .int .u64 0])).run Tryd.prog w = .ok (.bool true) w := fun w => eql_meta 0 0 0 0 0 0 true rfl w
  have qa := neq_err_nil (B 0)
  clear hnI hc hxr hd hE hs hr
  go_enter Tryd.func10, Tryd.ntmps10
  go_wp2_with (first
    | (go_at_call 9; refine (LMetaBack.walk (B := B) 9 3 12 _ (HE.out.1.below (below_alloc (Below.refl _ _) _)) (HE.out.2.1.below (below_alloc (Below.refl _ _) _)) (by decide) (by decide)).mono ?_; rintro e W1 ⟨rfl, hb⟩; have k0 := box_cell hb 0 _ rfl; have k1 := box_cell hb 1 _ rfl; have k2 := box_cell hb 2 _ rfl; have H1 : Hd (Below w.heap.size w W1) := ⟨box_below hb⟩; clear hb)
    | (go_at_call 25; refine (decode_calls (B := B) A c nI xs HN.out.1 pages slot _ _ _ _ HD.out _ (HE.out.1.below H1.out) (HE.out.2.1.below H1.out) (HE.out.2.2.below H1.out) HG.out).mono ?_; rw [errV1]; rintro e W2 ⟨rfl, hb⟩; have H2 : Hd (Below w.heap.size w W2) := ⟨below_step H1.out hb⟩; have m0 := fun o => below_cell (below_alloc (Below.refl _ W2) o) (below_cell hb k0); have m1 := fun o => below_cell (below_alloc (Below.refl _ W2) o) (below_cell hb k1); have m2 := fun o => below_cell (below_alloc (Below.refl _ W2) o) (below_cell hb k2); clear hb k0 k1 k2)
    | (go_at_call 19; refine (num_errY 1 _ (errV1 B) (by decide) _ (HE.out.1.below (below_alloc H2.out _))).mono ?_; rintro e W3 ⟨rfl, rfl⟩)
    | fail)
  go_ret
  exact ⟨rfl, below_alloc H2.out _⟩

set_option maxRecDepth 100000 in
set_option maxHeartbeats 1000000 in
theorem walk_slot {B : Nat → Addr} (A : Option Addr) (nI c : Nat) (xs : List Int) (hnI : nI = xs.length) (hc : nI ≤ c) (hxr : ∀ x, x ∈ xs → 0 ≤ x ∧ x ≤ 255) (pages slot : Int) (h0 : pages ≥ 4) (h1 : pages ≤ 1048576) (hs0 : ¬ slot = 0) (hs1 : ¬ slot = 1) (hd : decR xs pages slot = (0, 0, 0, 1))
    (w : World) (hE : Errs errG B w) (hs : TabOk w) (hr : RdB w A xs) :
    Calls Tryd.prog 10 #[.agg #[.slice A nI c, .int .i64 pages, .int .i64 slot]] w fun e w' => e = .returned (.bool true) ∧ Below w.heap.size w w' := by
  have HN : Hd (nI = xs.length ∧ nI ≤ c) := ⟨hnI, hc⟩
  have HG : Hd (∀ x, x ∈ xs → 0 ≤ x ∧ x ≤ 255) := ⟨hxr⟩
  have HD : Hd (decR xs pages slot = (0, 0, 0, 1)) := ⟨hd⟩
  have HE : Hd (Errs errG B w ∧ TabOk w ∧ RdB w A xs) := ⟨hE, hs, hr⟩
  have hb0 : (slot == 0) = false := by simp [hs0]
  have hb1 : (slot == 1) = false := by simp [hs1]
  have hq : ∀ w, (binOp .eql 24 (.agg #[.int .i64 0, .int .i64 0, .int .u64 0]) (.agg #[.int .i64 0, .int .i64 0, .int .u64 0])).run Tryd.prog w = .ok (.bool true) w := fun w => eql_meta 0 0 0 0 0 0 true rfl w
  have qa := neq_err_nil (B 0)
  clear hnI hc hxr hd hE hs hr
  go_enter Tryd.func10, Tryd.ntmps10
  go_wp2_with (first
    | (go_at_call 9; refine (LMetaBack.walk (B := B) 9 3 12 _ (HE.out.1.below (below_alloc (Below.refl _ _) _)) (HE.out.2.1.below (below_alloc (Below.refl _ _) _)) (by decide) (by decide)).mono ?_; rintro e W1 ⟨rfl, hb⟩; have k0 := box_cell hb 0 _ rfl; have k1 := box_cell hb 1 _ rfl; have k2 := box_cell hb 2 _ rfl; have H1 : Hd (Below w.heap.size w W1) := ⟨box_below hb⟩; clear hb)
    | (go_at_call 25; refine (decode_calls (B := B) A c nI xs HN.out.1 pages slot _ _ _ _ HD.out _ (HE.out.1.below H1.out) (HE.out.2.1.below H1.out) (HE.out.2.2.below H1.out) HG.out).mono ?_; rw [errV1]; rintro e W2 ⟨rfl, hb⟩; have H2 : Hd (Below w.heap.size w W2) := ⟨below_step H1.out hb⟩; have m0 := fun o => below_cell (below_alloc (Below.refl _ W2) o) (below_cell hb k0); have m1 := fun o => below_cell (below_alloc (Below.refl _ W2) o) (below_cell hb k1); have m2 := fun o => below_cell (below_alloc (Below.refl _ W2) o) (below_cell hb k2); clear hb k0 k1 k2)
    | (go_at_call 19; refine (num_errY 1 _ (errV1 B) (by decide) _ (HE.out.1.below (below_alloc H2.out _))).mono ?_; rintro e W3 ⟨rfl, rfl⟩)
    | fail)
  go_ret
  exact ⟨rfl, below_alloc H2.out _⟩

set_option maxRecDepth 100000 in
set_option maxHeartbeats 1000000 in
theorem walk_no0 {B : Nat → Addr} (A : Option Addr) (nI c : Nat) (xs : List Int) (hnI : nI = xs.length) (hc : nI ≤ c) (hxr : ∀ x, x ∈ xs → 0 ≤ x ∧ x ≤ 255) (pages : Int) (h0 : pages ≥ 4) (h1 : pages ≤ 1048576) (hd : decR xs pages 0 = (0, 0, 0, 2))
    (w : World) (hE : Errs errG B w) (hs : TabOk w) (hr : RdB w A xs) :
    Calls Tryd.prog 10 #[.agg #[.slice A nI c, .int .i64 pages, .int .i64 0]] w fun e w' => e = .returned (.bool true) ∧ Below w.heap.size w w' := by
  have HN : Hd (nI = xs.length ∧ nI ≤ c) := ⟨hnI, hc⟩
  have HG : Hd (∀ x, x ∈ xs → 0 ≤ x ∧ x ≤ 255) := ⟨hxr⟩
  have HD : Hd (decR xs pages 0 = (0, 0, 0, 2)) := ⟨hd⟩
  have HE : Hd (Errs errG B w ∧ TabOk w ∧ RdB w A xs) := ⟨hE, hs, hr⟩
  have hq : ∀ w, (binOp .eql 24 (.agg #[.int .i64 0, .int .i64 0, .int .u64 0]) (.agg #[.int .i64 0, .int .i64 0, .int .u64 0])).run Tryd.prog w = .ok (.bool true) w := fun w => eql_meta 0 0 0 0 0 0 true rfl w
  have qa := neq_err_nil (B 1)
  clear hnI hc hxr hd hE hs hr
  go_enter Tryd.func10, Tryd.ntmps10
  go_wp2_with (first
    | (go_at_call 9; refine (LMetaBack.walk (B := B) 9 3 12 _ (HE.out.1.below (below_alloc (Below.refl _ _) _)) (HE.out.2.1.below (below_alloc (Below.refl _ _) _)) (by decide) (by decide)).mono ?_; rintro e W1 ⟨rfl, hb⟩; have k0 := box_cell hb 0 _ rfl; have k1 := box_cell hb 1 _ rfl; have k2 := box_cell hb 2 _ rfl; have H1 : Hd (Below w.heap.size w W1) := ⟨box_below hb⟩; clear hb)
    | (go_at_call 25; refine (decode_calls (B := B) A c nI xs HN.out.1 pages 0 _ _ _ _ HD.out _ (HE.out.1.below H1.out) (HE.out.2.1.below H1.out) (HE.out.2.2.below H1.out) HG.out).mono ?_; rw [errV2]; rintro e W2 ⟨rfl, hb⟩; have H2 : Hd (Below w.heap.size w W2) := ⟨below_step H1.out hb⟩; have m0 := fun o => below_cell (below_alloc (Below.refl _ W2) o) (below_cell hb k0); have m1 := fun o => below_cell (below_alloc (Below.refl _ W2) o) (below_cell hb k1); have m2 := fun o => below_cell (below_alloc (Below.refl _ W2) o) (below_cell hb k2); clear hb k0 k1 k2)
    | (go_at_call 19; refine (num_errY 2 _ (errV2 B) (by decide) _ (HE.out.1.below (below_alloc H2.out _))).mono ?_; rintro e W3 ⟨rfl, rfl⟩)
    | fail)
  go_ret
  exact ⟨rfl, below_alloc H2.out _⟩

set_option maxRecDepth 100000 in
set_option maxHeartbeats 1000000 in
theorem walk_ok0 {B : Nat → Addr} (A : Option Addr) (nI c : Nat) (xs : List Int) (hnI : nI = xs.length) (hc : nI ≤ c) (hxr : ∀ x, x ∈ xs → 0 ≤ x ∧ x ≤ 255) (pages p r t : Int) (h0 : pages ≥ 4) (h1 : pages ≤ 1048576) (hd : decR xs pages 0 = (p, r, t, 0))
    (w : World) (hE : Errs errG B w) (hs : TabOk w) (hr : RdB w A xs) :
    Calls Tryd.prog 10 #[.agg #[.slice A nI c, .int .i64 pages, .int .i64 0]] w fun e w' => e = .returned (.bool true) ∧ Below w.heap.size w w' := by
  have HN : Hd (nI = xs.length ∧ nI ≤ c) := ⟨hnI, hc⟩
  have HG : Hd (∀ x, x ∈ xs → 0 ≤ x ∧ x ≤ 255) := ⟨hxr⟩
  have HD : Hd (decR xs pages 0 = (p, r, t, 0)) := ⟨hd⟩
  have HE : Hd (Errs errG B w ∧ TabOk w ∧ RdB w A xs) := ⟨hE, hs, hr⟩
  obtain ⟨rfl, hm, ht2, hw, ht0, ht1⟩ := decR_ok xs hxr _ _ _ _ _ hd
  have HM : Hd (MayM p r ∧ wr p r t = xs ∧ 0 ≤ t ∧ t < 18446744073709551616) := ⟨hm, hw, ht0, ht1⟩
  have hrem : Int.tmod t 2 = 0 := by rw [Int.tmod_eq_emod_of_nonneg ht0]; exact ht2
  have qn := eql_nil_nil
  have qn' := neq_nil_nil
  clear hnI hc hxr hd hE hs hr hm hw ht1 ht2
  go_enter Tryd.func10, Tryd.ntmps10
  go_wp2_with (first
    | (go_at_call 9; refine (LMetaBack.walk (B := B) 9 3 12 _ (HE.out.1.below (below_alloc (Below.refl _ _) _)) (HE.out.2.1.below (below_alloc (Below.refl _ _) _)) (by decide) (by decide)).mono ?_; rintro e W1 ⟨rfl, hb⟩; have k0 := box_cell hb 0 _ rfl; have k1 := box_cell hb 1 _ rfl; have k2 := box_cell hb 2 _ rfl; have H1 : Hd (Below w.heap.size w W1) := ⟨box_below hb⟩; clear hb)
    | (go_at_call 25; refine (decode_calls (B := B) A c nI xs HN.out.1 p 0 _ _ _ _ HD.out _ (HE.out.1.below H1.out) (HE.out.2.1.below H1.out) (HE.out.2.2.below H1.out) HG.out).mono ?_; rw [errV0]; rintro e W2 ⟨rfl, hb⟩; have H2 : Hd (Below w.heap.size w W2) := ⟨below_step H1.out hb⟩; have m0 := fun o => below_cell (below_alloc (Below.refl _ W2) o) (below_cell hb k0); have m1 := fun o => below_cell (below_alloc (Below.refl _ W2) o) (below_cell hb k1); have m2 := fun o => below_cell (below_alloc (Below.refl _ W2) o) (below_cell hb k2); clear hb k0 k1 k2)
    | (go_at_call 16; refine (encode_ok p r t _ (HE.out.2.1.below (below_alloc H2.out _)) HM.out.1 HM.out.2.2.1 HM.out.2.2.2).mono ?_; rintro e W3 ⟨g, rfl, -, hrow, hb⟩; have H3 : Hd ((Below w.heap.size w W3 ∧ W3.heap[W2.heap.size]? = some (.cells #[.int .i64 p, .int .i64 r, .int .u64 t] 24 (0, 0))) ∧ W3.heap[g]? = some (.cells (u8s (wr p r t)) 5 (0, 0))) := ⟨⟨below_step H2.out (box_below hb), box_row hb⟩, hrow⟩; have x0 := below_cell hb (m0 _); have x1 := below_cell hb (m1 _); have x2 := below_cell hb (m2 _); clear hrow hb m0 m1 m2)
    | (go_at_call 18; refine (same_calls _ _ _ _ _ _ (wr p r t) xs true (decide_eq_true HM.out.2.1) (wr_length p r t).symm HN.out.1 _ (RdB.of_row0 H3.out.2) (HE.out.2.2.below H3.out.1.1) (by omega) HN.out.2 (by rw [wr_length]; omega) (by rw [← HM.out.2.1, wr_length]; omega)).mono ?_; rintro e W4 ⟨rfl, hw⟩; have H4 : Hd (Below w.heap.size w W4) := ⟨below_step H3.out.1.1 (below_drawn hw)⟩; have j0 := (Joins.cell_of_block (below_row (below_drawn hw) H3.out.1.2) 0).trans (show _ = some (Value.int .i64 p) from rfl); have j1 := (Joins.cell_of_block (below_row (below_drawn hw) H3.out.1.2) 1).trans (show _ = some (Value.int .i64 r) from rfl); have j2 := (Joins.cell_of_block (below_row (below_drawn hw) H3.out.1.2) 2).trans (show _ = some (Value.int .u64 t) from rfl); have y1 := below_cell (below_drawn hw) x1; have y2 := below_cell (below_drawn hw) x2; clear hw x0 x1 x2)
    | fail)
  go_ret
  exact ⟨rfl, H4.out⟩

set_option maxRecDepth 100000 in
set_option maxHeartbeats 1000000 in
theorem walk_no1 {B : Nat → Addr} (A : Option Addr) (nI c : Nat) (xs : List Int) (hnI : nI = xs.length) (hc : nI ≤ c) (hxr : ∀ x, x ∈ xs → 0 ≤ x ∧ x ≤ 255) (pages : Int) (h0 : pages ≥ 4) (h1 : pages ≤ 1048576) (hd : decR xs pages 1 = (0, 0, 0, 2))
    (w : World) (hE : Errs errG B w) (hs : TabOk w) (hr : RdB w A xs) :
    Calls Tryd.prog 10 #[.agg #[.slice A nI c, .int .i64 pages, .int .i64 1]] w fun e w' => e = .returned (.bool true) ∧ Below w.heap.size w w' := by
  have HN : Hd (nI = xs.length ∧ nI ≤ c) := ⟨hnI, hc⟩
  have HG : Hd (∀ x, x ∈ xs → 0 ≤ x ∧ x ≤ 255) := ⟨hxr⟩
  have HD : Hd (decR xs pages 1 = (0, 0, 0, 2)) := ⟨hd⟩
  have HE : Hd (Errs errG B w ∧ TabOk w ∧ RdB w A xs) := ⟨hE, hs, hr⟩
  have hq : ∀ w, (binOp .eql 24 (.agg #[.int .i64 0, .int .i64 0, .int .u64 0]) (.agg #[.int .i64 0, .int .i64 0, .int .u64 0])).run Tryd.prog w = .ok (.bool true) w := fun w => eql_meta 0 0 0 0 0 0 true rfl w
  have qa := neq_err_nil (B 1)
  clear hnI hc hxr hd hE hs hr
  go_enter Tryd.func10, Tryd.ntmps10
  go_wp2_with (first
    | (go_at_call 9; refine (LMetaBack.walk (B := B) 9 3 12 _ (HE.out.1.below (below_alloc (Below.refl _ _) _)) (HE.out.2.1.below (below_alloc (Below.refl _ _) _)) (by decide) (by decide)).mono ?_; rintro e W1 ⟨rfl, hb⟩; have k0 := box_cell hb 0 _ rfl; have k1 := box_cell hb 1 _ rfl; have k2 := box_cell hb 2 _ rfl; have H1 : Hd (Below w.heap.size w W1) := ⟨box_below hb⟩; clear hb)
    | (go_at_call 25; refine (decode_calls (B := B) A c nI xs HN.out.1 pages 1 _ _ _ _ HD.out _ (HE.out.1.below H1.out) (HE.out.2.1.below H1.out) (HE.out.2.2.below H1.out) HG.out).mono ?_; rw [errV2]; rintro e W2 ⟨rfl, hb⟩; have H2 : Hd (Below w.heap.size w W2) := ⟨below_step H1.out hb⟩; have m0 := fun o => below_cell (below_alloc (Below.refl _ W2) o) (below_cell hb k0); have m1 := fun o => below_cell (below_alloc (Below.refl _ W2) o) (below_cell hb k1); have m2 := fun o => below_cell (below_alloc (Below.refl _ W2) o) (below_cell hb k2); clear hb k0 k1 k2)
    | (go_at_call 19; refine (num_errY 2 _ (errV2 B) (by decide) _ (HE.out.1.below (below_alloc H2.out _))).mono ?_; rintro e W3 ⟨rfl, rfl⟩)
    | fail)
  go_ret
  exact ⟨rfl, below_alloc H2.out _⟩

set_option maxRecDepth 100000 in
set_option maxHeartbeats 1000000 in
theorem walk_ok1 {B : Nat → Addr} (A : Option Addr) (nI c : Nat) (xs : List Int) (hnI : nI = xs.length) (hc : nI ≤ c) (hxr : ∀ x, x ∈ xs → 0 ≤ x ∧ x ≤ 255) (pages p r t : Int) (h0 : pages ≥ 4) (h1 : pages ≤ 1048576) (hd : decR xs pages 1 = (p, r, t, 0))
    (w : World) (hE : Errs errG B w) (hs : TabOk w) (hr : RdB w A xs) :
    Calls Tryd.prog 10 #[.agg #[.slice A nI c, .int .i64 pages, .int .i64 1]] w fun e w' => e = .returned (.bool true) ∧ Below w.heap.size w w' := by
  have HN : Hd (nI = xs.length ∧ nI ≤ c) := ⟨hnI, hc⟩
  have HG : Hd (∀ x, x ∈ xs → 0 ≤ x ∧ x ≤ 255) := ⟨hxr⟩
  have HD : Hd (decR xs pages 1 = (p, r, t, 0)) := ⟨hd⟩
  have HE : Hd (Errs errG B w ∧ TabOk w ∧ RdB w A xs) := ⟨hE, hs, hr⟩
  obtain ⟨rfl, hm, ht2, hw, ht0, ht1⟩ := decR_ok xs hxr _ _ _ _ _ hd
  have HM : Hd (MayM p r ∧ wr p r t = xs ∧ 0 ≤ t ∧ t < 18446744073709551616) := ⟨hm, hw, ht0, ht1⟩
  have hrem : Int.tmod t 2 = 1 := by rw [Int.tmod_eq_emod_of_nonneg ht0]; exact ht2
  have qn := eql_nil_nil
  have qn' := neq_nil_nil
  clear hnI hc hxr hd hE hs hr hm hw ht1 ht2
  go_enter Tryd.func10, Tryd.ntmps10
  go_wp2_with (first
    | (go_at_call 9; refine (LMetaBack.walk (B := B) 9 3 12 _ (HE.out.1.below (below_alloc (Below.refl _ _) _)) (HE.out.2.1.below (below_alloc (Below.refl _ _) _)) (by decide) (by decide)).mono ?_; rintro e W1 ⟨rfl, hb⟩; have k0 := box_cell hb 0 _ rfl; have k1 := box_cell hb 1 _ rfl; have k2 := box_cell hb 2 _ rfl; have H1 : Hd (Below w.heap.size w W1) := ⟨box_below hb⟩; clear hb)
    | (go_at_call 25; refine (decode_calls (B := B) A c nI xs HN.out.1 p 1 _ _ _ _ HD.out _ (HE.out.1.below H1.out) (HE.out.2.1.below H1.out) (HE.out.2.2.below H1.out) HG.out).mono ?_; rw [errV0]; rintro e W2 ⟨rfl, hb⟩; have H2 : Hd (Below w.heap.size w W2) := ⟨below_step H1.out hb⟩; have m0 := fun o => below_cell (below_alloc (Below.refl _ W2) o) (below_cell hb k0); have m1 := fun o => below_cell (below_alloc (Below.refl _ W2) o) (below_cell hb k1); have m2 := fun o => below_cell (below_alloc (Below.refl _ W2) o) (below_cell hb k2); clear hb k0 k1 k2)
    | (go_at_call 16; refine (encode_ok p r t _ (HE.out.2.1.below (below_alloc H2.out _)) HM.out.1 HM.out.2.2.1 HM.out.2.2.2).mono ?_; rintro e W3 ⟨g, rfl, -, hrow, hb⟩; have H3 : Hd ((Below w.heap.size w W3 ∧ W3.heap[W2.heap.size]? = some (.cells #[.int .i64 p, .int .i64 r, .int .u64 t] 24 (0, 0))) ∧ W3.heap[g]? = some (.cells (u8s (wr p r t)) 5 (0, 0))) := ⟨⟨below_step H2.out (box_below hb), box_row hb⟩, hrow⟩; have x0 := below_cell hb (m0 _); have x1 := below_cell hb (m1 _); have x2 := below_cell hb (m2 _); clear hrow hb m0 m1 m2)
    | (go_at_call 18; refine (same_calls _ _ _ _ _ _ (wr p r t) xs true (decide_eq_true HM.out.2.1) (wr_length p r t).symm HN.out.1 _ (RdB.of_row0 H3.out.2) (HE.out.2.2.below H3.out.1.1) (by omega) HN.out.2 (by rw [wr_length]; omega) (by rw [← HM.out.2.1, wr_length]; omega)).mono ?_; rintro e W4 ⟨rfl, hw⟩; have H4 : Hd (Below w.heap.size w W4) := ⟨below_step H3.out.1.1 (below_drawn hw)⟩; have j0 := (Joins.cell_of_block (below_row (below_drawn hw) H3.out.1.2) 0).trans (show _ = some (Value.int .i64 p) from rfl); have j1 := (Joins.cell_of_block (below_row (below_drawn hw) H3.out.1.2) 1).trans (show _ = some (Value.int .i64 r) from rfl); have j2 := (Joins.cell_of_block (below_row (below_drawn hw) H3.out.1.2) 2).trans (show _ = some (Value.int .u64 t) from rfl); have y1 := below_cell (below_drawn hw) x1; have y2 := below_cell (below_drawn hw) x2; clear hw x0 x1 x2)
    | fail)
  go_ret
  exact ⟨rfl, H4.out⟩

theorem walk {B : Nat → Addr} (A : Option Addr) (nI c : Nat) (xs : List Int) (hnI : nI = xs.length) (hc : nI ≤ c) (hxr : ∀ x, x ∈ xs → 0 ≤ x ∧ x ≤ 255) (pages slot : Int)
    (w : World) (hE : Errs errG B w) (hs : TabOk w) (hr : RdB w A xs) :
    Calls Tryd.prog 10 #[.agg #[.slice A nI c, .int .i64 pages, .int .i64 slot]] w fun e w' => e = .returned (.bool true) ∧ Below w.heap.size w w' := by
  have one : ¬ (PagesM pages ∧ (slot = 0 ∨ slot = 1)) → decR xs pages slot = (0, 0, 0, 1) := fun h => by unfold decR; rw [if_neg h]
  by_cases h0 : pages ≥ 4
  · by_cases h1 : pages ≤ 1048576
    · by_cases hsl : slot = 0 ∨ slot = 1
      · obtain ⟨⟨p, r, t, n⟩, hd⟩ : ∃ q, decR xs pages slot = q := ⟨_, rfl⟩
        have two : n = 0 ∨ (p, r, t, n) = (0, 0, 0, 2) := by
          unfold decR at hd
          rw [if_pos ⟨⟨h0, h1⟩, hsl⟩] at hd
          by_cases c2 : xs.length = 512 ∧ OkD xs pages slot
          · rw [if_pos c2] at hd; simp only [Prod.mk.injEq] at hd; exact .inl hd.2.2.2.symm
          · rw [if_neg c2] at hd; exact .inr hd.symm
        rcases two with rfl | h2
        · rcases hsl with rfl | rfl
          · exact walk_ok0 (B := B) A nI c xs hnI hc hxr pages p r t h0 h1 hd w hE hs hr
          · exact walk_ok1 (B := B) A nI c xs hnI hc hxr pages p r t h0 h1 hd w hE hs hr
        · rw [h2] at hd
          rcases hsl with rfl | rfl
          · exact walk_no0 (B := B) A nI c xs hnI hc hxr pages h0 h1 hd w hE hs hr
          · exact walk_no1 (B := B) A nI c xs hnI hc hxr pages h0 h1 hd w hE hs hr
      · exact walk_slot (B := B) A nI c xs hnI hc hxr pages slot h0 h1 (fun k => hsl (.inl k)) (fun k => hsl (.inr k)) (one fun k => hsl k.2) w hE hs hr
    · exact walk_hi (B := B) A nI c xs hnI hc hxr pages slot h0 h1 (one fun k => h1 k.1.2) w hE hs hr
  · exact walk_lo (B := B) A nI c xs hnI hc hxr pages slot h0 (one fun k => h0 k.1.1) w hE hs hr
end Go.Proofs.YtoenacghkpgnpaaDoor.LMetaOnly
