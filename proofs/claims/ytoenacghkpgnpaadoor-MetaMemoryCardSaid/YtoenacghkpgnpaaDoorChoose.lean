/- Both Chooses: what they answer, for every bytes of two slots. -/
import Derived.Test.YtoenacghkpgnpaaDoorDecV
namespace Go.Proofs.YtoenacghkpgnpaaDoor.D
open Go.RowKit Go.Proofs.YtoenacghkpgnpaaDoor.K Go.Proofs.YtoenacghkpgnpaaDoor.E Go.Proofs.YtoenacghkpgnpaaDoor.P1 Go.Proofs.YtoenacghkpgnpaaDoor.Codec Go.Proofs.YtoenacghkpgnpaaDoor.Meta Go.Proofs.YtoenacghkpgnpaaDoor.Q Go.Proofs.YtoenacghkpgnpaaDoor.S

theorem errV_form (B : Nat → Addr) (n : Int) (hn : n = 0 ∨ n = 1 ∨ n = 2) (h0 : n ≠ 0) : ∃ a, errV B n = errAt a := by
  rcases hn with rfl | rfl | rfl
  · exact absurd rfl h0
  · exact ⟨_, rfl⟩
  · exact ⟨_, rfl⟩

set_option maxRecDepth 100000 in
set_option maxHeartbeats 1000000 in
theorem choose_pages (A0 A1 : Option Addr) (m0 c0 m1 c1 : Nat) (pages : Int) (w : World) (v : Value) (hE : w.cell? ⟨0, 0, none⟩ = some v) (hp : ¬ PagesM pages) :
    Calls Tryd.prog 35 #[.slice A0 m0 c0, .slice A1 m1 c1, .int .i64 pages] w fun e w' => e = .returned (.tuple #[.agg #[.int .i64 0, .int .i64 0, .int .u64 0], v]) ∧ Below w.heap.size w w' := by
  have HP : Hd (decide (PagesM pages) = false) := ⟨decide_eq_false hp⟩
  clear hp
  have hlt : 0 < w.heap.size := World.block_lt_of_cell? w _ hE
  have hne : 0 ≠ w.heap.size := Nat.ne_of_lt hlt
  go_enter Tryd.func35, Tryd.ntmps35
  go_wp2_with (first
    | (go_at_call 62; refine (pages_calls pages _ HP.out _).mono ?_; rintro e W1 ⟨rfl, hb⟩; have hE1 := below_cell hb (below_cell (below_alloc (Below.refl _ _) _) hE); have H1 : Hd (Below w.heap.size w W1 ∧ W1.heap[w.heap.size]? = some (.cells #[.int .i64 0, .int .i64 0, .int .u64 0] 24 (0, 0))) := ⟨box_below hb, box_row hb⟩; have hc0 := box_cell hb 0 _ rfl; have hc1 := box_cell hb 1 _ rfl; have hc2 := box_cell hb 2 _ rfl; have hf := Joins.unfrozen_of_block H1.out.2; clear hb)
    | fail)
  go_region
  all_goals
    (try go_wp2)
    refine bodyPost_ret (v := .tuple #[.agg #[.int .i64 0, .int .i64 0, .int .u64 0], v]) (results_meta rfl _ _ w.heap.size _ _ _ _ rfl rfl (metaRow H1.out.2 _ _ _)) rfl ⟨rfl, ?_⟩
    exact below_drewN (below_meta H1.out.1 (Nat.le_refl _) _ _ _) 1

set_option maxRecDepth 100000 in
set_option maxHeartbeats 1000000 in
theorem choose_both {B : Nat → Addr} (A0 A1 : Option Addr) (m0 c0 m1 c1 : Nat) (xs ys : List Int) (h0 : m0 = xs.length) (h1 : m1 = ys.length) (pages p0 r0 t0 n0 p1 r1 t1 n1 : Int) (hd0 : decR xs pages 0 = (p0, r0, t0, n0)) (hd1 : decR ys pages 1 = (p1, r1, t1, n1))
    (hxr : ∀ x, x ∈ xs → 0 ≤ x ∧ x ≤ 255) (hyr : ∀ x, x ∈ ys → 0 ≤ x ∧ x ≤ 255) (w : World) (v9 : Value) (hE9 : w.cell? ⟨8, 0, none⟩ = some v9) (hE : Errs errG B w) (hs : TabOk w) (hr0 : RdB w A0 xs) (hr1 : RdB w A1 ys) (hp : PagesM pages) (hn0 : n0 ≠ 0) (hn1 : n1 ≠ 0) :
    Calls Tryd.prog 35 #[.slice A0 m0 c0, .slice A1 m1 c1, .int .i64 pages] w fun e w' => e = .returned (.tuple #[.agg #[.int .i64 0, .int .i64 0, .int .u64 0], v9]) ∧ Below w.heap.size w w' := by
  have HP : Hd (decide (PagesM pages) = true) := ⟨decide_eq_true hp⟩
  have HE : Hd (Errs errG B w ∧ TabOk w ∧ RdB w A0 xs ∧ RdB w A1 ys) := ⟨hE, hs, hr0, hr1⟩
  have HE9 : Hd (w.cell? ⟨8, 0, none⟩ = some v9) := ⟨hE9⟩
  have hlt : 8 < w.heap.size := World.block_lt_of_cell? w _ hE9
  have hne : 8 ≠ w.heap.size := Nat.ne_of_lt hlt
  have HM : Hd (m0 = xs.length ∧ m1 = ys.length) := ⟨h0, h1⟩
  have HD : Hd (decR xs pages 0 = (p0, r0, t0, n0) ∧ decR ys pages 1 = (p1, r1, t1, n1)) := ⟨hd0, hd1⟩
  have HG : Hd ((∀ x, x ∈ xs → 0 ≤ x ∧ x ≤ 255) ∧ ∀ x, x ∈ ys → 0 ≤ x ∧ x ≤ 255) := ⟨hxr, hyr⟩
  obtain ⟨a0, ha0⟩ := errV_form B n0 (decR_num _ _ _ _ _ _ _ hd0) hn0
  have q0a := neq_err_nil a0
  have q0b := eql_err_nil a0
  obtain ⟨a1, ha1⟩ := errV_form B n1 (decR_num _ _ _ _ _ _ _ hd1) hn1
  have q1a := neq_err_nil a1
  have q1b := eql_err_nil a1
  have HV : Hd ((errV B n0 = errAt a0) ∧ (errV B n1 = errAt a1)) := ⟨ha0, ha1⟩
  clear ha0 ha1
  clear hp hE hs hr0 hr1 hE9 h0 h1 hd0 hd1 hxr hyr hn0 hn1
  go_enter Tryd.func35, Tryd.ntmps35
  go_wp2_with (first
    | (go_at_call 62; refine (pages_calls pages _ HP.out _).mono ?_; rintro e W1 ⟨rfl, hb⟩; have H1 : Hd (Below w.heap.size w W1 ∧ W1.heap[w.heap.size]? = some (.cells #[.int .i64 0, .int .i64 0, .int .u64 0] 24 (0, 0))) := ⟨box_below hb, box_row hb⟩; clear hb)
    | (go_at_call_of 25 (Value.int .i64 0); refine (decode_calls (B := B) A0 c0 m0 xs HM.out.1 pages 0 _ _ _ _ HD.out.1 _ (HE.out.1.below H1.out.1) (HE.out.2.1.below H1.out.1) (HE.out.2.2.1.below H1.out.1) HG.out.1).mono ?_; rw [HV.out.1]; rintro e W2 ⟨rfl, hb⟩; have H2 : Hd (Below w.heap.size w W2 ∧ W2.heap[w.heap.size]? = some (.cells #[.int .i64 0, .int .i64 0, .int .u64 0] 24 (0, 0))) := ⟨below_step H1.out.1 hb, below_row hb H1.out.2⟩; clear hb)
    | (go_at_call_of 25 (Value.int .i64 1); refine (decode_calls (B := B) A1 c1 m1 ys HM.out.2 pages 1 _ _ _ _ HD.out.2 _ (HE.out.1.below (below_alloc H2.out.1 _)) (HE.out.2.1.below (below_alloc H2.out.1 _)) (HE.out.2.2.2.below (below_alloc H2.out.1 _)) HG.out.2).mono ?_; rw [HV.out.2]; rintro e W3 ⟨rfl, hb⟩; have k0 := box_cell hb 0 _ rfl; have k1 := box_cell hb 1 _ rfl; have k2 := box_cell hb 2 _ rfl; have H3 : Hd (Below w.heap.size w W3 ∧ W3.heap[w.heap.size]? = some (.cells #[.int .i64 0, .int .i64 0, .int .u64 0] 24 (0, 0))) := ⟨below_step H2.out.1 (box_below hb), below_row (box_below hb) H2.out.2⟩; have k0a := fun o => below_cell (below_alloc (Below.refl _ W3) o) (k0); have k1a := fun o => below_cell (below_alloc (Below.refl _ W3) o) (k1); have k2a := fun o => below_cell (below_alloc (Below.refl _ W3) o) (k2); have z0 := fun o => below_cell (below_alloc (Below.refl _ W3) o) ((Joins.cell_of_block H3.out.2 0).trans (show _ = some (Value.int .i64 0) from rfl)); have z1 := fun o => below_cell (below_alloc (Below.refl _ W3) o) ((Joins.cell_of_block H3.out.2 1).trans (show _ = some (Value.int .i64 0) from rfl)); have z2 := fun o => below_cell (below_alloc (Below.refl _ W3) o) ((Joins.cell_of_block H3.out.2 2).trans (show _ = some (Value.int .u64 0) from rfl)); have zf := fun o => Joins.unfrozen_of_block (below_row (below_alloc (Below.refl _ W3) o) H3.out.2); have hE9 := fun o => below_cell (below_alloc (Below.refl _ W3) o) (below_cell H3.out.1 HE9.out); clear hb k0 k1 k2)
    | fail)
  go_region
  all_goals
    (try go_wp2)
    refine bodyPost_ret (v := .tuple #[.agg #[.int .i64 0, .int .i64 0, .int .u64 0], v9]) (results_meta rfl _ _ w.heap.size _ _ _ _ rfl rfl (metaRow (below_row (below_alloc (Below.refl _ _) _) H3.out.2) _ _ _)) rfl ⟨rfl, ?_⟩
    exact below_drewN (below_meta (below_alloc H3.out.1 _) (Nat.le_refl _) _ _ _) 1

set_option maxRecDepth 100000 in
set_option maxHeartbeats 1000000 in
theorem rchoose_both (A0 A1 : Option Addr) (m0 c0 m1 c1 : Nat) (xs ys : List Int) (h0 : m0 = xs.length) (h1 : m1 = ys.length) (pages p0 r0 t0 n0 p1 r1 t1 n1 : Int) (hd0 : decR xs pages 0 = (p0, r0, t0, n0)) (hd1 : decR ys pages 1 = (p1, r1, t1, n1))
    (hxr : ∀ x, x ∈ xs → 0 ≤ x ∧ x ≤ 255) (hyr : ∀ x, x ∈ ys → 0 ≤ x ∧ x ≤ 255) (w : World) (hc0 : m0 ≤ c0) (hc1 : m1 ≤ c1) (hr0 : RdB w A0 xs) (hr1 : RdB w A1 ys) (hn0 : n0 ≠ 0) (hn1 : n1 ≠ 0) (hnn : ¬ n0 = 1) :
    Calls Tryd.prog 36 #[.slice A0 m0 c0, .slice A1 m1 c1, .int .i64 pages] w fun e w' => e = .returned (.tuple #[.agg #[.int .i64 0, .int .i64 0, .int .u64 0], .int .i64 9]) ∧ Below w.heap.size w w' := by
  have HM : Hd (m0 = xs.length ∧ m1 = ys.length) := ⟨h0, h1⟩
  have HD : Hd (decR xs pages 0 = (p0, r0, t0, n0) ∧ decR ys pages 1 = (p1, r1, t1, n1)) := ⟨hd0, hd1⟩
  have HG : Hd ((∀ x, x ∈ xs → 0 ≤ x ∧ x ≤ 255) ∧ ∀ x, x ∈ ys → 0 ≤ x ∧ x ≤ 255) := ⟨hxr, hyr⟩
  have HC : Hd (m0 ≤ c0 ∧ m1 ≤ c1) := ⟨hc0, hc1⟩
  have HE : Hd (RdB w A0 xs ∧ RdB w A1 ys) := ⟨hr0, hr1⟩
  clear hr0 hr1 h0 h1 hd0 hd1 hxr hyr hc0 hc1
  have q0 : (n0 != 0) = true := by simp [hn0]
  have q00 : (n0 == 1) = false := by simp [hnn]
  have q1 : (n1 != 0) = true := by simp [hn1]
  go_enter Tryd.func36, Tryd.ntmps36
  go_wp2_with (first
    | (go_at_call_of 26 (Value.int .i64 0); refine (rdecode_calls A0 c0 m0 xs HM.out.1 HC.out.1 pages 0 _ _ _ _ HD.out.1 _ (HE.out.1.below (below_alloc (Below.refl _ _) _)) HG.out.1).mono ?_; rintro e W2 ⟨rfl, hb⟩; have H2 : Hd (Below w.heap.size w W2 ∧ W2.heap[w.heap.size]? = some (.cells #[.int .i64 0, .int .i64 0, .int .u64 0] 24 (0, 0))) := ⟨box_below hb, box_row hb⟩; clear hb)
    | (go_at_call_of 26 (Value.int .i64 1); refine (rdecode_calls A1 c1 m1 ys HM.out.2 HC.out.2 pages 1 _ _ _ _ HD.out.2 _ (HE.out.2.below (below_alloc H2.out.1 _)) HG.out.2).mono ?_; rintro e W3 ⟨rfl, hb⟩; have k0 := box_cell hb 0 _ rfl; have k1 := box_cell hb 1 _ rfl; have k2 := box_cell hb 2 _ rfl; have H3 : Hd (Below w.heap.size w W3 ∧ W3.heap[w.heap.size]? = some (.cells #[.int .i64 0, .int .i64 0, .int .u64 0] 24 (0, 0))) := ⟨below_step H2.out.1 (box_below hb), below_row (box_below hb) H2.out.2⟩; have k0a := fun o => below_cell (below_alloc (Below.refl _ W3) o) (k0); have k1a := fun o => below_cell (below_alloc (Below.refl _ W3) o) (k1); have k2a := fun o => below_cell (below_alloc (Below.refl _ W3) o) (k2); have z0 := fun o => below_cell (below_alloc (Below.refl _ W3) o) ((Joins.cell_of_block H3.out.2 0).trans (show _ = some (Value.int .i64 0) from rfl)); have z1 := fun o => below_cell (below_alloc (Below.refl _ W3) o) ((Joins.cell_of_block H3.out.2 1).trans (show _ = some (Value.int .i64 0) from rfl)); have z2 := fun o => below_cell (below_alloc (Below.refl _ W3) o) ((Joins.cell_of_block H3.out.2 2).trans (show _ = some (Value.int .u64 0) from rfl)); have zf := fun o => Joins.unfrozen_of_block (below_row (below_alloc (Below.refl _ W3) o) H3.out.2); clear hb k0 k1 k2)
    | fail)
  refine bodyPost_ret (v := .tuple #[.agg #[.int .i64 0, .int .i64 0, .int .u64 0], .int .i64 9]) (results_meta rfl _ _ w.heap.size _ _ _ _ rfl rfl (metaRow (below_row (below_alloc (Below.refl _ _) _) H3.out.2) _ _ _)) rfl ⟨rfl, ?_⟩
  exact below_meta (below_alloc H3.out.1 _) (Nat.le_refl _) _ _ _

set_option maxRecDepth 100000 in
set_option maxHeartbeats 1000000 in
theorem choose_n {B : Nat → Addr} (A0 A1 : Option Addr) (m0 c0 m1 c1 : Nat) (xs ys : List Int) (h0 : m0 = xs.length) (h1 : m1 = ys.length) (pages p0 r0 t0 n0 p1 r1 t1 n1 : Int) (hd0 : decR xs pages 0 = (p0, r0, t0, n0)) (hd1 : decR ys pages 1 = (p1, r1, t1, n1))
    (hxr : ∀ x, x ∈ xs → 0 ≤ x ∧ x ≤ 255) (hyr : ∀ x, x ∈ ys → 0 ≤ x ∧ x ≤ 255) (w : World) (v9 : Value) (hE9 : w.cell? ⟨8, 0, none⟩ = some v9) (hE : Errs errG B w) (hs : TabOk w) (hr0 : RdB w A0 xs) (hr1 : RdB w A1 ys) (hp : PagesM pages) (hn0 : n0 ≠ 0) (hn1 : n1 = 0) :
    Calls Tryd.prog 35 #[.slice A0 m0 c0, .slice A1 m1 c1, .int .i64 pages] w fun e w' => e = .returned (.tuple #[.agg #[.int .i64 p1, .int .i64 r1, .int .u64 t1], .nilIface]) ∧ Below w.heap.size w w' := by
  have HP : Hd (decide (PagesM pages) = true) := ⟨decide_eq_true hp⟩
  have HE : Hd (Errs errG B w ∧ TabOk w ∧ RdB w A0 xs ∧ RdB w A1 ys) := ⟨hE, hs, hr0, hr1⟩
  have HE9 : Hd (w.cell? ⟨8, 0, none⟩ = some v9) := ⟨hE9⟩
  have hlt : 8 < w.heap.size := World.block_lt_of_cell? w _ hE9
  have hne : 8 ≠ w.heap.size := Nat.ne_of_lt hlt
  have HM : Hd (m0 = xs.length ∧ m1 = ys.length) := ⟨h0, h1⟩
  have HD : Hd (decR xs pages 0 = (p0, r0, t0, n0) ∧ decR ys pages 1 = (p1, r1, t1, n1)) := ⟨hd0, hd1⟩
  have HG : Hd ((∀ x, x ∈ xs → 0 ≤ x ∧ x ≤ 255) ∧ ∀ x, x ∈ ys → 0 ≤ x ∧ x ≤ 255) := ⟨hxr, hyr⟩
  obtain ⟨a0, ha0⟩ := errV_form B n0 (decR_num _ _ _ _ _ _ _ hd0) hn0
  have q0a := neq_err_nil a0
  have q0b := eql_err_nil a0
  have q1a := neq_nil_nil
  have q1b := eql_nil_nil
  have HV : Hd ((errV B n0 = errAt a0) ∧ (errV B n1 = .nilIface)) := ⟨ha0, by rw [hn1]; rfl⟩
  clear ha0
  clear hp hE hs hr0 hr1 hE9 h0 h1 hd0 hd1 hxr hyr hn0 hn1
  go_enter Tryd.func35, Tryd.ntmps35
  go_wp2_with (first
    | (go_at_call 62; refine (pages_calls pages _ HP.out _).mono ?_; rintro e W1 ⟨rfl, hb⟩; have H1 : Hd (Below w.heap.size w W1 ∧ W1.heap[w.heap.size]? = some (.cells #[.int .i64 0, .int .i64 0, .int .u64 0] 24 (0, 0))) := ⟨box_below hb, box_row hb⟩; clear hb)
    | (go_at_call_of 25 (Value.int .i64 0); refine (decode_calls (B := B) A0 c0 m0 xs HM.out.1 pages 0 _ _ _ _ HD.out.1 _ (HE.out.1.below H1.out.1) (HE.out.2.1.below H1.out.1) (HE.out.2.2.1.below H1.out.1) HG.out.1).mono ?_; rw [HV.out.1]; rintro e W2 ⟨rfl, hb⟩; have H2 : Hd (Below w.heap.size w W2 ∧ W2.heap[w.heap.size]? = some (.cells #[.int .i64 0, .int .i64 0, .int .u64 0] 24 (0, 0))) := ⟨below_step H1.out.1 hb, below_row hb H1.out.2⟩; clear hb)
    | (go_at_call_of 25 (Value.int .i64 1); refine (decode_calls (B := B) A1 c1 m1 ys HM.out.2 pages 1 _ _ _ _ HD.out.2 _ (HE.out.1.below (below_alloc H2.out.1 _)) (HE.out.2.1.below (below_alloc H2.out.1 _)) (HE.out.2.2.2.below (below_alloc H2.out.1 _)) HG.out.2).mono ?_; rw [HV.out.2]; rintro e W3 ⟨rfl, hb⟩; have k0 := box_cell hb 0 _ rfl; have k1 := box_cell hb 1 _ rfl; have k2 := box_cell hb 2 _ rfl; have H3 : Hd (Below w.heap.size w W3 ∧ W3.heap[w.heap.size]? = some (.cells #[.int .i64 0, .int .i64 0, .int .u64 0] 24 (0, 0))) := ⟨below_step H2.out.1 (box_below hb), below_row (box_below hb) H2.out.2⟩; have k0a := fun o => below_cell (below_alloc (Below.refl _ W3) o) (k0); have k1a := fun o => below_cell (below_alloc (Below.refl _ W3) o) (k1); have k2a := fun o => below_cell (below_alloc (Below.refl _ W3) o) (k2); have z0 := fun o => below_cell (below_alloc (Below.refl _ W3) o) ((Joins.cell_of_block H3.out.2 0).trans (show _ = some (Value.int .i64 0) from rfl)); have z1 := fun o => below_cell (below_alloc (Below.refl _ W3) o) ((Joins.cell_of_block H3.out.2 1).trans (show _ = some (Value.int .i64 0) from rfl)); have z2 := fun o => below_cell (below_alloc (Below.refl _ W3) o) ((Joins.cell_of_block H3.out.2 2).trans (show _ = some (Value.int .u64 0) from rfl)); have zf := fun o => Joins.unfrozen_of_block (below_row (below_alloc (Below.refl _ W3) o) H3.out.2); have hE9 := fun o => below_cell (below_alloc (Below.refl _ W3) o) (below_cell H3.out.1 HE9.out); clear hb k0 k1 k2)
    | fail)
  refine bodyPost_ret (v := .tuple #[.agg #[.int .i64 p1, .int .i64 r1, .int .u64 t1], .nilIface]) (results_meta rfl _ _ w.heap.size _ _ _ _ rfl rfl (metaRow (below_row (below_alloc (Below.refl _ _) _) H3.out.2) _ _ _)) rfl ⟨rfl, ?_⟩
  exact below_meta (below_alloc H3.out.1 _) (Nat.le_refl _) _ _ _

set_option maxRecDepth 100000 in
set_option maxHeartbeats 1000000 in
theorem rchoose_n (A0 A1 : Option Addr) (m0 c0 m1 c1 : Nat) (xs ys : List Int) (h0 : m0 = xs.length) (h1 : m1 = ys.length) (pages p0 r0 t0 n0 p1 r1 t1 n1 : Int) (hd0 : decR xs pages 0 = (p0, r0, t0, n0)) (hd1 : decR ys pages 1 = (p1, r1, t1, n1))
    (hxr : ∀ x, x ∈ xs → 0 ≤ x ∧ x ≤ 255) (hyr : ∀ x, x ∈ ys → 0 ≤ x ∧ x ≤ 255) (w : World) (hc0 : m0 ≤ c0) (hc1 : m1 ≤ c1) (hr0 : RdB w A0 xs) (hr1 : RdB w A1 ys) (hn0 : n0 ≠ 0) (hn1 : n1 = 0) (hnn : ¬ n0 = 1) :
    Calls Tryd.prog 36 #[.slice A0 m0 c0, .slice A1 m1 c1, .int .i64 pages] w fun e w' => e = .returned (.tuple #[.agg #[.int .i64 p1, .int .i64 r1, .int .u64 t1], .int .i64 0]) ∧ Below w.heap.size w w' := by
  subst hn1
  have HM : Hd (m0 = xs.length ∧ m1 = ys.length) := ⟨h0, h1⟩
  have HD : Hd (decR xs pages 0 = (p0, r0, t0, n0) ∧ decR ys pages 1 = (p1, r1, t1, 0)) := ⟨hd0, hd1⟩
  have HG : Hd ((∀ x, x ∈ xs → 0 ≤ x ∧ x ≤ 255) ∧ ∀ x, x ∈ ys → 0 ≤ x ∧ x ≤ 255) := ⟨hxr, hyr⟩
  have HC : Hd (m0 ≤ c0 ∧ m1 ≤ c1) := ⟨hc0, hc1⟩
  have HE : Hd (RdB w A0 xs ∧ RdB w A1 ys) := ⟨hr0, hr1⟩
  clear hr0 hr1 h0 h1 hd0 hd1 hxr hyr hc0 hc1
  have q0 : (n0 != 0) = true := by simp [hn0]
  have q00 : (n0 == 1) = false := by simp [hnn]
  go_enter Tryd.func36, Tryd.ntmps36
  go_wp2_with (first
    | (go_at_call_of 26 (Value.int .i64 0); refine (rdecode_calls A0 c0 m0 xs HM.out.1 HC.out.1 pages 0 _ _ _ _ HD.out.1 _ (HE.out.1.below (below_alloc (Below.refl _ _) _)) HG.out.1).mono ?_; rintro e W2 ⟨rfl, hb⟩; have H2 : Hd (Below w.heap.size w W2 ∧ W2.heap[w.heap.size]? = some (.cells #[.int .i64 0, .int .i64 0, .int .u64 0] 24 (0, 0))) := ⟨box_below hb, box_row hb⟩; clear hb)
    | (go_at_call_of 26 (Value.int .i64 1); refine (rdecode_calls A1 c1 m1 ys HM.out.2 HC.out.2 pages 1 _ _ _ _ HD.out.2 _ (HE.out.2.below (below_alloc H2.out.1 _)) HG.out.2).mono ?_; rintro e W3 ⟨rfl, hb⟩; have k0 := box_cell hb 0 _ rfl; have k1 := box_cell hb 1 _ rfl; have k2 := box_cell hb 2 _ rfl; have H3 : Hd (Below w.heap.size w W3 ∧ W3.heap[w.heap.size]? = some (.cells #[.int .i64 0, .int .i64 0, .int .u64 0] 24 (0, 0))) := ⟨below_step H2.out.1 (box_below hb), below_row (box_below hb) H2.out.2⟩; have k0a := fun o => below_cell (below_alloc (Below.refl _ W3) o) (k0); have k1a := fun o => below_cell (below_alloc (Below.refl _ W3) o) (k1); have k2a := fun o => below_cell (below_alloc (Below.refl _ W3) o) (k2); have z0 := fun o => below_cell (below_alloc (Below.refl _ W3) o) ((Joins.cell_of_block H3.out.2 0).trans (show _ = some (Value.int .i64 0) from rfl)); have z1 := fun o => below_cell (below_alloc (Below.refl _ W3) o) ((Joins.cell_of_block H3.out.2 1).trans (show _ = some (Value.int .i64 0) from rfl)); have z2 := fun o => below_cell (below_alloc (Below.refl _ W3) o) ((Joins.cell_of_block H3.out.2 2).trans (show _ = some (Value.int .u64 0) from rfl)); have zf := fun o => Joins.unfrozen_of_block (below_row (below_alloc (Below.refl _ W3) o) H3.out.2); clear hb k0 k1 k2)
    | fail)
  refine bodyPost_ret (v := .tuple #[.agg #[.int .i64 p1, .int .i64 r1, .int .u64 t1], .int .i64 0]) (results_meta rfl _ _ w.heap.size _ _ _ _ rfl rfl (metaRow (below_row (below_alloc (Below.refl _ _) _) H3.out.2) _ _ _)) rfl ⟨rfl, ?_⟩
  exact below_meta (below_alloc H3.out.1 _) (Nat.le_refl _) _ _ _

set_option maxRecDepth 100000 in
set_option maxHeartbeats 1000000 in
theorem choose_m {B : Nat → Addr} (A0 A1 : Option Addr) (m0 c0 m1 c1 : Nat) (xs ys : List Int) (h0 : m0 = xs.length) (h1 : m1 = ys.length) (pages p0 r0 t0 n0 p1 r1 t1 n1 : Int) (hd0 : decR xs pages 0 = (p0, r0, t0, n0)) (hd1 : decR ys pages 1 = (p1, r1, t1, n1))
    (hxr : ∀ x, x ∈ xs → 0 ≤ x ∧ x ≤ 255) (hyr : ∀ x, x ∈ ys → 0 ≤ x ∧ x ≤ 255) (w : World) (v9 : Value) (hE9 : w.cell? ⟨8, 0, none⟩ = some v9) (hE : Errs errG B w) (hs : TabOk w) (hr0 : RdB w A0 xs) (hr1 : RdB w A1 ys) (hp : PagesM pages) (hn0 : n0 = 0) (hn1 : n1 ≠ 0) :
    Calls Tryd.prog 35 #[.slice A0 m0 c0, .slice A1 m1 c1, .int .i64 pages] w fun e w' => e = .returned (.tuple #[.agg #[.int .i64 p0, .int .i64 r0, .int .u64 t0], .nilIface]) ∧ Below w.heap.size w w' := by
  have HP : Hd (decide (PagesM pages) = true) := ⟨decide_eq_true hp⟩
  have HE : Hd (Errs errG B w ∧ TabOk w ∧ RdB w A0 xs ∧ RdB w A1 ys) := ⟨hE, hs, hr0, hr1⟩
  have HE9 : Hd (w.cell? ⟨8, 0, none⟩ = some v9) := ⟨hE9⟩
  have hlt : 8 < w.heap.size := World.block_lt_of_cell? w _ hE9
  have hne : 8 ≠ w.heap.size := Nat.ne_of_lt hlt
  have HM : Hd (m0 = xs.length ∧ m1 = ys.length) := ⟨h0, h1⟩
  have HD : Hd (decR xs pages 0 = (p0, r0, t0, n0) ∧ decR ys pages 1 = (p1, r1, t1, n1)) := ⟨hd0, hd1⟩
  have HG : Hd ((∀ x, x ∈ xs → 0 ≤ x ∧ x ≤ 255) ∧ ∀ x, x ∈ ys → 0 ≤ x ∧ x ≤ 255) := ⟨hxr, hyr⟩
  have q0a := neq_nil_nil
  have q0b := eql_nil_nil
  obtain ⟨a1, ha1⟩ := errV_form B n1 (decR_num _ _ _ _ _ _ _ hd1) hn1
  have q1a := neq_err_nil a1
  have q1b := eql_err_nil a1
  have HV : Hd ((errV B n0 = .nilIface) ∧ (errV B n1 = errAt a1)) := ⟨by rw [hn0]; rfl, ha1⟩
  clear ha1
  clear hp hE hs hr0 hr1 hE9 h0 h1 hd0 hd1 hxr hyr hn0 hn1
  go_enter Tryd.func35, Tryd.ntmps35
  go_wp2_with (first
    | (go_at_call 62; refine (pages_calls pages _ HP.out _).mono ?_; rintro e W1 ⟨rfl, hb⟩; have H1 : Hd (Below w.heap.size w W1 ∧ W1.heap[w.heap.size]? = some (.cells #[.int .i64 0, .int .i64 0, .int .u64 0] 24 (0, 0))) := ⟨box_below hb, box_row hb⟩; clear hb)
    | (go_at_call_of 25 (Value.int .i64 0); refine (decode_calls (B := B) A0 c0 m0 xs HM.out.1 pages 0 _ _ _ _ HD.out.1 _ (HE.out.1.below H1.out.1) (HE.out.2.1.below H1.out.1) (HE.out.2.2.1.below H1.out.1) HG.out.1).mono ?_; rw [HV.out.1]; rintro e W2 ⟨rfl, hb⟩; have H2 : Hd (Below w.heap.size w W2 ∧ W2.heap[w.heap.size]? = some (.cells #[.int .i64 0, .int .i64 0, .int .u64 0] 24 (0, 0))) := ⟨below_step H1.out.1 hb, below_row hb H1.out.2⟩; clear hb)
    | (go_at_call_of 25 (Value.int .i64 1); refine (decode_calls (B := B) A1 c1 m1 ys HM.out.2 pages 1 _ _ _ _ HD.out.2 _ (HE.out.1.below (below_alloc H2.out.1 _)) (HE.out.2.1.below (below_alloc H2.out.1 _)) (HE.out.2.2.2.below (below_alloc H2.out.1 _)) HG.out.2).mono ?_; rw [HV.out.2]; rintro e W3 ⟨rfl, hb⟩; have k0 := box_cell hb 0 _ rfl; have k1 := box_cell hb 1 _ rfl; have k2 := box_cell hb 2 _ rfl; have H3 : Hd (Below w.heap.size w W3 ∧ W3.heap[w.heap.size]? = some (.cells #[.int .i64 0, .int .i64 0, .int .u64 0] 24 (0, 0))) := ⟨below_step H2.out.1 (box_below hb), below_row (box_below hb) H2.out.2⟩; have k0a := fun o => below_cell (below_alloc (Below.refl _ W3) o) (k0); have k1a := fun o => below_cell (below_alloc (Below.refl _ W3) o) (k1); have k2a := fun o => below_cell (below_alloc (Below.refl _ W3) o) (k2); have z0 := fun o => below_cell (below_alloc (Below.refl _ W3) o) ((Joins.cell_of_block H3.out.2 0).trans (show _ = some (Value.int .i64 0) from rfl)); have z1 := fun o => below_cell (below_alloc (Below.refl _ W3) o) ((Joins.cell_of_block H3.out.2 1).trans (show _ = some (Value.int .i64 0) from rfl)); have z2 := fun o => below_cell (below_alloc (Below.refl _ W3) o) ((Joins.cell_of_block H3.out.2 2).trans (show _ = some (Value.int .u64 0) from rfl)); have zf := fun o => Joins.unfrozen_of_block (below_row (below_alloc (Below.refl _ W3) o) H3.out.2); have hE9 := fun o => below_cell (below_alloc (Below.refl _ W3) o) (below_cell H3.out.1 HE9.out); clear hb k0 k1 k2)
    | fail)
  refine bodyPost_ret (v := .tuple #[.agg #[.int .i64 p0, .int .i64 r0, .int .u64 t0], .nilIface]) (results_meta rfl _ _ w.heap.size _ _ _ _ rfl rfl (metaRow (below_row (below_alloc (Below.refl _ _) _) H3.out.2) _ _ _)) rfl ⟨rfl, ?_⟩
  exact below_meta (below_alloc H3.out.1 _) (Nat.le_refl _) _ _ _

set_option maxRecDepth 100000 in
set_option maxHeartbeats 1000000 in
theorem rchoose_m (A0 A1 : Option Addr) (m0 c0 m1 c1 : Nat) (xs ys : List Int) (h0 : m0 = xs.length) (h1 : m1 = ys.length) (pages p0 r0 t0 n0 p1 r1 t1 n1 : Int) (hd0 : decR xs pages 0 = (p0, r0, t0, n0)) (hd1 : decR ys pages 1 = (p1, r1, t1, n1))
    (hxr : ∀ x, x ∈ xs → 0 ≤ x ∧ x ≤ 255) (hyr : ∀ x, x ∈ ys → 0 ≤ x ∧ x ≤ 255) (w : World) (hc0 : m0 ≤ c0) (hc1 : m1 ≤ c1) (hr0 : RdB w A0 xs) (hr1 : RdB w A1 ys) (hn0 : n0 = 0) (hn1 : n1 ≠ 0) :
    Calls Tryd.prog 36 #[.slice A0 m0 c0, .slice A1 m1 c1, .int .i64 pages] w fun e w' => e = .returned (.tuple #[.agg #[.int .i64 p0, .int .i64 r0, .int .u64 t0], .int .i64 0]) ∧ Below w.heap.size w w' := by
  subst hn0
  have HM : Hd (m0 = xs.length ∧ m1 = ys.length) := ⟨h0, h1⟩
  have HD : Hd (decR xs pages 0 = (p0, r0, t0, 0) ∧ decR ys pages 1 = (p1, r1, t1, n1)) := ⟨hd0, hd1⟩
  have HG : Hd ((∀ x, x ∈ xs → 0 ≤ x ∧ x ≤ 255) ∧ ∀ x, x ∈ ys → 0 ≤ x ∧ x ≤ 255) := ⟨hxr, hyr⟩
  have HC : Hd (m0 ≤ c0 ∧ m1 ≤ c1) := ⟨hc0, hc1⟩
  have HE : Hd (RdB w A0 xs ∧ RdB w A1 ys) := ⟨hr0, hr1⟩
  clear hr0 hr1 h0 h1 hd0 hd1 hxr hyr hc0 hc1
  have q1 : (n1 != 0) = true := by simp [hn1]
  go_enter Tryd.func36, Tryd.ntmps36
  go_wp2_with (first
    | (go_at_call_of 26 (Value.int .i64 0); refine (rdecode_calls A0 c0 m0 xs HM.out.1 HC.out.1 pages 0 _ _ _ _ HD.out.1 _ (HE.out.1.below (below_alloc (Below.refl _ _) _)) HG.out.1).mono ?_; rintro e W2 ⟨rfl, hb⟩; have H2 : Hd (Below w.heap.size w W2 ∧ W2.heap[w.heap.size]? = some (.cells #[.int .i64 0, .int .i64 0, .int .u64 0] 24 (0, 0))) := ⟨box_below hb, box_row hb⟩; clear hb)
    | (go_at_call_of 26 (Value.int .i64 1); refine (rdecode_calls A1 c1 m1 ys HM.out.2 HC.out.2 pages 1 _ _ _ _ HD.out.2 _ (HE.out.2.below (below_alloc H2.out.1 _)) HG.out.2).mono ?_; rintro e W3 ⟨rfl, hb⟩; have k0 := box_cell hb 0 _ rfl; have k1 := box_cell hb 1 _ rfl; have k2 := box_cell hb 2 _ rfl; have H3 : Hd (Below w.heap.size w W3 ∧ W3.heap[w.heap.size]? = some (.cells #[.int .i64 0, .int .i64 0, .int .u64 0] 24 (0, 0))) := ⟨below_step H2.out.1 (box_below hb), below_row (box_below hb) H2.out.2⟩; have k0a := fun o => below_cell (below_alloc (Below.refl _ W3) o) (k0); have k1a := fun o => below_cell (below_alloc (Below.refl _ W3) o) (k1); have k2a := fun o => below_cell (below_alloc (Below.refl _ W3) o) (k2); have z0 := fun o => below_cell (below_alloc (Below.refl _ W3) o) ((Joins.cell_of_block H3.out.2 0).trans (show _ = some (Value.int .i64 0) from rfl)); have z1 := fun o => below_cell (below_alloc (Below.refl _ W3) o) ((Joins.cell_of_block H3.out.2 1).trans (show _ = some (Value.int .i64 0) from rfl)); have z2 := fun o => below_cell (below_alloc (Below.refl _ W3) o) ((Joins.cell_of_block H3.out.2 2).trans (show _ = some (Value.int .u64 0) from rfl)); have zf := fun o => Joins.unfrozen_of_block (below_row (below_alloc (Below.refl _ W3) o) H3.out.2); clear hb k0 k1 k2)
    | fail)
  refine bodyPost_ret (v := .tuple #[.agg #[.int .i64 p0, .int .i64 r0, .int .u64 t0], .int .i64 0]) (results_meta rfl _ _ w.heap.size _ _ _ _ rfl rfl (metaRow (below_row (below_alloc (Below.refl _ _) _) H3.out.2) _ _ _)) rfl ⟨rfl, ?_⟩
  exact below_meta (below_alloc H3.out.1 _) (Nat.le_refl _) _ _ _

set_option maxRecDepth 100000 in
set_option maxHeartbeats 1000000 in
theorem choose_bn {B : Nat → Addr} (A0 A1 : Option Addr) (m0 c0 m1 c1 : Nat) (xs ys : List Int) (h0 : m0 = xs.length) (h1 : m1 = ys.length) (pages p0 r0 t0 n0 p1 r1 t1 n1 : Int) (hd0 : decR xs pages 0 = (p0, r0, t0, n0)) (hd1 : decR ys pages 1 = (p1, r1, t1, n1))
    (hxr : ∀ x, x ∈ xs → 0 ≤ x ∧ x ≤ 255) (hyr : ∀ x, x ∈ ys → 0 ≤ x ∧ x ≤ 255) (w : World) (v9 : Value) (hE9 : w.cell? ⟨8, 0, none⟩ = some v9) (hE : Errs errG B w) (hs : TabOk w) (hr0 : RdB w A0 xs) (hr1 : RdB w A1 ys) (hp : PagesM pages) (hn0 : n0 = 0) (hn1 : n1 = 0) (hgt : t1 > t0) :
    Calls Tryd.prog 35 #[.slice A0 m0 c0, .slice A1 m1 c1, .int .i64 pages] w fun e w' => e = .returned (.tuple #[.agg #[.int .i64 p1, .int .i64 r1, .int .u64 t1], .nilIface]) ∧ Below w.heap.size w w' := by
  have HP : Hd (decide (PagesM pages) = true) := ⟨decide_eq_true hp⟩
  have HE : Hd (Errs errG B w ∧ TabOk w ∧ RdB w A0 xs ∧ RdB w A1 ys) := ⟨hE, hs, hr0, hr1⟩
  have HE9 : Hd (w.cell? ⟨8, 0, none⟩ = some v9) := ⟨hE9⟩
  have hlt : 8 < w.heap.size := World.block_lt_of_cell? w _ hE9
  have hne : 8 ≠ w.heap.size := Nat.ne_of_lt hlt
  have HM : Hd (m0 = xs.length ∧ m1 = ys.length) := ⟨h0, h1⟩
  have HD : Hd (decR xs pages 0 = (p0, r0, t0, n0) ∧ decR ys pages 1 = (p1, r1, t1, n1)) := ⟨hd0, hd1⟩
  have HG : Hd ((∀ x, x ∈ xs → 0 ≤ x ∧ x ≤ 255) ∧ ∀ x, x ∈ ys → 0 ≤ x ∧ x ≤ 255) := ⟨hxr, hyr⟩
  have q0a := neq_nil_nil
  have q0b := eql_nil_nil
  have q1a := neq_nil_nil
  have q1b := eql_nil_nil
  have HV : Hd ((errV B n0 = .nilIface) ∧ (errV B n1 = .nilIface)) := ⟨by rw [hn0]; rfl, by rw [hn1]; rfl⟩
  clear hp hE hs hr0 hr1 hE9 h0 h1 hd0 hd1 hxr hyr hn0 hn1
  go_enter Tryd.func35, Tryd.ntmps35
  go_wp2_with (first
    | (go_at_call 62; refine (pages_calls pages _ HP.out _).mono ?_; rintro e W1 ⟨rfl, hb⟩; have H1 : Hd (Below w.heap.size w W1 ∧ W1.heap[w.heap.size]? = some (.cells #[.int .i64 0, .int .i64 0, .int .u64 0] 24 (0, 0))) := ⟨box_below hb, box_row hb⟩; clear hb)
    | (go_at_call_of 25 (Value.int .i64 0); refine (decode_calls (B := B) A0 c0 m0 xs HM.out.1 pages 0 _ _ _ _ HD.out.1 _ (HE.out.1.below H1.out.1) (HE.out.2.1.below H1.out.1) (HE.out.2.2.1.below H1.out.1) HG.out.1).mono ?_; rw [HV.out.1]; rintro e W2 ⟨rfl, hb⟩; have H2 : Hd (Below w.heap.size w W2 ∧ W2.heap[w.heap.size]? = some (.cells #[.int .i64 0, .int .i64 0, .int .u64 0] 24 (0, 0))) := ⟨below_step H1.out.1 hb, below_row hb H1.out.2⟩; clear hb)
    | (go_at_call_of 25 (Value.int .i64 1); refine (decode_calls (B := B) A1 c1 m1 ys HM.out.2 pages 1 _ _ _ _ HD.out.2 _ (HE.out.1.below (below_alloc H2.out.1 _)) (HE.out.2.1.below (below_alloc H2.out.1 _)) (HE.out.2.2.2.below (below_alloc H2.out.1 _)) HG.out.2).mono ?_; rw [HV.out.2]; rintro e W3 ⟨rfl, hb⟩; have k0 := box_cell hb 0 _ rfl; have k1 := box_cell hb 1 _ rfl; have k2 := box_cell hb 2 _ rfl; have H3 : Hd (Below w.heap.size w W3 ∧ W3.heap[w.heap.size]? = some (.cells #[.int .i64 0, .int .i64 0, .int .u64 0] 24 (0, 0))) := ⟨below_step H2.out.1 (box_below hb), below_row (box_below hb) H2.out.2⟩; have k0a := fun o => below_cell (below_alloc (Below.refl _ W3) o) (k0); have k1a := fun o => below_cell (below_alloc (Below.refl _ W3) o) (k1); have k2a := fun o => below_cell (below_alloc (Below.refl _ W3) o) (k2); have z0 := fun o => below_cell (below_alloc (Below.refl _ W3) o) ((Joins.cell_of_block H3.out.2 0).trans (show _ = some (Value.int .i64 0) from rfl)); have z1 := fun o => below_cell (below_alloc (Below.refl _ W3) o) ((Joins.cell_of_block H3.out.2 1).trans (show _ = some (Value.int .i64 0) from rfl)); have z2 := fun o => below_cell (below_alloc (Below.refl _ W3) o) ((Joins.cell_of_block H3.out.2 2).trans (show _ = some (Value.int .u64 0) from rfl)); have zf := fun o => Joins.unfrozen_of_block (below_row (below_alloc (Below.refl _ W3) o) H3.out.2); have hE9 := fun o => below_cell (below_alloc (Below.refl _ W3) o) (below_cell H3.out.1 HE9.out); clear hb k0 k1 k2)
    | fail)
  refine bodyPost_ret (v := .tuple #[.agg #[.int .i64 p1, .int .i64 r1, .int .u64 t1], .nilIface]) (results_meta rfl _ _ w.heap.size _ _ _ _ rfl rfl (metaRow (below_row (below_alloc (Below.refl _ _) _) H3.out.2) _ _ _)) rfl ⟨rfl, ?_⟩
  exact below_meta (below_alloc H3.out.1 _) (Nat.le_refl _) _ _ _

set_option maxRecDepth 100000 in
set_option maxHeartbeats 1000000 in
theorem rchoose_bn (A0 A1 : Option Addr) (m0 c0 m1 c1 : Nat) (xs ys : List Int) (h0 : m0 = xs.length) (h1 : m1 = ys.length) (pages p0 r0 t0 n0 p1 r1 t1 n1 : Int) (hd0 : decR xs pages 0 = (p0, r0, t0, n0)) (hd1 : decR ys pages 1 = (p1, r1, t1, n1))
    (hxr : ∀ x, x ∈ xs → 0 ≤ x ∧ x ≤ 255) (hyr : ∀ x, x ∈ ys → 0 ≤ x ∧ x ≤ 255) (w : World) (hc0 : m0 ≤ c0) (hc1 : m1 ≤ c1) (hr0 : RdB w A0 xs) (hr1 : RdB w A1 ys) (hn0 : n0 = 0) (hn1 : n1 = 0) (hgt : ¬ t0 > t1) :
    Calls Tryd.prog 36 #[.slice A0 m0 c0, .slice A1 m1 c1, .int .i64 pages] w fun e w' => e = .returned (.tuple #[.agg #[.int .i64 p1, .int .i64 r1, .int .u64 t1], .int .i64 0]) ∧ Below w.heap.size w w' := by
  subst hn0
  subst hn1
  have HM : Hd (m0 = xs.length ∧ m1 = ys.length) := ⟨h0, h1⟩
  have HD : Hd (decR xs pages 0 = (p0, r0, t0, 0) ∧ decR ys pages 1 = (p1, r1, t1, 0)) := ⟨hd0, hd1⟩
  have HG : Hd ((∀ x, x ∈ xs → 0 ≤ x ∧ x ≤ 255) ∧ ∀ x, x ∈ ys → 0 ≤ x ∧ x ≤ 255) := ⟨hxr, hyr⟩
  have HC : Hd (m0 ≤ c0 ∧ m1 ≤ c1) := ⟨hc0, hc1⟩
  have HE : Hd (RdB w A0 xs ∧ RdB w A1 ys) := ⟨hr0, hr1⟩
  clear hr0 hr1 h0 h1 hd0 hd1 hxr hyr hc0 hc1
  go_enter Tryd.func36, Tryd.ntmps36
  go_wp2_with (first
    | (go_at_call_of 26 (Value.int .i64 0); refine (rdecode_calls A0 c0 m0 xs HM.out.1 HC.out.1 pages 0 _ _ _ _ HD.out.1 _ (HE.out.1.below (below_alloc (Below.refl _ _) _)) HG.out.1).mono ?_; rintro e W2 ⟨rfl, hb⟩; have H2 : Hd (Below w.heap.size w W2 ∧ W2.heap[w.heap.size]? = some (.cells #[.int .i64 0, .int .i64 0, .int .u64 0] 24 (0, 0))) := ⟨box_below hb, box_row hb⟩; clear hb)
    | (go_at_call_of 26 (Value.int .i64 1); refine (rdecode_calls A1 c1 m1 ys HM.out.2 HC.out.2 pages 1 _ _ _ _ HD.out.2 _ (HE.out.2.below (below_alloc H2.out.1 _)) HG.out.2).mono ?_; rintro e W3 ⟨rfl, hb⟩; have k0 := box_cell hb 0 _ rfl; have k1 := box_cell hb 1 _ rfl; have k2 := box_cell hb 2 _ rfl; have H3 : Hd (Below w.heap.size w W3 ∧ W3.heap[w.heap.size]? = some (.cells #[.int .i64 0, .int .i64 0, .int .u64 0] 24 (0, 0))) := ⟨below_step H2.out.1 (box_below hb), below_row (box_below hb) H2.out.2⟩; have k0a := fun o => below_cell (below_alloc (Below.refl _ W3) o) (k0); have k1a := fun o => below_cell (below_alloc (Below.refl _ W3) o) (k1); have k2a := fun o => below_cell (below_alloc (Below.refl _ W3) o) (k2); have z0 := fun o => below_cell (below_alloc (Below.refl _ W3) o) ((Joins.cell_of_block H3.out.2 0).trans (show _ = some (Value.int .i64 0) from rfl)); have z1 := fun o => below_cell (below_alloc (Below.refl _ W3) o) ((Joins.cell_of_block H3.out.2 1).trans (show _ = some (Value.int .i64 0) from rfl)); have z2 := fun o => below_cell (below_alloc (Below.refl _ W3) o) ((Joins.cell_of_block H3.out.2 2).trans (show _ = some (Value.int .u64 0) from rfl)); have zf := fun o => Joins.unfrozen_of_block (below_row (below_alloc (Below.refl _ W3) o) H3.out.2); clear hb k0 k1 k2)
    | fail)
  refine bodyPost_ret (v := .tuple #[.agg #[.int .i64 p1, .int .i64 r1, .int .u64 t1], .int .i64 0]) (results_meta rfl _ _ w.heap.size _ _ _ _ rfl rfl (metaRow (below_row (below_alloc (Below.refl _ _) _) H3.out.2) _ _ _)) rfl ⟨rfl, ?_⟩
  exact below_meta (below_alloc H3.out.1 _) (Nat.le_refl _) _ _ _

set_option maxRecDepth 100000 in
set_option maxHeartbeats 1000000 in
theorem choose_bm {B : Nat → Addr} (A0 A1 : Option Addr) (m0 c0 m1 c1 : Nat) (xs ys : List Int) (h0 : m0 = xs.length) (h1 : m1 = ys.length) (pages p0 r0 t0 n0 p1 r1 t1 n1 : Int) (hd0 : decR xs pages 0 = (p0, r0, t0, n0)) (hd1 : decR ys pages 1 = (p1, r1, t1, n1))
    (hxr : ∀ x, x ∈ xs → 0 ≤ x ∧ x ≤ 255) (hyr : ∀ x, x ∈ ys → 0 ≤ x ∧ x ≤ 255) (w : World) (v9 : Value) (hE9 : w.cell? ⟨8, 0, none⟩ = some v9) (hE : Errs errG B w) (hs : TabOk w) (hr0 : RdB w A0 xs) (hr1 : RdB w A1 ys) (hp : PagesM pages) (hn0 : n0 = 0) (hn1 : n1 = 0) (hgt : ¬ t1 > t0) :
    Calls Tryd.prog 35 #[.slice A0 m0 c0, .slice A1 m1 c1, .int .i64 pages] w fun e w' => e = .returned (.tuple #[.agg #[.int .i64 p0, .int .i64 r0, .int .u64 t0], .nilIface]) ∧ Below w.heap.size w w' := by
  have HP : Hd (decide (PagesM pages) = true) := ⟨decide_eq_true hp⟩
  have HE : Hd (Errs errG B w ∧ TabOk w ∧ RdB w A0 xs ∧ RdB w A1 ys) := ⟨hE, hs, hr0, hr1⟩
  have HE9 : Hd (w.cell? ⟨8, 0, none⟩ = some v9) := ⟨hE9⟩
  have hlt : 8 < w.heap.size := World.block_lt_of_cell? w _ hE9
  have hne : 8 ≠ w.heap.size := Nat.ne_of_lt hlt
  have HM : Hd (m0 = xs.length ∧ m1 = ys.length) := ⟨h0, h1⟩
  have HD : Hd (decR xs pages 0 = (p0, r0, t0, n0) ∧ decR ys pages 1 = (p1, r1, t1, n1)) := ⟨hd0, hd1⟩
  have HG : Hd ((∀ x, x ∈ xs → 0 ≤ x ∧ x ≤ 255) ∧ ∀ x, x ∈ ys → 0 ≤ x ∧ x ≤ 255) := ⟨hxr, hyr⟩
  have q0a := neq_nil_nil
  have q0b := eql_nil_nil
  have q1a := neq_nil_nil
  have q1b := eql_nil_nil
  have HV : Hd ((errV B n0 = .nilIface) ∧ (errV B n1 = .nilIface)) := ⟨by rw [hn0]; rfl, by rw [hn1]; rfl⟩
  clear hp hE hs hr0 hr1 hE9 h0 h1 hd0 hd1 hxr hyr hn0 hn1
  go_enter Tryd.func35, Tryd.ntmps35
  go_wp2_with (first
    | (go_at_call 62; refine (pages_calls pages _ HP.out _).mono ?_; rintro e W1 ⟨rfl, hb⟩; have H1 : Hd (Below w.heap.size w W1 ∧ W1.heap[w.heap.size]? = some (.cells #[.int .i64 0, .int .i64 0, .int .u64 0] 24 (0, 0))) := ⟨box_below hb, box_row hb⟩; clear hb)
    | (go_at_call_of 25 (Value.int .i64 0); refine (decode_calls (B := B) A0 c0 m0 xs HM.out.1 pages 0 _ _ _ _ HD.out.1 _ (HE.out.1.below H1.out.1) (HE.out.2.1.below H1.out.1) (HE.out.2.2.1.below H1.out.1) HG.out.1).mono ?_; rw [HV.out.1]; rintro e W2 ⟨rfl, hb⟩; have H2 : Hd (Below w.heap.size w W2 ∧ W2.heap[w.heap.size]? = some (.cells #[.int .i64 0, .int .i64 0, .int .u64 0] 24 (0, 0))) := ⟨below_step H1.out.1 hb, below_row hb H1.out.2⟩; clear hb)
    | (go_at_call_of 25 (Value.int .i64 1); refine (decode_calls (B := B) A1 c1 m1 ys HM.out.2 pages 1 _ _ _ _ HD.out.2 _ (HE.out.1.below (below_alloc H2.out.1 _)) (HE.out.2.1.below (below_alloc H2.out.1 _)) (HE.out.2.2.2.below (below_alloc H2.out.1 _)) HG.out.2).mono ?_; rw [HV.out.2]; rintro e W3 ⟨rfl, hb⟩; have k0 := box_cell hb 0 _ rfl; have k1 := box_cell hb 1 _ rfl; have k2 := box_cell hb 2 _ rfl; have H3 : Hd (Below w.heap.size w W3 ∧ W3.heap[w.heap.size]? = some (.cells #[.int .i64 0, .int .i64 0, .int .u64 0] 24 (0, 0))) := ⟨below_step H2.out.1 (box_below hb), below_row (box_below hb) H2.out.2⟩; have k0a := fun o => below_cell (below_alloc (Below.refl _ W3) o) (k0); have k1a := fun o => below_cell (below_alloc (Below.refl _ W3) o) (k1); have k2a := fun o => below_cell (below_alloc (Below.refl _ W3) o) (k2); have z0 := fun o => below_cell (below_alloc (Below.refl _ W3) o) ((Joins.cell_of_block H3.out.2 0).trans (show _ = some (Value.int .i64 0) from rfl)); have z1 := fun o => below_cell (below_alloc (Below.refl _ W3) o) ((Joins.cell_of_block H3.out.2 1).trans (show _ = some (Value.int .i64 0) from rfl)); have z2 := fun o => below_cell (below_alloc (Below.refl _ W3) o) ((Joins.cell_of_block H3.out.2 2).trans (show _ = some (Value.int .u64 0) from rfl)); have zf := fun o => Joins.unfrozen_of_block (below_row (below_alloc (Below.refl _ W3) o) H3.out.2); have hE9 := fun o => below_cell (below_alloc (Below.refl _ W3) o) (below_cell H3.out.1 HE9.out); clear hb k0 k1 k2)
    | fail)
  refine bodyPost_ret (v := .tuple #[.agg #[.int .i64 p0, .int .i64 r0, .int .u64 t0], .nilIface]) (results_meta rfl _ _ w.heap.size _ _ _ _ rfl rfl (metaRow (below_row (below_alloc (Below.refl _ _) _) H3.out.2) _ _ _)) rfl ⟨rfl, ?_⟩
  exact below_meta (below_alloc H3.out.1 _) (Nat.le_refl _) _ _ _

set_option maxRecDepth 100000 in
set_option maxHeartbeats 1000000 in
theorem rchoose_bm (A0 A1 : Option Addr) (m0 c0 m1 c1 : Nat) (xs ys : List Int) (h0 : m0 = xs.length) (h1 : m1 = ys.length) (pages p0 r0 t0 n0 p1 r1 t1 n1 : Int) (hd0 : decR xs pages 0 = (p0, r0, t0, n0)) (hd1 : decR ys pages 1 = (p1, r1, t1, n1))
    (hxr : ∀ x, x ∈ xs → 0 ≤ x ∧ x ≤ 255) (hyr : ∀ x, x ∈ ys → 0 ≤ x ∧ x ≤ 255) (w : World) (hc0 : m0 ≤ c0) (hc1 : m1 ≤ c1) (hr0 : RdB w A0 xs) (hr1 : RdB w A1 ys) (hn0 : n0 = 0) (hn1 : n1 = 0) (hgt : t0 > t1) :
    Calls Tryd.prog 36 #[.slice A0 m0 c0, .slice A1 m1 c1, .int .i64 pages] w fun e w' => e = .returned (.tuple #[.agg #[.int .i64 p0, .int .i64 r0, .int .u64 t0], .int .i64 0]) ∧ Below w.heap.size w w' := by
  subst hn0
  subst hn1
  have HM : Hd (m0 = xs.length ∧ m1 = ys.length) := ⟨h0, h1⟩
  have HD : Hd (decR xs pages 0 = (p0, r0, t0, 0) ∧ decR ys pages 1 = (p1, r1, t1, 0)) := ⟨hd0, hd1⟩
  have HG : Hd ((∀ x, x ∈ xs → 0 ≤ x ∧ x ≤ 255) ∧ ∀ x, x ∈ ys → 0 ≤ x ∧ x ≤ 255) := ⟨hxr, hyr⟩
  have HC : Hd (m0 ≤ c0 ∧ m1 ≤ c1) := ⟨hc0, hc1⟩
  have HE : Hd (RdB w A0 xs ∧ RdB w A1 ys) := ⟨hr0, hr1⟩
  clear hr0 hr1 h0 h1 hd0 hd1 hxr hyr hc0 hc1
  go_enter Tryd.func36, Tryd.ntmps36
  go_wp2_with (first
    | (go_at_call_of 26 (Value.int .i64 0); refine (rdecode_calls A0 c0 m0 xs HM.out.1 HC.out.1 pages 0 _ _ _ _ HD.out.1 _ (HE.out.1.below (below_alloc (Below.refl _ _) _)) HG.out.1).mono ?_; rintro e W2 ⟨rfl, hb⟩; have H2 : Hd (Below w.heap.size w W2 ∧ W2.heap[w.heap.size]? = some (.cells #[.int .i64 0, .int .i64 0, .int .u64 0] 24 (0, 0))) := ⟨box_below hb, box_row hb⟩; clear hb)
    | (go_at_call_of 26 (Value.int .i64 1); refine (rdecode_calls A1 c1 m1 ys HM.out.2 HC.out.2 pages 1 _ _ _ _ HD.out.2 _ (HE.out.2.below (below_alloc H2.out.1 _)) HG.out.2).mono ?_; rintro e W3 ⟨rfl, hb⟩; have k0 := box_cell hb 0 _ rfl; have k1 := box_cell hb 1 _ rfl; have k2 := box_cell hb 2 _ rfl; have H3 : Hd (Below w.heap.size w W3 ∧ W3.heap[w.heap.size]? = some (.cells #[.int .i64 0, .int .i64 0, .int .u64 0] 24 (0, 0))) := ⟨below_step H2.out.1 (box_below hb), below_row (box_below hb) H2.out.2⟩; have k0a := fun o => below_cell (below_alloc (Below.refl _ W3) o) (k0); have k1a := fun o => below_cell (below_alloc (Below.refl _ W3) o) (k1); have k2a := fun o => below_cell (below_alloc (Below.refl _ W3) o) (k2); have z0 := fun o => below_cell (below_alloc (Below.refl _ W3) o) ((Joins.cell_of_block H3.out.2 0).trans (show _ = some (Value.int .i64 0) from rfl)); have z1 := fun o => below_cell (below_alloc (Below.refl _ W3) o) ((Joins.cell_of_block H3.out.2 1).trans (show _ = some (Value.int .i64 0) from rfl)); have z2 := fun o => below_cell (below_alloc (Below.refl _ W3) o) ((Joins.cell_of_block H3.out.2 2).trans (show _ = some (Value.int .u64 0) from rfl)); have zf := fun o => Joins.unfrozen_of_block (below_row (below_alloc (Below.refl _ W3) o) H3.out.2); clear hb k0 k1 k2)
    | fail)
  refine bodyPost_ret (v := .tuple #[.agg #[.int .i64 p0, .int .i64 r0, .int .u64 t0], .int .i64 0]) (results_meta rfl _ _ w.heap.size _ _ _ _ rfl rfl (metaRow (below_row (below_alloc (Below.refl _ _) _) H3.out.2) _ _ _)) rfl ⟨rfl, ?_⟩
  exact below_meta (below_alloc H3.out.1 _) (Nat.le_refl _) _ _ _

set_option maxRecDepth 100000 in
set_option maxHeartbeats 1000000 in
theorem rchoose_pages (A0 A1 : Option Addr) (m0 c0 m1 c1 : Nat) (xs ys : List Int) (h0 : m0 = xs.length) (h1 : m1 = ys.length) (pages p0 r0 t0 n0 p1 r1 t1 n1 : Int) (hd0 : decR xs pages 0 = (p0, r0, t0, n0)) (hd1 : decR ys pages 1 = (p1, r1, t1, n1))
    (hxr : ∀ x, x ∈ xs → 0 ≤ x ∧ x ≤ 255) (hyr : ∀ x, x ∈ ys → 0 ≤ x ∧ x ≤ 255) (w : World) (hc0 : m0 ≤ c0) (hc1 : m1 ≤ c1) (hr0 : RdB w A0 xs) (hr1 : RdB w A1 ys) (hn0 : n0 = 1) :
    Calls Tryd.prog 36 #[.slice A0 m0 c0, .slice A1 m1 c1, .int .i64 pages] w fun e w' => e = .returned (.tuple #[.agg #[.int .i64 0, .int .i64 0, .int .u64 0], .int .i64 1]) ∧ Below w.heap.size w w' := by
  subst hn0
  have HM : Hd (m0 = xs.length ∧ m1 = ys.length) := ⟨h0, h1⟩
  have HD : Hd (decR xs pages 0 = (p0, r0, t0, 1) ∧ decR ys pages 1 = (p1, r1, t1, n1)) := ⟨hd0, hd1⟩
  have HG : Hd ((∀ x, x ∈ xs → 0 ≤ x ∧ x ≤ 255) ∧ ∀ x, x ∈ ys → 0 ≤ x ∧ x ≤ 255) := ⟨hxr, hyr⟩
  have HC : Hd (m0 ≤ c0 ∧ m1 ≤ c1) := ⟨hc0, hc1⟩
  have HE : Hd (RdB w A0 xs ∧ RdB w A1 ys) := ⟨hr0, hr1⟩
  clear hr0 hr1 h0 h1 hd0 hd1 hxr hyr hc0 hc1
  go_enter Tryd.func36, Tryd.ntmps36
  go_wp2_with (first
    | (go_at_call_of 26 (Value.int .i64 0); refine (rdecode_calls A0 c0 m0 xs HM.out.1 HC.out.1 pages 0 _ _ _ _ HD.out.1 _ (HE.out.1.below (below_alloc (Below.refl _ _) _)) HG.out.1).mono ?_; rintro e W2 ⟨rfl, hb⟩; have H2 : Hd (Below w.heap.size w W2 ∧ W2.heap[w.heap.size]? = some (.cells #[.int .i64 0, .int .i64 0, .int .u64 0] 24 (0, 0))) := ⟨box_below hb, box_row hb⟩; clear hb)
    | (go_at_call_of 26 (Value.int .i64 1); refine (rdecode_calls A1 c1 m1 ys HM.out.2 HC.out.2 pages 1 _ _ _ _ HD.out.2 _ (HE.out.2.below (below_alloc H2.out.1 _)) HG.out.2).mono ?_; rintro e W3 ⟨rfl, hb⟩; have k0 := box_cell hb 0 _ rfl; have k1 := box_cell hb 1 _ rfl; have k2 := box_cell hb 2 _ rfl; have H3 : Hd (Below w.heap.size w W3 ∧ W3.heap[w.heap.size]? = some (.cells #[.int .i64 0, .int .i64 0, .int .u64 0] 24 (0, 0))) := ⟨below_step H2.out.1 (box_below hb), below_row (box_below hb) H2.out.2⟩; have k0a := fun o => below_cell (below_alloc (Below.refl _ W3) o) (k0); have k1a := fun o => below_cell (below_alloc (Below.refl _ W3) o) (k1); have k2a := fun o => below_cell (below_alloc (Below.refl _ W3) o) (k2); have z0 := fun o => below_cell (below_alloc (Below.refl _ W3) o) ((Joins.cell_of_block H3.out.2 0).trans (show _ = some (Value.int .i64 0) from rfl)); have z1 := fun o => below_cell (below_alloc (Below.refl _ W3) o) ((Joins.cell_of_block H3.out.2 1).trans (show _ = some (Value.int .i64 0) from rfl)); have z2 := fun o => below_cell (below_alloc (Below.refl _ W3) o) ((Joins.cell_of_block H3.out.2 2).trans (show _ = some (Value.int .u64 0) from rfl)); have zf := fun o => Joins.unfrozen_of_block (below_row (below_alloc (Below.refl _ W3) o) H3.out.2); clear hb k0 k1 k2)
    | fail)
  refine bodyPost_ret (v := .tuple #[.agg #[.int .i64 0, .int .i64 0, .int .u64 0], .int .i64 1]) (results_meta rfl _ _ w.heap.size _ _ _ _ rfl rfl (metaRow (below_row (below_alloc (Below.refl _ _) _) H3.out.2) _ _ _)) rfl ⟨rfl, ?_⟩
  exact below_meta (below_alloc H3.out.1 _) (Nat.le_refl _) _ _ _

end Go.Proofs.YtoenacghkpgnpaaDoor.D
