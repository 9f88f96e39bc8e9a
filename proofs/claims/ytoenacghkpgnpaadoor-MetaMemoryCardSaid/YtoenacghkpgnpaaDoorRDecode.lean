/- The reference's Decode, and both Decodes' answers in one. -/
import Derived.Test.YtoenacghkpgnpaaDoorDecode
import Derived.Test.YtoenacghkpgnpaaDoorRef5b
namespace Go.Proofs.YtoenacghkpgnpaaDoor.D
open Go.RowKit Go.Proofs.YtoenacghkpgnpaaDoor.K Go.Proofs.YtoenacghkpgnpaaDoor.E Go.Proofs.YtoenacghkpgnpaaDoor.P1 Go.Proofs.YtoenacghkpgnpaaDoor.Codec Go.Proofs.YtoenacghkpgnpaaDoor.Meta Go.Proofs.YtoenacghkpgnpaaDoor.Q Go.Proofs.YtoenacghkpgnpaaDoor.S

theorem rpages_calls (p : Int) (b : Bool) (hb : decide (PagesM p) = b) (w : World) : Calls Tryd.prog 64 #[.int .i64 p] w fun e w' => e = .returned (.bool b) ∧ Below w.heap.size w w' := by
  subst hb
  refine (Ref.copseref5_pagesMayBe.calls p (decide (PagesM p)) w ?_).mono fun e w' ⟨h, hw⟩ => ⟨h, below_drawn hw.out⟩
  unfold Ref.copseref5_pagesMayBe.f PagesM
  by_cases h1 : p ≥ 4
  · simp [h1]
  · simp [h1]
theorem rslot_calls (t S : Int) (ht0 : 0 ≤ t) (hS : t % 2 = S) (w : World) : Calls Tryd.prog 21 #[.int .u64 t] w fun e w' => e = .returned (.int .i64 S) ∧ Below w.heap.size w w' :=
  (Ref.copseref5_Slot.calls t _ w rfl).mono fun e w' ⟨h, hw⟩ => ⟨by rw [h, slotw t S ht0 hS], below_drawn hw.out⟩

set_option maxRecDepth 100000 in
set_option maxHeartbeats 1000000 in
theorem rdecode_pages (A : Option Addr) (nI c : Nat) (pages slot : Int) (w : World) (hp : ¬ PagesM pages) :
    Calls Tryd.prog 26 #[.slice A nI c, .int .i64 pages, .int .i64 slot] w fun e w' => e = .returned (.tuple #[.agg #[.int .i64 0, .int .i64 0, .int .u64 0], .int .i64 1]) ∧ Below w.heap.size w w' := by
  have HP : Hd (decide (PagesM pages) = false) := ⟨decide_eq_false hp⟩
  clear hp
  go_enter Tryd.func26, Tryd.ntmps26
  go_wp2_with (first
    | (go_at_call 64; refine (rpages_calls pages _ HP.out _).mono ?_; rintro e W1 ⟨rfl, hb⟩; have H1 : Hd (Below w.heap.size w W1 ∧ W1.heap[w.heap.size]? = some (.cells #[.int .i64 0, .int .i64 0, .int .u64 0] 24 (0, 0))) := ⟨box_below hb, box_row hb⟩; have hc0 := (Joins.cell_of_block H1.out.2 0).trans (show _ = some (Value.int .i64 0) from rfl); have hc1 := (Joins.cell_of_block H1.out.2 1).trans (show _ = some (Value.int .i64 0) from rfl); have hc2 := (Joins.cell_of_block H1.out.2 2).trans (show _ = some (Value.int .u64 0) from rfl); have hf := Joins.unfrozen_of_block H1.out.2; clear hb)
    | fail)
  refine bodyPost_ret (v := .tuple #[.agg #[.int .i64 0, .int .i64 0, .int .u64 0], .int .i64 1]) (results_meta rfl _ _ w.heap.size _ _ _ _ rfl rfl (metaRow H1.out.2 _ _ _)) rfl ⟨rfl, ?_⟩
  exact below_meta H1.out.1 (Nat.le_refl _) _ _ _

set_option maxRecDepth 100000 in
set_option maxHeartbeats 1000000 in
theorem rdecode_lo (A : Option Addr) (nI c : Nat) (pages slot : Int) (w : World) (hp : PagesM pages) (hs : slot < 0) :
    Calls Tryd.prog 26 #[.slice A nI c, .int .i64 pages, .int .i64 slot] w fun e w' => e = .returned (.tuple #[.agg #[.int .i64 0, .int .i64 0, .int .u64 0], .int .i64 1]) ∧ Below w.heap.size w w' := by
  have HP : Hd (decide (PagesM pages) = true) := ⟨decide_eq_true hp⟩
  have hq : ¬ slot > 1 := by omega
  clear hp
  go_enter Tryd.func26, Tryd.ntmps26
  go_wp2_with (first
    | (go_at_call 64; refine (rpages_calls pages _ HP.out _).mono ?_; rintro e W1 ⟨rfl, hb⟩; have H1 : Hd (Below w.heap.size w W1 ∧ W1.heap[w.heap.size]? = some (.cells #[.int .i64 0, .int .i64 0, .int .u64 0] 24 (0, 0))) := ⟨box_below hb, box_row hb⟩; have hc0 := (Joins.cell_of_block H1.out.2 0).trans (show _ = some (Value.int .i64 0) from rfl); have hc1 := (Joins.cell_of_block H1.out.2 1).trans (show _ = some (Value.int .i64 0) from rfl); have hc2 := (Joins.cell_of_block H1.out.2 2).trans (show _ = some (Value.int .u64 0) from rfl); have hf := Joins.unfrozen_of_block H1.out.2; clear hb)
    | fail)
  refine bodyPost_ret (v := .tuple #[.agg #[.int .i64 0, .int .i64 0, .int .u64 0], .int .i64 1]) (results_meta rfl _ _ w.heap.size _ _ _ _ rfl rfl (metaRow H1.out.2 _ _ _)) rfl ⟨rfl, ?_⟩
  exact below_meta H1.out.1 (Nat.le_refl _) _ _ _

set_option maxRecDepth 100000 in
set_option maxHeartbeats 1000000 in
theorem rdecode_hi (A : Option Addr) (nI c : Nat) (pages slot : Int) (w : World) (hp : PagesM pages) (hs : slot > 1) :
    Calls Tryd.prog 26 #[.slice A nI c, .int .i64 pages, .int .i64 slot] w fun e w' => e = .returned (.tuple #[.agg #[.int .i64 0, .int .i64 0, .int .u64 0], .int .i64 1]) ∧ Below w.heap.size w w' := by
  have HP : Hd (decide (PagesM pages) = true) := ⟨decide_eq_true hp⟩
  have hq : ¬ slot < 0 := by omega
  clear hp
  go_enter Tryd.func26, Tryd.ntmps26
  go_wp2_with (first
    | (go_at_call 64; refine (rpages_calls pages _ HP.out _).mono ?_; rintro e W1 ⟨rfl, hb⟩; have H1 : Hd (Below w.heap.size w W1 ∧ W1.heap[w.heap.size]? = some (.cells #[.int .i64 0, .int .i64 0, .int .u64 0] 24 (0, 0))) := ⟨box_below hb, box_row hb⟩; have hc0 := (Joins.cell_of_block H1.out.2 0).trans (show _ = some (Value.int .i64 0) from rfl); have hc1 := (Joins.cell_of_block H1.out.2 1).trans (show _ = some (Value.int .i64 0) from rfl); have hc2 := (Joins.cell_of_block H1.out.2 2).trans (show _ = some (Value.int .u64 0) from rfl); have hf := Joins.unfrozen_of_block H1.out.2; clear hb)
    | fail)
  refine bodyPost_ret (v := .tuple #[.agg #[.int .i64 0, .int .i64 0, .int .u64 0], .int .i64 1]) (results_meta rfl _ _ w.heap.size _ _ _ _ rfl rfl (metaRow H1.out.2 _ _ _)) rfl ⟨rfl, ?_⟩
  exact below_meta H1.out.1 (Nat.le_refl _) _ _ _

set_option maxRecDepth 100000 in
set_option maxHeartbeats 1000000 in
theorem rdecode_len (A : Option Addr) (nI c : Nat) (pages slot : Int) (w : World) (hp : PagesM pages) (hs : slot = 0 ∨ slot = 1) (hn : ¬ (nI : Int) = 512) :
    Calls Tryd.prog 26 #[.slice A nI c, .int .i64 pages, .int .i64 slot] w fun e w' => e = .returned (.tuple #[.agg #[.int .i64 0, .int .i64 0, .int .u64 0], .int .i64 2]) ∧ Below w.heap.size w w' := by
  have HP : Hd (decide (PagesM pages) = true) := ⟨decide_eq_true hp⟩
  have hs0 : ¬ slot < 0 := by rcases hs with h | h <;> omega
  have hs1 : ¬ slot > 1 := by rcases hs with h | h <;> omega
  clear hp hs
  go_enter Tryd.func26, Tryd.ntmps26
  go_wp2_with (first
    | (go_at_call 64; refine (rpages_calls pages _ HP.out _).mono ?_; rintro e W1 ⟨rfl, hb⟩; have H1 : Hd (Below w.heap.size w W1 ∧ W1.heap[w.heap.size]? = some (.cells #[.int .i64 0, .int .i64 0, .int .u64 0] 24 (0, 0))) := ⟨box_below hb, box_row hb⟩; have hc0 := (Joins.cell_of_block H1.out.2 0).trans (show _ = some (Value.int .i64 0) from rfl); have hc1 := (Joins.cell_of_block H1.out.2 1).trans (show _ = some (Value.int .i64 0) from rfl); have hc2 := (Joins.cell_of_block H1.out.2 2).trans (show _ = some (Value.int .u64 0) from rfl); have hf := Joins.unfrozen_of_block H1.out.2; clear hb)
    | fail)
  refine bodyPost_ret (v := .tuple #[.agg #[.int .i64 0, .int .i64 0, .int .u64 0], .int .i64 2]) (results_meta rfl _ _ w.heap.size _ _ _ _ rfl rfl (metaRow H1.out.2 _ _ _)) rfl ⟨rfl, ?_⟩
  exact below_meta H1.out.1 (Nat.le_refl _) _ _ _

set_option maxRecDepth 100000 in
set_option maxHeartbeats 1000000 in
theorem rdecode_may (A : Option Addr) (nI c : Nat) (xs : List Int) (pages slot : Int) (w : World) (hr : RdB w A xs) (hxr : ∀ x, x ∈ xs → 0 ≤ x ∧ x ≤ 255) (hn : nI = 512) (hx : xs.length = 512) (hc : nI ≤ c) (hp : PagesM pages) (hs : slot = 0 ∨ slot = 1) (P R T : Int) (hP : num ((xs.drop 8).take 4) = P) (hR : num ((xs.drop 12).take 4) = R) (hT : num ((xs.drop 16).take 8) = T) (T2 : Int) (hT2 : T % 2 = T2) (hm : ¬ MayM P R) :
    Calls Tryd.prog 26 #[.slice A nI c, .int .i64 pages, .int .i64 slot] w fun e w' => e = .returned (.tuple #[.agg #[.int .i64 0, .int .i64 0, .int .u64 0], .int .i64 2]) ∧ Below w.heap.size w w' := by
  subst hn
  have HX : Hd (xs.length = 512) := ⟨hx⟩
  have HR : Hd (RdB w A xs) := ⟨hr⟩
  have HC : Hd (512 ≤ c) := ⟨hc⟩
  have HG : Hd (∀ x, x ∈ xs → 0 ≤ x ∧ x ≤ 255) := ⟨hxr⟩
  have HPv : Hd (num ((xs.drop 8).take 4) = P) := ⟨hP⟩
  have HRv : Hd (num ((xs.drop 12).take 4) = R) := ⟨hR⟩
  have HTv : Hd (num ((xs.drop 16).take 8) = T) := ⟨hT⟩
  have HT2 : Hd (T % 2 = T2) := ⟨hT2⟩
  have hP0 : 0 ≤ P := hP ▸ (part_range xs hxr 8 4).1
  have hP1 : P ≤ 4294967295 := by have := (part_range xs hxr 8 4).2; rw [hP] at this; exact Int.le_of_lt_add_one this
  have hR0 : 0 ≤ R := hR ▸ (part_range xs hxr 12 4).1
  have hR1 : R ≤ 4294967295 := by have := (part_range xs hxr 12 4).2; rw [hR] at this; exact Int.le_of_lt_add_one this
  have hT0 : 0 ≤ T := hT ▸ (part_range xs hxr 16 8).1
  have HP : Hd (decide (PagesM pages) = true) := ⟨decide_eq_true hp⟩
  have hs0 : ¬ slot < 0 := by rcases hs with h | h <;> omega
  have hs1 : ¬ slot > 1 := by rcases hs with h | h <;> omega
  clear hp hs
  clear hx hr hxr hP hR hT hT2 hc
  have HM : Hd (¬ MayM P R) := ⟨hm⟩
  clear hm
  go_enter Tryd.func26, Tryd.ntmps26
  go_wp2_with (first
    | (go_at_call 64; refine (rpages_calls pages _ HP.out _).mono ?_; rintro e W1 ⟨rfl, hb⟩; have H1 : Hd (Below w.heap.size w W1 ∧ W1.heap[w.heap.size]? = some (.cells #[.int .i64 0, .int .i64 0, .int .u64 0] 24 (0, 0))) := ⟨box_below hb, box_row hb⟩; have hc0 := (Joins.cell_of_block H1.out.2 0).trans (show _ = some (Value.int .i64 0) from rfl); have hc1 := (Joins.cell_of_block H1.out.2 1).trans (show _ = some (Value.int .i64 0) from rfl); have hc2 := (Joins.cell_of_block H1.out.2 2).trans (show _ = some (Value.int .u64 0) from rfl); have hf := Joins.unfrozen_of_block H1.out.2; clear hb)
    | (go_at_call_of 65 (Value.int .i64 12); refine (rget_calls A c 512 xs 12 4 12 4 rfl rfl HX.out.symm _ (HR.out.below H2.out.1) HC.out HG.out (by rw [HX.out]; decide) (by rw [HX.out]; decide) (by decide) _ HRv.out).mono ?_; rintro e W3 ⟨rfl, hb⟩; have H3 : Hd (Below w.heap.size w W3 ∧ W3.heap[w.heap.size]? = some (.cells #[.int .i64 0, .int .i64 0, .int .u64 0] 24 (0, 0))) := ⟨below_step H2.out.1 hb, below_row hb H2.out.2⟩; clear hb)
    | (go_at_call_of 65 (Value.int .i64 16); refine (rget_calls A c 512 xs 16 8 16 8 rfl rfl HX.out.symm _ (HR.out.below H3.out.1) HC.out HG.out (by rw [HX.out]; decide) (by rw [HX.out]; decide) (by decide) _ HTv.out).mono ?_; rintro e W4 ⟨rfl, hb⟩; have H4 : Hd (Below w.heap.size w W4 ∧ W4.heap[w.heap.size]? = some (.cells #[.int .i64 0, .int .i64 0, .int .u64 0] 24 (0, 0))) := ⟨below_step H3.out.1 hb, below_row hb H3.out.2⟩; clear hb)
    | (go_at_call_of 65 (Value.int .i64 8); refine (rget_calls A c 512 xs 8 4 8 4 rfl rfl HX.out.symm _ (HR.out.below H1.out.1) HC.out HG.out (by rw [HX.out]; decide) (by rw [HX.out]; decide) (by decide) _ HPv.out).mono ?_; rintro e W2 ⟨rfl, hb⟩; have H2 : Hd (Below w.heap.size w W2 ∧ W2.heap[w.heap.size]? = some (.cells #[.int .i64 0, .int .i64 0, .int .u64 0] 24 (0, 0))) := ⟨below_step H1.out.1 hb, below_row hb H1.out.2⟩; clear hb)
    | (go_at_call 17; refine (rencode_no P R T _ HM.out).mono ?_; rintro e W5 ⟨v5, rfl, ho, hb⟩; have k0 := box_cell hb 0 _ rfl; have k1 := box_cell hb 1 _ rfl; have k2 := box_cell hb 2 _ rfl; have H5 : Hd (Below w.heap.size w W5 ∧ W5.heap[w.heap.size]? = some (.cells #[.int .i64 0, .int .i64 0, .int .u64 0] 24 (0, 0))) := ⟨below_step H4.out.1 (box_below hb), below_row (box_below hb) H4.out.2⟩; obtain ⟨A5, c5, rfl, hcc, hrd⟩ := ho.form; have HO : Hd ((([] : List Int)).length ≤ c5 ∧ RdB W5 A5 (([] : List Int))) := ⟨hcc, hrd⟩; clear ho hb hcc hrd)
    | (go_at_call 18; refine (same_calls _ _ _ _ _ _ xs [] false (decide_eq_false (fun h => by have := HX.out; rw [h] at this; cases this)) HX.out.symm rfl _ (HR.out.below H5.out.1) HO.out.2 HC.out HO.out.1 (by rw [HX.out]; omega) (by simp)).mono ?_; rintro e W6 ⟨rfl, hw⟩; have l0 := below_cell (below_drawn hw) k0; have l1 := below_cell (below_drawn hw) k1; have l2 := below_cell (below_drawn hw) k2; have H6 : Hd (Below w.heap.size w W6 ∧ W6.heap[w.heap.size]? = some (.cells #[.int .i64 0, .int .i64 0, .int .u64 0] 24 (0, 0))) := ⟨below_step H5.out.1 (below_drawn hw), below_row (below_drawn hw) H5.out.2⟩; clear k0 k1 k2 hw; have hc0 := (Joins.cell_of_block H6.out.2 0).trans (show _ = some (Value.int .i64 0) from rfl); have hc1 := (Joins.cell_of_block H6.out.2 1).trans (show _ = some (Value.int .i64 0) from rfl); have hc2 := (Joins.cell_of_block H6.out.2 2).trans (show _ = some (Value.int .u64 0) from rfl); have hf := Joins.unfrozen_of_block H6.out.2)
    | fail)
  refine bodyPost_ret (v := .tuple #[.agg #[.int .i64 0, .int .i64 0, .int .u64 0], .int .i64 2]) (results_meta rfl _ _ w.heap.size _ _ _ _ rfl rfl (metaRow H6.out.2 _ _ _)) rfl ⟨rfl, ?_⟩
  exact below_meta H6.out.1 (Nat.le_refl _) _ _ _

set_option maxRecDepth 100000 in
set_option maxHeartbeats 1000000 in
theorem rdecode_same (A : Option Addr) (nI c : Nat) (xs : List Int) (pages slot : Int) (w : World) (hr : RdB w A xs) (hxr : ∀ x, x ∈ xs → 0 ≤ x ∧ x ≤ 255) (hn : nI = 512) (hx : xs.length = 512) (hc : nI ≤ c) (hp : PagesM pages) (hs : slot = 0 ∨ slot = 1) (P R T : Int) (hP : num ((xs.drop 8).take 4) = P) (hR : num ((xs.drop 12).take 4) = R) (hT : num ((xs.drop 16).take 8) = T) (T2 : Int) (hT2 : T % 2 = T2) (hm : MayM P R) (hq : ¬ wr P R T = xs) :
    Calls Tryd.prog 26 #[.slice A nI c, .int .i64 pages, .int .i64 slot] w fun e w' => e = .returned (.tuple #[.agg #[.int .i64 0, .int .i64 0, .int .u64 0], .int .i64 2]) ∧ Below w.heap.size w w' := by
  subst hn
  have HX : Hd (xs.length = 512) := ⟨hx⟩
  have HR : Hd (RdB w A xs) := ⟨hr⟩
  have HC : Hd (512 ≤ c) := ⟨hc⟩
  have HG : Hd (∀ x, x ∈ xs → 0 ≤ x ∧ x ≤ 255) := ⟨hxr⟩
  have HPv : Hd (num ((xs.drop 8).take 4) = P) := ⟨hP⟩
  have HRv : Hd (num ((xs.drop 12).take 4) = R) := ⟨hR⟩
  have HTv : Hd (num ((xs.drop 16).take 8) = T) := ⟨hT⟩
  have HT2 : Hd (T % 2 = T2) := ⟨hT2⟩
  have hP0 : 0 ≤ P := hP ▸ (part_range xs hxr 8 4).1
  have hP1 : P ≤ 4294967295 := by have := (part_range xs hxr 8 4).2; rw [hP] at this; exact Int.le_of_lt_add_one this
  have hR0 : 0 ≤ R := hR ▸ (part_range xs hxr 12 4).1
  have hR1 : R ≤ 4294967295 := by have := (part_range xs hxr 12 4).2; rw [hR] at this; exact Int.le_of_lt_add_one this
  have hT0 : 0 ≤ T := hT ▸ (part_range xs hxr 16 8).1
  have HP : Hd (decide (PagesM pages) = true) := ⟨decide_eq_true hp⟩
  have hs0 : ¬ slot < 0 := by rcases hs with h | h <;> omega
  have hs1 : ¬ slot > 1 := by rcases hs with h | h <;> omega
  clear hp hs
  clear hx hr hxr hP hR hT hT2 hc
  have HM : Hd (MayM P R) := ⟨hm⟩
  have HQ : Hd (¬ wr P R T = xs) := ⟨hq⟩
  clear hm hq
  go_enter Tryd.func26, Tryd.ntmps26
  go_wp2_with (first
    | (go_at_call 64; refine (rpages_calls pages _ HP.out _).mono ?_; rintro e W1 ⟨rfl, hb⟩; have H1 : Hd (Below w.heap.size w W1 ∧ W1.heap[w.heap.size]? = some (.cells #[.int .i64 0, .int .i64 0, .int .u64 0] 24 (0, 0))) := ⟨box_below hb, box_row hb⟩; have hc0 := (Joins.cell_of_block H1.out.2 0).trans (show _ = some (Value.int .i64 0) from rfl); have hc1 := (Joins.cell_of_block H1.out.2 1).trans (show _ = some (Value.int .i64 0) from rfl); have hc2 := (Joins.cell_of_block H1.out.2 2).trans (show _ = some (Value.int .u64 0) from rfl); have hf := Joins.unfrozen_of_block H1.out.2; clear hb)
    | (go_at_call_of 65 (Value.int .i64 12); refine (rget_calls A c 512 xs 12 4 12 4 rfl rfl HX.out.symm _ (HR.out.below H2.out.1) HC.out HG.out (by rw [HX.out]; decide) (by rw [HX.out]; decide) (by decide) _ HRv.out).mono ?_; rintro e W3 ⟨rfl, hb⟩; have H3 : Hd (Below w.heap.size w W3 ∧ W3.heap[w.heap.size]? = some (.cells #[.int .i64 0, .int .i64 0, .int .u64 0] 24 (0, 0))) := ⟨below_step H2.out.1 hb, below_row hb H2.out.2⟩; clear hb)
    | (go_at_call_of 65 (Value.int .i64 16); refine (rget_calls A c 512 xs 16 8 16 8 rfl rfl HX.out.symm _ (HR.out.below H3.out.1) HC.out HG.out (by rw [HX.out]; decide) (by rw [HX.out]; decide) (by decide) _ HTv.out).mono ?_; rintro e W4 ⟨rfl, hb⟩; have H4 : Hd (Below w.heap.size w W4 ∧ W4.heap[w.heap.size]? = some (.cells #[.int .i64 0, .int .i64 0, .int .u64 0] 24 (0, 0))) := ⟨below_step H3.out.1 hb, below_row hb H3.out.2⟩; clear hb)
    | (go_at_call_of 65 (Value.int .i64 8); refine (rget_calls A c 512 xs 8 4 8 4 rfl rfl HX.out.symm _ (HR.out.below H1.out.1) HC.out HG.out (by rw [HX.out]; decide) (by rw [HX.out]; decide) (by decide) _ HPv.out).mono ?_; rintro e W2 ⟨rfl, hb⟩; have H2 : Hd (Below w.heap.size w W2 ∧ W2.heap[w.heap.size]? = some (.cells #[.int .i64 0, .int .i64 0, .int .u64 0] 24 (0, 0))) := ⟨below_step H1.out.1 hb, below_row hb H1.out.2⟩; clear hb)
    | (go_at_call 17; refine (rencode_ok P R T _ HM.out).mono ?_; rintro e W5 ⟨v5, rfl, ho, hb⟩; have k0 := box_cell hb 0 _ rfl; have k1 := box_cell hb 1 _ rfl; have k2 := box_cell hb 2 _ rfl; have H5 : Hd (Below w.heap.size w W5 ∧ W5.heap[w.heap.size]? = some (.cells #[.int .i64 0, .int .i64 0, .int .u64 0] 24 (0, 0))) := ⟨below_step H4.out.1 (box_below hb), below_row (box_below hb) H4.out.2⟩; obtain ⟨A5, c5, rfl, hcc, hrd⟩ := ho.form; have HO : Hd ((wr P R T).length ≤ c5 ∧ RdB W5 A5 (wr P R T)) := ⟨hcc, hrd⟩; clear ho hb hcc hrd)
    | (go_at_call 18; refine (same_calls _ _ _ _ _ _ xs (wr P R T) false (decide_eq_false (fun h => HQ.out h.symm)) HX.out.symm (wr_length P R T).symm _ (HR.out.below H5.out.1) HO.out.2 HC.out HO.out.1 (by rw [HX.out]; omega) (by rw [wr_length]; omega)).mono ?_; rintro e W6 ⟨rfl, hw⟩; have l0 := below_cell (below_drawn hw) k0; have l1 := below_cell (below_drawn hw) k1; have l2 := below_cell (below_drawn hw) k2; have H6 : Hd (Below w.heap.size w W6 ∧ W6.heap[w.heap.size]? = some (.cells #[.int .i64 0, .int .i64 0, .int .u64 0] 24 (0, 0))) := ⟨below_step H5.out.1 (below_drawn hw), below_row (below_drawn hw) H5.out.2⟩; clear k0 k1 k2 hw; have hc0 := (Joins.cell_of_block H6.out.2 0).trans (show _ = some (Value.int .i64 0) from rfl); have hc1 := (Joins.cell_of_block H6.out.2 1).trans (show _ = some (Value.int .i64 0) from rfl); have hc2 := (Joins.cell_of_block H6.out.2 2).trans (show _ = some (Value.int .u64 0) from rfl); have hf := Joins.unfrozen_of_block H6.out.2)
    | fail)
  refine bodyPost_ret (v := .tuple #[.agg #[.int .i64 0, .int .i64 0, .int .u64 0], .int .i64 2]) (results_meta rfl _ _ w.heap.size _ _ _ _ rfl rfl (metaRow H6.out.2 _ _ _)) rfl ⟨rfl, ?_⟩
  exact below_meta H6.out.1 (Nat.le_refl _) _ _ _

set_option maxRecDepth 100000 in
set_option maxHeartbeats 1000000 in
theorem rdecode_pg (A : Option Addr) (nI c : Nat) (xs : List Int) (pages slot : Int) (w : World) (hr : RdB w A xs) (hxr : ∀ x, x ∈ xs → 0 ≤ x ∧ x ≤ 255) (hn : nI = 512) (hx : xs.length = 512) (hc : nI ≤ c) (hp : PagesM pages) (hs : slot = 0 ∨ slot = 1) (P R T : Int) (hP : num ((xs.drop 8).take 4) = P) (hR : num ((xs.drop 12).take 4) = R) (hT : num ((xs.drop 16).take 8) = T) (T2 : Int) (hT2 : T % 2 = T2) (hm : MayM P R) (hq : wr P R T = xs) (hpg : ¬ P = pages) :
    Calls Tryd.prog 26 #[.slice A nI c, .int .i64 pages, .int .i64 slot] w fun e w' => e = .returned (.tuple #[.agg #[.int .i64 0, .int .i64 0, .int .u64 0], .int .i64 2]) ∧ Below w.heap.size w w' := by
  subst hn
  have HX : Hd (xs.length = 512) := ⟨hx⟩
  have HR : Hd (RdB w A xs) := ⟨hr⟩
  have HC : Hd (512 ≤ c) := ⟨hc⟩
  have HG : Hd (∀ x, x ∈ xs → 0 ≤ x ∧ x ≤ 255) := ⟨hxr⟩
  have HPv : Hd (num ((xs.drop 8).take 4) = P) := ⟨hP⟩
  have HRv : Hd (num ((xs.drop 12).take 4) = R) := ⟨hR⟩
  have HTv : Hd (num ((xs.drop 16).take 8) = T) := ⟨hT⟩
  have HT2 : Hd (T % 2 = T2) := ⟨hT2⟩
  have hP0 : 0 ≤ P := hP ▸ (part_range xs hxr 8 4).1
  have hP1 : P ≤ 4294967295 := by have := (part_range xs hxr 8 4).2; rw [hP] at this; exact Int.le_of_lt_add_one this
  have hR0 : 0 ≤ R := hR ▸ (part_range xs hxr 12 4).1
  have hR1 : R ≤ 4294967295 := by have := (part_range xs hxr 12 4).2; rw [hR] at this; exact Int.le_of_lt_add_one this
  have hT0 : 0 ≤ T := hT ▸ (part_range xs hxr 16 8).1
  have HP : Hd (decide (PagesM pages) = true) := ⟨decide_eq_true hp⟩
  have hs0 : ¬ slot < 0 := by rcases hs with h | h <;> omega
  have hs1 : ¬ slot > 1 := by rcases hs with h | h <;> omega
  clear hp hs
  clear hx hr hxr hP hR hT hT2 hc
  have HM : Hd (MayM P R) := ⟨hm⟩
  have HQ : Hd (wr P R T = xs) := ⟨hq⟩
  clear hm hq
  go_enter Tryd.func26, Tryd.ntmps26
  go_wp2_with (first
    | (go_at_call 64; refine (rpages_calls pages _ HP.out _).mono ?_; rintro e W1 ⟨rfl, hb⟩; have H1 : Hd (Below w.heap.size w W1 ∧ W1.heap[w.heap.size]? = some (.cells #[.int .i64 0, .int .i64 0, .int .u64 0] 24 (0, 0))) := ⟨box_below hb, box_row hb⟩; have hc0 := (Joins.cell_of_block H1.out.2 0).trans (show _ = some (Value.int .i64 0) from rfl); have hc1 := (Joins.cell_of_block H1.out.2 1).trans (show _ = some (Value.int .i64 0) from rfl); have hc2 := (Joins.cell_of_block H1.out.2 2).trans (show _ = some (Value.int .u64 0) from rfl); have hf := Joins.unfrozen_of_block H1.out.2; clear hb)
    | (go_at_call_of 65 (Value.int .i64 12); refine (rget_calls A c 512 xs 12 4 12 4 rfl rfl HX.out.symm _ (HR.out.below H2.out.1) HC.out HG.out (by rw [HX.out]; decide) (by rw [HX.out]; decide) (by decide) _ HRv.out).mono ?_; rintro e W3 ⟨rfl, hb⟩; have H3 : Hd (Below w.heap.size w W3 ∧ W3.heap[w.heap.size]? = some (.cells #[.int .i64 0, .int .i64 0, .int .u64 0] 24 (0, 0))) := ⟨below_step H2.out.1 hb, below_row hb H2.out.2⟩; clear hb)
    | (go_at_call_of 65 (Value.int .i64 16); refine (rget_calls A c 512 xs 16 8 16 8 rfl rfl HX.out.symm _ (HR.out.below H3.out.1) HC.out HG.out (by rw [HX.out]; decide) (by rw [HX.out]; decide) (by decide) _ HTv.out).mono ?_; rintro e W4 ⟨rfl, hb⟩; have H4 : Hd (Below w.heap.size w W4 ∧ W4.heap[w.heap.size]? = some (.cells #[.int .i64 0, .int .i64 0, .int .u64 0] 24 (0, 0))) := ⟨below_step H3.out.1 hb, below_row hb H3.out.2⟩; clear hb)
    | (go_at_call_of 65 (Value.int .i64 8); refine (rget_calls A c 512 xs 8 4 8 4 rfl rfl HX.out.symm _ (HR.out.below H1.out.1) HC.out HG.out (by rw [HX.out]; decide) (by rw [HX.out]; decide) (by decide) _ HPv.out).mono ?_; rintro e W2 ⟨rfl, hb⟩; have H2 : Hd (Below w.heap.size w W2 ∧ W2.heap[w.heap.size]? = some (.cells #[.int .i64 0, .int .i64 0, .int .u64 0] 24 (0, 0))) := ⟨below_step H1.out.1 hb, below_row hb H1.out.2⟩; clear hb)
    | (go_at_call 17; refine (rencode_ok P R T _ HM.out).mono ?_; rintro e W5 ⟨v5, rfl, ho, hb⟩; have k0 := box_cell hb 0 _ rfl; have k1 := box_cell hb 1 _ rfl; have k2 := box_cell hb 2 _ rfl; have H5 : Hd (Below w.heap.size w W5 ∧ W5.heap[w.heap.size]? = some (.cells #[.int .i64 0, .int .i64 0, .int .u64 0] 24 (0, 0))) := ⟨below_step H4.out.1 (box_below hb), below_row (box_below hb) H4.out.2⟩; obtain ⟨A5, c5, rfl, hcc, hrd⟩ := ho.form; have HO : Hd ((wr P R T).length ≤ c5 ∧ RdB W5 A5 (wr P R T)) := ⟨hcc, hrd⟩; clear ho hb hcc hrd)
    | (go_at_call 18; refine (same_calls _ _ _ _ _ _ xs (wr P R T) true (decide_eq_true HQ.out.symm) HX.out.symm (wr_length P R T).symm _ (HR.out.below H5.out.1) HO.out.2 HC.out HO.out.1 (by rw [HX.out]; omega) (by rw [wr_length]; omega)).mono ?_; rintro e W6 ⟨rfl, hw⟩; have l0 := below_cell (below_drawn hw) k0; have l1 := below_cell (below_drawn hw) k1; have l2 := below_cell (below_drawn hw) k2; have H6 : Hd (Below w.heap.size w W6 ∧ W6.heap[w.heap.size]? = some (.cells #[.int .i64 0, .int .i64 0, .int .u64 0] 24 (0, 0))) := ⟨below_step H5.out.1 (below_drawn hw), below_row (below_drawn hw) H5.out.2⟩; clear k0 k1 k2 hw; have hc0 := (Joins.cell_of_block H6.out.2 0).trans (show _ = some (Value.int .i64 0) from rfl); have hc1 := (Joins.cell_of_block H6.out.2 1).trans (show _ = some (Value.int .i64 0) from rfl); have hc2 := (Joins.cell_of_block H6.out.2 2).trans (show _ = some (Value.int .u64 0) from rfl); have hf := Joins.unfrozen_of_block H6.out.2)
    | fail)
  refine bodyPost_ret (v := .tuple #[.agg #[.int .i64 0, .int .i64 0, .int .u64 0], .int .i64 2]) (results_meta rfl _ _ w.heap.size _ _ _ _ rfl rfl (metaRow H6.out.2 _ _ _)) rfl ⟨rfl, ?_⟩
  exact below_meta H6.out.1 (Nat.le_refl _) _ _ _

set_option maxRecDepth 100000 in
set_option maxHeartbeats 1000000 in
theorem rdecode_sl (A : Option Addr) (nI c : Nat) (xs : List Int) (pages slot : Int) (w : World) (hr : RdB w A xs) (hxr : ∀ x, x ∈ xs → 0 ≤ x ∧ x ≤ 255) (hn : nI = 512) (hx : xs.length = 512) (hc : nI ≤ c) (hp : PagesM pages) (hs : slot = 0 ∨ slot = 1) (P R T : Int) (hP : num ((xs.drop 8).take 4) = P) (hR : num ((xs.drop 12).take 4) = R) (hT : num ((xs.drop 16).take 8) = T) (T2 : Int) (hT2 : T % 2 = T2) (hm : MayM P R) (hq : wr P R T = xs) (hpg : P = pages) (hsl : ¬ T2 = slot) :
    Calls Tryd.prog 26 #[.slice A nI c, .int .i64 pages, .int .i64 slot] w fun e w' => e = .returned (.tuple #[.agg #[.int .i64 0, .int .i64 0, .int .u64 0], .int .i64 2]) ∧ Below w.heap.size w w' := by
  subst hn
  have HX : Hd (xs.length = 512) := ⟨hx⟩
  have HR : Hd (RdB w A xs) := ⟨hr⟩
  have HC : Hd (512 ≤ c) := ⟨hc⟩
  have HG : Hd (∀ x, x ∈ xs → 0 ≤ x ∧ x ≤ 255) := ⟨hxr⟩
  have HPv : Hd (num ((xs.drop 8).take 4) = P) := ⟨hP⟩
  have HRv : Hd (num ((xs.drop 12).take 4) = R) := ⟨hR⟩
  have HTv : Hd (num ((xs.drop 16).take 8) = T) := ⟨hT⟩
  have HT2 : Hd (T % 2 = T2) := ⟨hT2⟩
  have hP0 : 0 ≤ P := hP ▸ (part_range xs hxr 8 4).1
  have hP1 : P ≤ 4294967295 := by have := (part_range xs hxr 8 4).2; rw [hP] at this; exact Int.le_of_lt_add_one this
  have hR0 : 0 ≤ R := hR ▸ (part_range xs hxr 12 4).1
  have hR1 : R ≤ 4294967295 := by have := (part_range xs hxr 12 4).2; rw [hR] at this; exact Int.le_of_lt_add_one this
  have hT0 : 0 ≤ T := hT ▸ (part_range xs hxr 16 8).1
  have HP : Hd (decide (PagesM pages) = true) := ⟨decide_eq_true hp⟩
  have hs0 : ¬ slot < 0 := by rcases hs with h | h <;> omega
  have hs1 : ¬ slot > 1 := by rcases hs with h | h <;> omega
  clear hp hs
  clear hx hr hxr hP hR hT hT2 hc
  subst hpg
  have HM : Hd (MayM P R) := ⟨hm⟩
  have HQ : Hd (wr P R T = xs) := ⟨hq⟩
  clear hm hq
  go_enter Tryd.func26, Tryd.ntmps26
  go_wp2_with (first
    | (go_at_call 64; refine (rpages_calls P _ HP.out _).mono ?_; rintro e W1 ⟨rfl, hb⟩; have H1 : Hd (Below w.heap.size w W1 ∧ W1.heap[w.heap.size]? = some (.cells #[.int .i64 0, .int .i64 0, .int .u64 0] 24 (0, 0))) := ⟨box_below hb, box_row hb⟩; have hc0 := (Joins.cell_of_block H1.out.2 0).trans (show _ = some (Value.int .i64 0) from rfl); have hc1 := (Joins.cell_of_block H1.out.2 1).trans (show _ = some (Value.int .i64 0) from rfl); have hc2 := (Joins.cell_of_block H1.out.2 2).trans (show _ = some (Value.int .u64 0) from rfl); have hf := Joins.unfrozen_of_block H1.out.2; clear hb)
    | (go_at_call_of 65 (Value.int .i64 12); refine (rget_calls A c 512 xs 12 4 12 4 rfl rfl HX.out.symm _ (HR.out.below H2.out.1) HC.out HG.out (by rw [HX.out]; decide) (by rw [HX.out]; decide) (by decide) _ HRv.out).mono ?_; rintro e W3 ⟨rfl, hb⟩; have H3 : Hd (Below w.heap.size w W3 ∧ W3.heap[w.heap.size]? = some (.cells #[.int .i64 0, .int .i64 0, .int .u64 0] 24 (0, 0))) := ⟨below_step H2.out.1 hb, below_row hb H2.out.2⟩; clear hb)
    | (go_at_call_of 65 (Value.int .i64 16); refine (rget_calls A c 512 xs 16 8 16 8 rfl rfl HX.out.symm _ (HR.out.below H3.out.1) HC.out HG.out (by rw [HX.out]; decide) (by rw [HX.out]; decide) (by decide) _ HTv.out).mono ?_; rintro e W4 ⟨rfl, hb⟩; have H4 : Hd (Below w.heap.size w W4 ∧ W4.heap[w.heap.size]? = some (.cells #[.int .i64 0, .int .i64 0, .int .u64 0] 24 (0, 0))) := ⟨below_step H3.out.1 hb, below_row hb H3.out.2⟩; clear hb)
    | (go_at_call_of 65 (Value.int .i64 8); refine (rget_calls A c 512 xs 8 4 8 4 rfl rfl HX.out.symm _ (HR.out.below H1.out.1) HC.out HG.out (by rw [HX.out]; decide) (by rw [HX.out]; decide) (by decide) _ HPv.out).mono ?_; rintro e W2 ⟨rfl, hb⟩; have H2 : Hd (Below w.heap.size w W2 ∧ W2.heap[w.heap.size]? = some (.cells #[.int .i64 0, .int .i64 0, .int .u64 0] 24 (0, 0))) := ⟨below_step H1.out.1 hb, below_row hb H1.out.2⟩; clear hb)
    | (go_at_call 17; refine (rencode_ok P R T _ HM.out).mono ?_; rintro e W5 ⟨v5, rfl, ho, hb⟩; have k0 := box_cell hb 0 _ rfl; have k1 := box_cell hb 1 _ rfl; have k2 := box_cell hb 2 _ rfl; have H5 : Hd (Below w.heap.size w W5 ∧ W5.heap[w.heap.size]? = some (.cells #[.int .i64 0, .int .i64 0, .int .u64 0] 24 (0, 0))) := ⟨below_step H4.out.1 (box_below hb), below_row (box_below hb) H4.out.2⟩; obtain ⟨A5, c5, rfl, hcc, hrd⟩ := ho.form; have HO : Hd ((wr P R T).length ≤ c5 ∧ RdB W5 A5 (wr P R T)) := ⟨hcc, hrd⟩; clear ho hb hcc hrd)
    | (go_at_call 18; refine (same_calls _ _ _ _ _ _ xs (wr P R T) true (decide_eq_true HQ.out.symm) HX.out.symm (wr_length P R T).symm _ (HR.out.below H5.out.1) HO.out.2 HC.out HO.out.1 (by rw [HX.out]; omega) (by rw [wr_length]; omega)).mono ?_; rintro e W6 ⟨rfl, hw⟩; have l0 := below_cell (below_drawn hw) k0; have l1 := below_cell (below_drawn hw) k1; have l2 := below_cell (below_drawn hw) k2; have H6 : Hd (Below w.heap.size w W6 ∧ W6.heap[w.heap.size]? = some (.cells #[.int .i64 0, .int .i64 0, .int .u64 0] 24 (0, 0))) := ⟨below_step H5.out.1 (below_drawn hw), below_row (below_drawn hw) H5.out.2⟩; clear k0 k1 k2 hw; have hc0 := (Joins.cell_of_block H6.out.2 0).trans (show _ = some (Value.int .i64 0) from rfl); have hc1 := (Joins.cell_of_block H6.out.2 1).trans (show _ = some (Value.int .i64 0) from rfl); have hc2 := (Joins.cell_of_block H6.out.2 2).trans (show _ = some (Value.int .u64 0) from rfl); have hf := Joins.unfrozen_of_block H6.out.2)
    | (go_at_call 21; refine (rslot_calls T T2 hT0 HT2.out _).mono ?_; rintro e W7 ⟨rfl, hb⟩; have m0 := below_cell hb l0; have m1 := below_cell hb l1; have m2 := below_cell hb l2; have H7 : Hd (Below w.heap.size w W7 ∧ W7.heap[w.heap.size]? = some (.cells #[.int .i64 0, .int .i64 0, .int .u64 0] 24 (0, 0))) := ⟨below_step H6.out.1 hb, below_row hb H6.out.2⟩; clear hb hc0 hc1 hc2 hf l0 l1 l2; have hc0 := (Joins.cell_of_block H7.out.2 0).trans (show _ = some (Value.int .i64 0) from rfl); have hc1 := (Joins.cell_of_block H7.out.2 1).trans (show _ = some (Value.int .i64 0) from rfl); have hc2 := (Joins.cell_of_block H7.out.2 2).trans (show _ = some (Value.int .u64 0) from rfl); have hf := Joins.unfrozen_of_block H7.out.2)
    | fail)
  refine bodyPost_ret (v := .tuple #[.agg #[.int .i64 0, .int .i64 0, .int .u64 0], .int .i64 2]) (results_meta rfl _ _ w.heap.size _ _ _ _ rfl rfl (metaRow H7.out.2 _ _ _)) rfl ⟨rfl, ?_⟩
  exact below_meta H7.out.1 (Nat.le_refl _) _ _ _

set_option maxRecDepth 100000 in
set_option maxHeartbeats 1000000 in
theorem rdecode_ok (A : Option Addr) (nI c : Nat) (xs : List Int) (pages slot : Int) (w : World) (hr : RdB w A xs) (hxr : ∀ x, x ∈ xs → 0 ≤ x ∧ x ≤ 255) (hn : nI = 512) (hx : xs.length = 512) (hc : nI ≤ c) (hp : PagesM pages) (hs : slot = 0 ∨ slot = 1) (P R T : Int) (hP : num ((xs.drop 8).take 4) = P) (hR : num ((xs.drop 12).take 4) = R) (hT : num ((xs.drop 16).take 8) = T) (T2 : Int) (hT2 : T % 2 = T2) (hm : MayM P R) (hq : wr P R T = xs) (hpg : P = pages) (hsl : T2 = slot) :
    Calls Tryd.prog 26 #[.slice A nI c, .int .i64 pages, .int .i64 slot] w fun e w' => e = .returned (.tuple #[.agg #[.int .i64 P, .int .i64 R, .int .u64 T], .int .i64 0]) ∧ Below w.heap.size w w' := by
  subst hn
  have HX : Hd (xs.length = 512) := ⟨hx⟩
  have HR : Hd (RdB w A xs) := ⟨hr⟩
  have HC : Hd (512 ≤ c) := ⟨hc⟩
  have HG : Hd (∀ x, x ∈ xs → 0 ≤ x ∧ x ≤ 255) := ⟨hxr⟩
  have HPv : Hd (num ((xs.drop 8).take 4) = P) := ⟨hP⟩
  have HRv : Hd (num ((xs.drop 12).take 4) = R) := ⟨hR⟩
  have HTv : Hd (num ((xs.drop 16).take 8) = T) := ⟨hT⟩
  have HT2 : Hd (T % 2 = T2) := ⟨hT2⟩
  have hP0 : 0 ≤ P := hP ▸ (part_range xs hxr 8 4).1
  have hP1 : P ≤ 4294967295 := by have := (part_range xs hxr 8 4).2; rw [hP] at this; exact Int.le_of_lt_add_one this
  have hR0 : 0 ≤ R := hR ▸ (part_range xs hxr 12 4).1
  have hR1 : R ≤ 4294967295 := by have := (part_range xs hxr 12 4).2; rw [hR] at this; exact Int.le_of_lt_add_one this
  have hT0 : 0 ≤ T := hT ▸ (part_range xs hxr 16 8).1
  have HP : Hd (decide (PagesM pages) = true) := ⟨decide_eq_true hp⟩
  have hs0 : ¬ slot < 0 := by rcases hs with h | h <;> omega
  have hs1 : ¬ slot > 1 := by rcases hs with h | h <;> omega
  clear hp hs
  clear hx hr hxr hP hR hT hT2 hc
  subst hpg
  subst hsl
  have HM : Hd (MayM P R) := ⟨hm⟩
  have HQ : Hd (wr P R T = xs) := ⟨hq⟩
  clear hm hq
  go_enter Tryd.func26, Tryd.ntmps26
  go_wp2_with (first
    | (go_at_call 64; refine (rpages_calls P _ HP.out _).mono ?_; rintro e W1 ⟨rfl, hb⟩; have H1 : Hd (Below w.heap.size w W1 ∧ W1.heap[w.heap.size]? = some (.cells #[.int .i64 0, .int .i64 0, .int .u64 0] 24 (0, 0))) := ⟨box_below hb, box_row hb⟩; have hc0 := (Joins.cell_of_block H1.out.2 0).trans (show _ = some (Value.int .i64 0) from rfl); have hc1 := (Joins.cell_of_block H1.out.2 1).trans (show _ = some (Value.int .i64 0) from rfl); have hc2 := (Joins.cell_of_block H1.out.2 2).trans (show _ = some (Value.int .u64 0) from rfl); have hf := Joins.unfrozen_of_block H1.out.2; clear hb)
    | (go_at_call_of 65 (Value.int .i64 12); refine (rget_calls A c 512 xs 12 4 12 4 rfl rfl HX.out.symm _ (HR.out.below H2.out.1) HC.out HG.out (by rw [HX.out]; decide) (by rw [HX.out]; decide) (by decide) _ HRv.out).mono ?_; rintro e W3 ⟨rfl, hb⟩; have H3 : Hd (Below w.heap.size w W3 ∧ W3.heap[w.heap.size]? = some (.cells #[.int .i64 0, .int .i64 0, .int .u64 0] 24 (0, 0))) := ⟨below_step H2.out.1 hb, below_row hb H2.out.2⟩; clear hb)
    | (go_at_call_of 65 (Value.int .i64 16); refine (rget_calls A c 512 xs 16 8 16 8 rfl rfl HX.out.symm _ (HR.out.below H3.out.1) HC.out HG.out (by rw [HX.out]; decide) (by rw [HX.out]; decide) (by decide) _ HTv.out).mono ?_; rintro e W4 ⟨rfl, hb⟩; have H4 : Hd (Below w.heap.size w W4 ∧ W4.heap[w.heap.size]? = some (.cells #[.int .i64 0, .int .i64 0, .int .u64 0] 24 (0, 0))) := ⟨below_step H3.out.1 hb, below_row hb H3.out.2⟩; clear hb)
    | (go_at_call_of 65 (Value.int .i64 8); refine (rget_calls A c 512 xs 8 4 8 4 rfl rfl HX.out.symm _ (HR.out.below H1.out.1) HC.out HG.out (by rw [HX.out]; decide) (by rw [HX.out]; decide) (by decide) _ HPv.out).mono ?_; rintro e W2 ⟨rfl, hb⟩; have H2 : Hd (Below w.heap.size w W2 ∧ W2.heap[w.heap.size]? = some (.cells #[.int .i64 0, .int .i64 0, .int .u64 0] 24 (0, 0))) := ⟨below_step H1.out.1 hb, below_row hb H1.out.2⟩; clear hb)
    | (go_at_call 17; refine (rencode_ok P R T _ HM.out).mono ?_; rintro e W5 ⟨v5, rfl, ho, hb⟩; have k0 := box_cell hb 0 _ rfl; have k1 := box_cell hb 1 _ rfl; have k2 := box_cell hb 2 _ rfl; have H5 : Hd (Below w.heap.size w W5 ∧ W5.heap[w.heap.size]? = some (.cells #[.int .i64 0, .int .i64 0, .int .u64 0] 24 (0, 0))) := ⟨below_step H4.out.1 (box_below hb), below_row (box_below hb) H4.out.2⟩; obtain ⟨A5, c5, rfl, hcc, hrd⟩ := ho.form; have HO : Hd ((wr P R T).length ≤ c5 ∧ RdB W5 A5 (wr P R T)) := ⟨hcc, hrd⟩; clear ho hb hcc hrd)
    | (go_at_call 18; refine (same_calls _ _ _ _ _ _ xs (wr P R T) true (decide_eq_true HQ.out.symm) HX.out.symm (wr_length P R T).symm _ (HR.out.below H5.out.1) HO.out.2 HC.out HO.out.1 (by rw [HX.out]; omega) (by rw [wr_length]; omega)).mono ?_; rintro e W6 ⟨rfl, hw⟩; have l0 := below_cell (below_drawn hw) k0; have l1 := below_cell (below_drawn hw) k1; have l2 := below_cell (below_drawn hw) k2; have H6 : Hd (Below w.heap.size w W6 ∧ W6.heap[w.heap.size]? = some (.cells #[.int .i64 0, .int .i64 0, .int .u64 0] 24 (0, 0))) := ⟨below_step H5.out.1 (below_drawn hw), below_row (below_drawn hw) H5.out.2⟩; clear k0 k1 k2 hw; have hc0 := (Joins.cell_of_block H6.out.2 0).trans (show _ = some (Value.int .i64 0) from rfl); have hc1 := (Joins.cell_of_block H6.out.2 1).trans (show _ = some (Value.int .i64 0) from rfl); have hc2 := (Joins.cell_of_block H6.out.2 2).trans (show _ = some (Value.int .u64 0) from rfl); have hf := Joins.unfrozen_of_block H6.out.2)
    | (go_at_call 21; refine (rslot_calls T T2 hT0 HT2.out _).mono ?_; rintro e W7 ⟨rfl, hb⟩; have m0 := below_cell hb l0; have m1 := below_cell hb l1; have m2 := below_cell hb l2; have H7 : Hd (Below w.heap.size w W7 ∧ W7.heap[w.heap.size]? = some (.cells #[.int .i64 0, .int .i64 0, .int .u64 0] 24 (0, 0))) := ⟨below_step H6.out.1 hb, below_row hb H6.out.2⟩; clear hb hc0 hc1 hc2 hf l0 l1 l2; have hc0 := (Joins.cell_of_block H7.out.2 0).trans (show _ = some (Value.int .i64 0) from rfl); have hc1 := (Joins.cell_of_block H7.out.2 1).trans (show _ = some (Value.int .i64 0) from rfl); have hc2 := (Joins.cell_of_block H7.out.2 2).trans (show _ = some (Value.int .u64 0) from rfl); have hf := Joins.unfrozen_of_block H7.out.2)
    | fail)
  refine bodyPost_ret (v := .tuple #[.agg #[.int .i64 P, .int .i64 R, .int .u64 T], .int .i64 0]) (results_meta rfl _ _ w.heap.size _ _ _ _ rfl rfl (metaRow H7.out.2 _ _ _)) rfl ⟨rfl, ?_⟩
  exact below_meta H7.out.1 (Nat.le_refl _) _ _ _

end Go.Proofs.YtoenacghkpgnpaaDoor.D
