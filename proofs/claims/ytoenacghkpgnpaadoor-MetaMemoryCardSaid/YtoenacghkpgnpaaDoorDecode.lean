/- meta.Decode: what it answers, for every bytes. -/
import Derived.Test.YtoenacghkpgnpaaDoorEqs
import Derived.Test.YtoenacghkpgnpaaDoorRef1
import Derived.Deep.RegionHeld3
import Derived.Lib.SmallJoins
import Derived.Laws.ResultCell
import Derived.Laws.Rows
namespace Go.Proofs.YtoenacghkpgnpaaDoor.D
open Go.RowKit Go.Proofs.YtoenacghkpgnpaaDoor.K Go.Proofs.YtoenacghkpgnpaaDoor.E Go.Proofs.YtoenacghkpgnpaaDoor.P1 Go.Proofs.YtoenacghkpgnpaaDoor.Codec Go.Proofs.YtoenacghkpgnpaaDoor.Meta Go.Proofs.YtoenacghkpgnpaaDoor.Q

theorem metaSize : (Tryd.prog.info? 24).map (·.size) = some 3 := by kernel_rfl
theorem results_meta {fn : Func} {p u : Tmp} (h : fn.results = #[.cell p 24, .tmp u]) (tmps : Array Value) (w : World) (g : Nat) (a b c : Value) (y : Value)
    (hp : tmps.getD p undef = .pointer (some ⟨g, 0, none⟩)) (hy : tmps.getD u undef = y) (hg : w.heap[g]? = some (.cells #[a, b, c] 24 (0, 0))) :
    (results fn tmps).run Tryd.prog w = .ok (.tuple #[.agg #[a, b, c], y]) w := by
  rw [results_cell_tmp h, hp, hy]
  simp only [asAddr, Sem.run_pure, Result.andThen_ok, run_loadVar_row w g 24 24 #[a, b, c] (0, 0) _ hg Tryd.underlying24 rfl metaSize]
theorem metaRow {w : World} {g : Nat} {a b c : Value} (h : w.heap[g]? = some (.cells #[a, b, c] 24 (0, 0))) (x y z : Value) :
    (((w.setCell ⟨g, 0, none⟩ x).setCell ⟨g, 1, none⟩ y).setCell ⟨g, 2, none⟩ z).heap[g]? = some (.cells #[x, y, z] 24 (0, 0)) :=
  Joins.block_setCell (Joins.block_setCell (Joins.block_setCell h x) y) z
theorem below_meta {w W : World} (h : Below w.heap.size w W) {g : Nat} (hg : w.heap.size ≤ g) (x y z : Value) : Below w.heap.size w (((W.setCell ⟨g, 0, none⟩ x).setCell ⟨g, 1, none⟩ y).setCell ⟨g, 2, none⟩ z) :=
  below_set (below_set (below_set h hg _) hg _) hg _
def PagesM (p : Int) : Prop := 4 ≤ p ∧ p ≤ 1048576
instance (p : Int) : Decidable (PagesM p) := by unfold PagesM; exact inferInstance
theorem pages_calls (p : Int) (b : Bool) (hb : decide (PagesM p) = b) (w : World) : Calls Tryd.prog 62 #[.int .i64 p] w fun e w' => e = .returned (.bool b) ∧ Below w.heap.size w w' := by
  subst hb
  refine (Ref.meta_pagesMay.calls p (decide (PagesM p)) w ?_).mono fun e w' ⟨h, hw⟩ => ⟨h, below_drawn hw.out⟩
  unfold Ref.meta_pagesMay.f PagesM
  by_cases h1 : p ≥ 4
  · simp [h1]
  · simp [h1]

set_option maxRecDepth 100000 in
set_option maxHeartbeats 400000 in
theorem decode_pages (A : Option Addr) (nI c : Nat) (pages slot : Int) (w : World) (v : Value) (hE : w.cell? ⟨0, 0, none⟩ = some v) (hp : ¬ PagesM pages) :
    Calls Tryd.prog 25 #[.slice A nI c, .int .i64 pages, .int .i64 slot] w fun e w' => e = .returned (.tuple #[.agg #[.int .i64 0, .int .i64 0, .int .u64 0], v]) ∧ Below w.heap.size w w' := by
  have HP : Hd (decide (PagesM pages) = false) := ⟨decide_eq_false hp⟩
  clear hp
  have hlt : 0 < w.heap.size := World.block_lt_of_cell? w _ hE
  have hne : 0 ≠ w.heap.size := Nat.ne_of_lt hlt
  go_enter Tryd.func25, Tryd.ntmps25
  go_wp2_with (first
    | (go_at_call 62; refine (pages_calls pages _ HP.out _).mono ?_; rintro e W1 ⟨rfl, hb⟩; have hE1 := below_cell hb (below_cell (below_alloc (Below.refl _ _) _) hE); have H1 : Hd (Below w.heap.size w W1 ∧ W1.heap[w.heap.size]? = some (.cells #[.int .i64 0, .int .i64 0, .int .u64 0] 24 (0, 0))) := ⟨box_below hb, box_row hb⟩; have hc0 := box_cell hb 0 _ rfl; have hc1 := box_cell hb 1 _ rfl; have hc2 := box_cell hb 2 _ rfl; have hf := Joins.unfrozen_of_block H1.out.2; clear hb)
    | fail)
  go_region
  go_wp2
  refine bodyPost_ret (v := .tuple #[.agg #[.int .i64 0, .int .i64 0, .int .u64 0], v]) (results_meta rfl _ _ w.heap.size _ _ _ _ rfl rfl (metaRow H1.out.2 _ _ _)) rfl ⟨rfl, ?_⟩
  exact below_drewN (below_meta H1.out.1 (Nat.le_refl _) _ _ _) 1
set_option maxRecDepth 100000 in
set_option maxHeartbeats 400000 in
theorem decode_slot (A : Option Addr) (nI c : Nat) (pages slot : Int) (w : World) (v : Value) (hE : w.cell? ⟨0, 0, none⟩ = some v) (hp : PagesM pages) (hs0 : ¬ slot = 0) (hs1 : ¬ slot = 1) :
    Calls Tryd.prog 25 #[.slice A nI c, .int .i64 pages, .int .i64 slot] w fun e w' => e = .returned (.tuple #[.agg #[.int .i64 0, .int .i64 0, .int .u64 0], v]) ∧ Below w.heap.size w w' := by
  have HP : Hd (decide (PagesM pages) = true) := ⟨decide_eq_true hp⟩
  have hb0 : (slot != 0) = true := by simp [hs0]
  have hb1 : (slot != 1) = true := by simp [hs1]
  clear hp
  have hlt : 0 < w.heap.size := World.block_lt_of_cell? w _ hE
  have hne : 0 ≠ w.heap.size := Nat.ne_of_lt hlt
  go_enter Tryd.func25, Tryd.ntmps25
  go_wp2_with (first
    | (go_at_call 62; refine (pages_calls pages _ HP.out _).mono ?_; rintro e W1 ⟨rfl, hb⟩; have hE1 := below_cell hb (below_cell (below_alloc (Below.refl _ _) _) hE); have H1 : Hd (Below w.heap.size w W1 ∧ W1.heap[w.heap.size]? = some (.cells #[.int .i64 0, .int .i64 0, .int .u64 0] 24 (0, 0))) := ⟨box_below hb, box_row hb⟩; have hc0 := box_cell hb 0 _ rfl; have hc1 := box_cell hb 1 _ rfl; have hc2 := box_cell hb 2 _ rfl; have hf := Joins.unfrozen_of_block H1.out.2; clear hb)
    | fail)
  go_region
  go_wp2
  refine bodyPost_ret (v := .tuple #[.agg #[.int .i64 0, .int .i64 0, .int .u64 0], v]) (results_meta rfl _ _ w.heap.size _ _ _ _ rfl rfl (metaRow H1.out.2 _ _ _)) rfl ⟨rfl, ?_⟩
  exact below_drewN (below_meta H1.out.1 (Nat.le_refl _) _ _ _) 1

set_option maxRecDepth 100000 in
set_option maxHeartbeats 400000 in
theorem decode_len (A : Option Addr) (nI c : Nat) (pages slot : Int) (w : World) (v : Value) (hE : w.cell? ⟨1, 0, none⟩ = some v) (hp : PagesM pages) (hs : slot = 0 ∨ slot = 1) (hn : ¬ (nI : Int) = 512) :
    Calls Tryd.prog 25 #[.slice A nI c, .int .i64 pages, .int .i64 slot] w fun e w' => e = .returned (.tuple #[.agg #[.int .i64 0, .int .i64 0, .int .u64 0], v]) ∧ Below w.heap.size w w' := by
  have HP : Hd (decide (PagesM pages) = true) := ⟨decide_eq_true hp⟩
  clear hp
  have hlt : 1 < w.heap.size := World.block_lt_of_cell? w _ hE
  have hne : 1 ≠ w.heap.size := Nat.ne_of_lt hlt
  rcases hs with rfl | rfl
  all_goals
    go_enter Tryd.func25, Tryd.ntmps25
    go_wp2_with (first
      | (go_at_call 62; refine (pages_calls pages _ HP.out _).mono ?_; rintro e W1 ⟨rfl, hb⟩; have hE1 := below_cell hb (below_cell (below_alloc (Below.refl _ _) _) hE); have H1 : Hd (Below w.heap.size w W1 ∧ W1.heap[w.heap.size]? = some (.cells #[.int .i64 0, .int .i64 0, .int .u64 0] 24 (0, 0))) := ⟨box_below hb, box_row hb⟩; have hc0 := box_cell hb 0 _ rfl; have hc1 := box_cell hb 1 _ rfl; have hc2 := box_cell hb 2 _ rfl; have hf := Joins.unfrozen_of_block H1.out.2; clear hb)
      | fail)
    go_region
    go_wp2
    refine bodyPost_ret (v := .tuple #[.agg #[.int .i64 0, .int .i64 0, .int .u64 0], v]) (results_meta rfl _ _ w.heap.size _ _ _ _ rfl rfl (metaRow H1.out.2 _ _ _)) rfl ⟨rfl, ?_⟩
    exact below_drewN (below_meta H1.out.1 (Nat.le_refl _) _ _ _) 1

theorem slot_calls (t S : Int) (ht0 : 0 ≤ t) (hS : t % 2 = S) (w : World) : Calls Tryd.prog 20 #[.int .u64 t] w fun e w' => e = .returned (.int .i64 S) ∧ Below w.heap.size w w' :=
  (Ref.meta_Slot.calls t _ w rfl).mono fun e w' ⟨h, hw⟩ => ⟨by rw [h]; have : wrap64 (Int.tmod t 2) = S := by rw [Int.tmod_eq_emod_of_nonneg ht0]; unfold wrap64; omega
                                                               rw [this], below_drawn hw.out⟩
theorem mayb_calls (p r t : Int) (b : Bool) (hb : decide (MayM p r) = b) (w : World) : Calls Tryd.prog 49 #[.agg #[.int .i64 p, .int .i64 r, .int .u64 t]] w fun e w' => e = .returned (.bool b) ∧ Below w.heap.size w w' := hb ▸ may_calls p r t w
theorem writtenX_calls (p r t : Int) (X : Array Value) (hX : u8s (wr p r t) = X) (w : World) (hs : TabOk w) (hm : MayM p r) (ht : 0 ≤ t ∧ t < 18446744073709551616) :
    Calls Tryd.prog 50 #[.agg #[.int .i64 p, .int .i64 r, .int .u64 t]] w fun e w' => e = .returned (.agg X) ∧ Below w.heap.size w w' :=
  hX ▸ written_calls p r t w hs (by unfold MayM at hm; omega) (by unfold MayM at hm; omega) (by unfold MayM at hm; omega) (by unfold MayM at hm; omega) ht.1 ht.2

/-- What stays true of the world while the last test of Decode runs. -/
theorem keepS {w W W' : World} {g8 g9 : Nat} {a b c : Value} {L : List Value} (h : W.cell? ⟨g9, 0, none⟩ = some a ∧ W.cell? ⟨g9, 1, none⟩ = some b ∧ W.cell? ⟨g9, 2, none⟩ = some c ∧ W.rangeAt g8 0 L ∧
      Hd (Below w.heap.size w W ∧ W.heap[w.heap.size]? = some (.cells #[.int .i64 0, .int .i64 0, .int .u64 0] 24 (0, 0)))) (hb : Below W.heap.size W W') :
    W'.cell? ⟨g9, 0, none⟩ = some a ∧ W'.cell? ⟨g9, 1, none⟩ = some b ∧ W'.cell? ⟨g9, 2, none⟩ = some c ∧ W'.rangeAt g8 0 L ∧
      Hd (Below w.heap.size w W' ∧ W'.heap[w.heap.size]? = some (.cells #[.int .i64 0, .int .i64 0, .int .u64 0] 24 (0, 0))) :=
  ⟨below_cell hb h.1, below_cell hb h.2.1, below_cell hb h.2.2.1, fun j v hj => below_cell hb (h.2.2.2.1 j v hj), ⟨below_step h.2.2.2.2.out.1 hb, below_row hb h.2.2.2.2.out.2⟩⟩

theorem below_undrew {w w' : World} (h : Below w.drew.heap.size w.drew w') : Below w.heap.size w w' := ⟨h.os, h.tape, h.output, h.size, h.block⟩
theorem slotw (t S : Int) (ht0 : 0 ≤ t) (hS : t % 2 = S) : wrap64 (Int.tmod t 2) = S := by rw [Int.tmod_eq_emod_of_nonneg ht0]; unfold wrap64; omega
theorem slotq (t S : Int) (ht0 : 0 ≤ t) (hS : t % 2 = S) (w : World) (n : Nat) : Calls Tryd.prog 20 #[.int .u64 t] (w.drewN n) fun e w'' => e = .returned (.int .i64 S) ∧ ∃ m, w'' = w.drewN m :=
  Calls.quiet_of ((Ref.meta_Slot.calls t _ (w.drewN n) rfl).mono fun _ _ ⟨a, b⟩ => ⟨by rw [a, slotw t S ht0 hS], b.out⟩)
theorem belowS {w W : World} {g8 g9 : Nat} {a b c : Value} {L : List Value} (h : W.cell? ⟨g9, 0, none⟩ = some a ∧ W.cell? ⟨g9, 1, none⟩ = some b ∧ W.cell? ⟨g9, 2, none⟩ = some c ∧ W.rangeAt g8 0 L ∧
      Hd (Below w.heap.size w W ∧ W.heap[w.heap.size]? = some (.cells #[.int .i64 0, .int .i64 0, .int .u64 0] 24 (0, 0)))) : Below w.heap.size w W := h.2.2.2.2.out.1
/-- What Decode asks of a slot's bytes. -/
def OkD (xs : List Int) (pages slot : Int) : Prop :=
  num ((xs.drop 8).take 4) = pages ∧ num ((xs.drop 16).take 8) % 2 = slot ∧ MayM (num ((xs.drop 8).take 4)) (num ((xs.drop 12).take 4)) ∧ wr (num ((xs.drop 8).take 4)) (num ((xs.drop 12).take 4)) (num ((xs.drop 16).take 8)) = xs
instance (xs : List Int) (pages slot : Int) : Decidable (OkD xs pages slot) := by unfold OkD; exact inferInstance
theorem part_range (xs : List Int) (hxr : ∀ x, x ∈ xs → 0 ≤ x ∧ x ≤ 255) (o k : Nat) : 0 ≤ num ((xs.drop o).take k) ∧ num ((xs.drop o).take k) < 256 ^ k := by
  have h := num_range ((xs.drop o).take k) (fun x hx => hxr x (List.mem_of_mem_drop (List.mem_of_mem_take hx)))
  refine ⟨h.1, Int.lt_of_lt_of_le h.2 (pow256_le _ _ ?_)⟩
  rw [List.length_take]; omega

set_option maxRecDepth 100000 in
set_option maxHeartbeats 4000000 in
theorem decode_full (A : Option Addr) (nI c : Nat) (xs : List Int) (pages slot : Int) (w : World) (v : Value) (hE : w.cell? ⟨1, 0, none⟩ = some v) (hs : TabOk w) (hr : RdB w A xs) (hxr : ∀ x, x ∈ xs → 0 ≤ x ∧ x ≤ 255)
    (hn : nI = 512) (hx : xs.length = 512) (hp : PagesM pages) (hsl : slot = 0 ∨ slot = 1) (P R T : Int) (hP : num ((xs.drop 8).take 4) = P) (hR : num ((xs.drop 12).take 4) = R) (hT : num ((xs.drop 16).take 8) = T) (b : Bool) (hb : decide (OkD xs pages slot) = b) :
    Calls Tryd.prog 25 #[.slice A nI c, .int .i64 pages, .int .i64 slot] w fun e w' => e = .returned (bif b then .tuple #[.agg #[.int .i64 P, .int .i64 R, .int .u64 T], .nilIface] else .tuple #[.agg #[.int .i64 0, .int .i64 0, .int .u64 0], v]) ∧ Below w.heap.size w w' := by
  subst hn
  have HP : Hd (decide (PagesM pages) = true) := ⟨decide_eq_true hp⟩
  have HX : Hd (xs.length = 512) := ⟨hx⟩
  have HR : Hd (RdB w A xs) := ⟨hr⟩
  have HG : Hd (∀ x, x ∈ xs → 0 ≤ x ∧ x ≤ 255) := ⟨hxr⟩
  have HS : Hd (TabOk w) := ⟨hs⟩
  have HE : Hd (w.cell? ⟨1, 0, none⟩ = some v) := ⟨hE⟩
  have HPv : Hd (num ((xs.drop 8).take 4) = P) := ⟨hP⟩
  have HRv : Hd (num ((xs.drop 12).take 4) = R) := ⟨hR⟩
  have HTv : Hd (num ((xs.drop 16).take 8) = T) := ⟨hT⟩
  have HB : Hd (decide (OkD xs pages slot) = b) := ⟨hb⟩
  have hP0 : 0 ≤ P := hP ▸ (part_range xs hxr 8 4).1
  have hP1 : P ≤ 4294967295 := by have := (part_range xs hxr 8 4).2; rw [hP] at this; exact Int.le_of_lt_add_one this
  have hR0 : 0 ≤ R := hR ▸ (part_range xs hxr 12 4).1
  have hR1 : R ≤ 4294967295 := by have := (part_range xs hxr 12 4).2; rw [hR] at this; exact Int.le_of_lt_add_one this
  have hT0 : 0 ≤ T := hT ▸ (part_range xs hxr 16 8).1
  have HT1 : Hd (T < 18446744073709551616) := ⟨by have := (part_range xs hxr 16 8).2; rw [hT] at this; exact this⟩
  have hlt : 1 < w.heap.size := World.block_lt_of_cell? w _ hE
  have hne : 1 ≠ w.heap.size := Nat.ne_of_lt hlt
  have hz := zeroSector
  clear hp hx hr hxr hs hE hP hR hT hb
  have hu99 := Tryd.underlying99
  rcases hsl with rfl | rfl
  · go_enter Tryd.func25, Tryd.ntmps25
    go_upto_region 8 with (first
      | (go_at_call 62; refine (pages_calls pages _ HP.out _).mono ?_; rintro e W1 ⟨rfl, hb⟩; have H1 : Hd (Below w.heap.size w W1 ∧ W1.heap[w.heap.size]? = some (.cells #[.int .i64 0, .int .i64 0, .int .u64 0] 24 (0, 0))) := ⟨box_below hb, box_row hb⟩; clear hb)
      | ((with_reducible refine gD (N := 30) rfl ?_); refine wpList_cpW rfl (.tmp 28) (.tmp 29) 25 25 rfl 5 Tryd.underlying25 u8size _ _ _ _ _ _ _ rfl rfl (zs 512) 99 (row_alloc_at _ _ _ rfl) xs (by rw [HX.out]; rfl) ((HR.out.below H1.out.1).below (below_alloc (Below.refl _ _) _)) (by rw [HX.out, zs_length]; omega) ?_; intro W2 hr2 ht2; have H2 : Hd (Below W1.heap.size W1 W2 ∧ W2.heap[W1.heap.size]? = some (.cells (u8s xs) 99 (0, 0))) := ⟨below_tch (below_alloc (Below.refl _ _) _) ht2 (fun i hi => by omega), by have e : splice (zs 512) 0 xs = xs := splice_whole 512 _ HX.out; rw [← e]; exact hr2.out⟩; clear hr2 ht2)
      | (go_at_call_of 63 (Value.int .i64 12); refine (sget_calls _ xs 12 4 12 4 rfl rfl _ H2.out.2 HX.out HG.out (by decide) (by decide) (by decide)).mono ?_; rintro e W3 ⟨rfl, rfl⟩; rw [HRv.out])
      | (go_at_call_of 63 (Value.int .i64 16); refine (sget_calls _ xs 16 8 16 8 rfl rfl _ H2.out.2 HX.out HG.out (by decide) (by decide) (by decide)).mono ?_; rintro e W3 ⟨rfl, rfl⟩; rw [HTv.out])
      | (go_at_call_of 63 (Value.int .i64 8); refine (sget_calls _ xs 8 4 8 4 rfl rfl _ H2.out.2 HX.out HG.out (by decide) (by decide) (by decide)).mono ?_; rintro e W3 ⟨rfl, rfl⟩; rw [HPv.out])
      | fail)
    obtain ⟨L, hL⟩ : ∃ L, (u8s xs).toList = L := ⟨_, rfl⟩
    have HL : Hd ((u8s xs).toList = L) := ⟨hL⟩
    have hS0 : Hd ((W2.alloc (.cells #[.int .i64 P, .int .i64 R, .int .u64 T] 24)).cell? ⟨W2.heap.size, 0, none⟩ = some (.int .i64 P) ∧ (W2.alloc (.cells #[.int .i64 P, .int .i64 R, .int .u64 T] 24)).cell? ⟨W2.heap.size, 1, none⟩ = some (.int .i64 R) ∧ (W2.alloc (.cells #[.int .i64 P, .int .i64 R, .int .u64 T] 24)).cell? ⟨W2.heap.size, 2, none⟩ = some (.int .u64 T) ∧ (W2.alloc (.cells #[.int .i64 P, .int .i64 R, .int .u64 T] 24)).rangeAt W1.heap.size 0 L ∧ Hd (Below w.heap.size w (W2.alloc (.cells #[.int .i64 P, .int .i64 R, .int .u64 T] 24)) ∧ (W2.alloc (.cells #[.int .i64 P, .int .i64 R, .int .u64 T] 24)).heap[w.heap.size]? = some (.cells #[.int .i64 0, .int .i64 0, .int .u64 0] 24 (0, 0)))) := by
      have hb2 : Below W2.heap.size W2 (W2.alloc (.cells #[.int .i64 P, .int .i64 R, .int .u64 T] 24)) := below_alloc (Below.refl _ _) _
      have hb1 := below_step H2.out.1 hb2
      refine ⟨(World.cell?_alloc_mark W2 _ _ _ 0).trans rfl, (World.cell?_alloc_mark W2 _ _ _ 1).trans rfl, (World.cell?_alloc_mark W2 _ _ _ 2).trans rfl, ?_, ⟨below_step H1.out.1 hb1, below_row hb1 H1.out.2⟩⟩
      have hrow := below_row hb2 H2.out.2
      intro j v hv
      rw [Joins.cell_of_block hrow, ← HL.out] at *
      simpa using hv
    clear hL
    generalize (W2.alloc (.cells #[.int .i64 P, .int .i64 R, .int .u64 T] 24)) = W3 at hS0 ⊢
    have hi99 : (Tryd.prog.info? 99).map (·.size) = some L.length := by rw [← HL.out, Array.length_toList, u8s_size, HX.out]; exact sectorSize
    obtain ⟨T2, hT2⟩ : ∃ T2, T % 2 = T2 := ⟨_, rfl⟩
    have HT2 : Hd (T % 2 = T2) := ⟨hT2⟩
    clear hT2
    by_cases c1 : P = pages
    · have q1 : (P != pages) = false := by simp [c1]
      have C1 : Hd (P = pages) := ⟨c1⟩
      clear c1
      by_cases c2 : T2 = 0
      · have q2 : (T2 != 0) = false := by simp [c2]
        have C2 : Hd (T2 = 0) := ⟨c2⟩
        clear c2
        by_cases c3 : MayM P R
        · have HMb : Hd (decide (MayM P R) = true) := ⟨decide_eq_true c3⟩
          have HM : Hd (MayM P R) := ⟨c3⟩
          clear c3
          obtain ⟨X, hX⟩ : ∃ X, u8s (wr P R T) = X := ⟨_, rfl⟩
          have HXv : Hd (u8s (wr P R T) = X) := ⟨hX⟩
          clear hX
          by_cases c4 : wr P R T = xs
          · have hq : ∀ w, (binOp .neq 99 (.agg X) (.agg L.toArray)).run Tryd.prog w = .ok (.bool false) w := fun w => by
              rw [← HL.out, ← HXv.out]
              exact neq_arr (wr P R T) xs (wr_length P R T) HX.out false (by simp [c4]) w
            have C4 : Hd (wr P R T = xs) := ⟨c4⟩
            clear c4
            have HF : Hd (b = true) := ⟨by rw [← HB.out]; exact decide_eq_true ⟨by rw [HPv.out]; exact C1.out, by rw [HTv.out, HT2.out]; exact C2.out, by rw [HPv.out, HRv.out]; exact HM.out, by rw [HPv.out, HRv.out, HTv.out]; exact C4.out⟩⟩
            first | (go_region_held3 (fun w' => w'.cell? ⟨W2.heap.size, 0, none⟩ = some (.int .i64 P) ∧ w'.cell? ⟨W2.heap.size, 1, none⟩ = some (.int .i64 R) ∧ w'.cell? ⟨W2.heap.size, 2, none⟩ = some (.int .u64 T) ∧ w'.rangeAt W1.heap.size 0 L ∧ Hd (Below w.heap.size w w' ∧ w'.heap[w.heap.size]? = some (.cells #[.int .i64 0, .int .i64 0, .int .u64 0] 24 (0, 0)))) (first | exact keepS hS0.out (below_drewN (Below.refl _ _) 1) | exact keepS (by assumption) (by assumption) | exact keepS (by assumption) (Below.refl _ _)) (first | (go_at_call 20; refine (slot_calls T T2 hT0 HT2.out _).mono ?_; rintro e W' ⟨rfl, hb'⟩) | (go_at_call 49; refine (mayb_calls P R T _ HMb.out _).mono ?_; rintro e W' ⟨rfl, hb'⟩) | (go_at_call 50; refine (writtenX_calls P R T X HXv.out _ (HS.out.below (belowS (by assumption))) HM.out ⟨hT0, HT1.out⟩).mono ?_; rintro e W' ⟨rfl, hb'⟩))) | fail
            rename_i hSF
            obtain ⟨k0, k1, k2, -, hK⟩ := hSF
            have hc0 := (Joins.cell_of_block hK.out.2 0).trans (show _ = some (Value.int .i64 0) from rfl)
            have hc1 := (Joins.cell_of_block hK.out.2 1).trans (show _ = some (Value.int .i64 0) from rfl)
            have hc2 := (Joins.cell_of_block hK.out.2 2).trans (show _ = some (Value.int .u64 0) from rfl)
            have hf := Joins.unfrozen_of_block hK.out.2
            go_wp2_with (fail)
            refine bodyPost_ret (v := .tuple #[.agg #[.int .i64 P, .int .i64 R, .int .u64 T], .nilIface]) (results_meta rfl _ _ w.heap.size _ _ _ _ rfl rfl (metaRow hK.out.2 _ _ _)) rfl ⟨by rw [HF.out]; rfl, ?_⟩
            exact below_meta hK.out.1 (Nat.le_refl _) _ _ _
          · have hq : ∀ w, (binOp .neq 99 (.agg X) (.agg L.toArray)).run Tryd.prog w = .ok (.bool true) w := fun w => by
              rw [← HL.out, ← HXv.out]
              exact neq_arr (wr P R T) xs (wr_length P R T) HX.out true (by simp [c4]) w
            have C4 : Hd (¬ wr P R T = xs) := ⟨c4⟩
            clear c4
            have HF : Hd (b = false) := ⟨by rw [← HB.out]; exact decide_eq_false (fun h => C4.out (by have := h.2.2.2; rwa [HPv.out, HRv.out, HTv.out] at this))⟩
            first | (go_region_held3 (fun w' => w'.cell? ⟨W2.heap.size, 0, none⟩ = some (.int .i64 P) ∧ w'.cell? ⟨W2.heap.size, 1, none⟩ = some (.int .i64 R) ∧ w'.cell? ⟨W2.heap.size, 2, none⟩ = some (.int .u64 T) ∧ w'.rangeAt W1.heap.size 0 L ∧ Hd (Below w.heap.size w w' ∧ w'.heap[w.heap.size]? = some (.cells #[.int .i64 0, .int .i64 0, .int .u64 0] 24 (0, 0)))) (first | exact keepS hS0.out (below_drewN (Below.refl _ _) 1) | exact keepS (by assumption) (by assumption) | exact keepS (by assumption) (Below.refl _ _)) (first | (go_at_call 20; refine (slot_calls T T2 hT0 HT2.out _).mono ?_; rintro e W' ⟨rfl, hb'⟩) | (go_at_call 49; refine (mayb_calls P R T _ HMb.out _).mono ?_; rintro e W' ⟨rfl, hb'⟩) | (go_at_call 50; refine (writtenX_calls P R T X HXv.out _ (HS.out.below (belowS (by assumption))) HM.out ⟨hT0, HT1.out⟩).mono ?_; rintro e W' ⟨rfl, hb'⟩))) | fail
            rename_i hSF
            obtain ⟨-, -, -, -, hK⟩ := hSF
            go_upto_region 9 with (fail)
            have hE3 := below_cell hK.out.1 HE.out
            have hc0 := (Joins.cell_of_block hK.out.2 0).trans (show _ = some (Value.int .i64 0) from rfl)
            have hc1 := (Joins.cell_of_block hK.out.2 1).trans (show _ = some (Value.int .i64 0) from rfl)
            have hc2 := (Joins.cell_of_block hK.out.2 2).trans (show _ = some (Value.int .u64 0) from rfl)
            have hf := Joins.unfrozen_of_block hK.out.2
            go_region
            all_goals
              (try go_wp2)
              refine bodyPost_ret (v := .tuple #[.agg #[.int .i64 0, .int .i64 0, .int .u64 0], v]) (results_meta rfl _ _ w.heap.size _ _ _ _ rfl rfl (metaRow hK.out.2 _ _ _)) rfl ⟨by rw [HF.out]; rfl, ?_⟩
              exact below_drewN (below_meta hK.out.1 (Nat.le_refl _) _ _ _) 1
        · have HMb : Hd (decide (MayM P R) = false) := ⟨decide_eq_false c3⟩
          have HM : Hd (¬ MayM P R) := ⟨c3⟩
          clear c3
          have HF : Hd (b = false) := ⟨by rw [← HB.out]; exact decide_eq_false (fun h => HM.out (by have := h.2.2.1; rwa [HPv.out, HRv.out] at this))⟩
          obtain ⟨k0, k1, k2, -, -⟩ := hS0.out
          go_region_with (first | (go_at_call 20; refine (slot_calls T T2 hT0 HT2.out _).mono ?_; rintro e Wa ⟨rfl, hba⟩; have hSa : Hd _ := ⟨keepS hS0.out (below_undrew hba)⟩; obtain ⟨l0, l1, l2, -, -⟩ := hSa.out; clear hba) | (go_at_call 49; refine (mayb_calls P R T _ HMb.out _).mono ?_; rintro e Wb ⟨rfl, hbb⟩; have hSb : Hd _ := ⟨keepS hSa.out hbb⟩; clear hbb l0 l1 l2) | fail)
          all_goals
            obtain ⟨-, -, -, -, hK⟩ := hSb.out
            clear k0 k1 k2
            go_upto_region 9 with (fail)
            have hE3 := below_cell hK.out.1 HE.out
            have hc0 := (Joins.cell_of_block hK.out.2 0).trans (show _ = some (Value.int .i64 0) from rfl)
            have hc1 := (Joins.cell_of_block hK.out.2 1).trans (show _ = some (Value.int .i64 0) from rfl)
            have hc2 := (Joins.cell_of_block hK.out.2 2).trans (show _ = some (Value.int .u64 0) from rfl)
            have hf := Joins.unfrozen_of_block hK.out.2
            go_region
            all_goals
              (try go_wp2)
              refine bodyPost_ret (v := .tuple #[.agg #[.int .i64 0, .int .i64 0, .int .u64 0], v]) (results_meta rfl _ _ w.heap.size _ _ _ _ rfl rfl (metaRow hK.out.2 _ _ _)) rfl ⟨by rw [HF.out]; rfl, ?_⟩
              exact below_drewN (below_meta hK.out.1 (Nat.le_refl _) _ _ _) 1
      · have q2 : (T2 != 0) = true := by simp [c2]
        have C2 : Hd (¬ T2 = 0) := ⟨c2⟩
        clear c2
        have HF : Hd (b = false) := ⟨by rw [← HB.out]; exact decide_eq_false (fun h => C2.out (by have := h.2.1; rwa [HTv.out, HT2.out] at this))⟩
        obtain ⟨k0, k1, k2, -, -⟩ := hS0.out
        go_quiet (first | (go_at_call 20; exact slotq T T2 hT0 HT2.out _ _))
        rename_i nq
        obtain ⟨-, -, -, -, hK⟩ := keepS hS0.out (below_drewN (Below.refl _ W3) nq)
        clear k0 k1 k2
        generalize W3.drewN nq = W4 at hK ⊢
        go_upto_region 9 with (fail)
        have hE3 := below_cell hK.out.1 HE.out
        have hc0 := (Joins.cell_of_block hK.out.2 0).trans (show _ = some (Value.int .i64 0) from rfl)
        have hc1 := (Joins.cell_of_block hK.out.2 1).trans (show _ = some (Value.int .i64 0) from rfl)
        have hc2 := (Joins.cell_of_block hK.out.2 2).trans (show _ = some (Value.int .u64 0) from rfl)
        have hf := Joins.unfrozen_of_block hK.out.2
        go_region
        all_goals
          (try go_wp2)
          refine bodyPost_ret (v := .tuple #[.agg #[.int .i64 0, .int .i64 0, .int .u64 0], v]) (results_meta rfl _ _ w.heap.size _ _ _ _ rfl rfl (metaRow hK.out.2 _ _ _)) rfl ⟨by rw [HF.out]; rfl, ?_⟩
          exact below_drewN (below_meta hK.out.1 (Nat.le_refl _) _ _ _) 1
    · have q1 : (P != pages) = true := by simp [c1]
      have C1 : Hd (¬ P = pages) := ⟨c1⟩
      clear c1
      have HF : Hd (b = false) := ⟨by rw [← HB.out]; exact decide_eq_false (fun h => C1.out (HPv.out.symm.trans h.1))⟩
      obtain ⟨k0, k1, k2, -, -⟩ := hS0.out
      go_quiet (fail)
      rename_i nq
      obtain ⟨-, -, -, -, hK⟩ := keepS hS0.out (below_drewN (Below.refl _ W3) nq)
      clear k0 k1 k2
      generalize W3.drewN nq = W4 at hK ⊢
      go_upto_region 9 with (fail)
      have hE3 := below_cell hK.out.1 HE.out
      have hc0 := (Joins.cell_of_block hK.out.2 0).trans (show _ = some (Value.int .i64 0) from rfl)
      have hc1 := (Joins.cell_of_block hK.out.2 1).trans (show _ = some (Value.int .i64 0) from rfl)
      have hc2 := (Joins.cell_of_block hK.out.2 2).trans (show _ = some (Value.int .u64 0) from rfl)
      have hf := Joins.unfrozen_of_block hK.out.2
      go_region
      all_goals
        (try go_wp2)
        refine bodyPost_ret (v := .tuple #[.agg #[.int .i64 0, .int .i64 0, .int .u64 0], v]) (results_meta rfl _ _ w.heap.size _ _ _ _ rfl rfl (metaRow hK.out.2 _ _ _)) rfl ⟨by rw [HF.out]; rfl, ?_⟩
        exact below_drewN (below_meta hK.out.1 (Nat.le_refl _) _ _ _) 1
  · go_enter Tryd.func25, Tryd.ntmps25
    go_upto_region 8 with (first
      | (go_at_call 62; refine (pages_calls pages _ HP.out _).mono ?_; rintro e W1 ⟨rfl, hb⟩; have H1 : Hd (Below w.heap.size w W1 ∧ W1.heap[w.heap.size]? = some (.cells #[.int .i64 0, .int .i64 0, .int .u64 0] 24 (0, 0))) := ⟨box_below hb, box_row hb⟩; clear hb)
      | ((with_reducible refine gD (N := 30) rfl ?_); refine wpList_cpW rfl (.tmp 28) (.tmp 29) 25 25 rfl 5 Tryd.underlying25 u8size _ _ _ _ _ _ _ rfl rfl (zs 512) 99 (row_alloc_at _ _ _ rfl) xs (by rw [HX.out]; rfl) ((HR.out.below H1.out.1).below (below_alloc (Below.refl _ _) _)) (by rw [HX.out, zs_length]; omega) ?_; intro W2 hr2 ht2; have H2 : Hd (Below W1.heap.size W1 W2 ∧ W2.heap[W1.heap.size]? = some (.cells (u8s xs) 99 (0, 0))) := ⟨below_tch (below_alloc (Below.refl _ _) _) ht2 (fun i hi => by omega), by have e : splice (zs 512) 0 xs = xs := splice_whole 512 _ HX.out; rw [← e]; exact hr2.out⟩; clear hr2 ht2)
      | (go_at_call_of 63 (Value.int .i64 12); refine (sget_calls _ xs 12 4 12 4 rfl rfl _ H2.out.2 HX.out HG.out (by decide) (by decide) (by decide)).mono ?_; rintro e W3 ⟨rfl, rfl⟩; rw [HRv.out])
      | (go_at_call_of 63 (Value.int .i64 16); refine (sget_calls _ xs 16 8 16 8 rfl rfl _ H2.out.2 HX.out HG.out (by decide) (by decide) (by decide)).mono ?_; rintro e W3 ⟨rfl, rfl⟩; rw [HTv.out])
      | (go_at_call_of 63 (Value.int .i64 8); refine (sget_calls _ xs 8 4 8 4 rfl rfl _ H2.out.2 HX.out HG.out (by decide) (by decide) (by decide)).mono ?_; rintro e W3 ⟨rfl, rfl⟩; rw [HPv.out])
      | fail)
    obtain ⟨L, hL⟩ : ∃ L, (u8s xs).toList = L := ⟨_, rfl⟩
    have HL : Hd ((u8s xs).toList = L) := ⟨hL⟩
    have hS0 : Hd ((W2.alloc (.cells #[.int .i64 P, .int .i64 R, .int .u64 T] 24)).cell? ⟨W2.heap.size, 0, none⟩ = some (.int .i64 P) ∧ (W2.alloc (.cells #[.int .i64 P, .int .i64 R, .int .u64 T] 24)).cell? ⟨W2.heap.size, 1, none⟩ = some (.int .i64 R) ∧ (W2.alloc (.cells #[.int .i64 P, .int .i64 R, .int .u64 T] 24)).cell? ⟨W2.heap.size, 2, none⟩ = some (.int .u64 T) ∧ (W2.alloc (.cells #[.int .i64 P, .int .i64 R, .int .u64 T] 24)).rangeAt W1.heap.size 0 L ∧ Hd (Below w.heap.size w (W2.alloc (.cells #[.int .i64 P, .int .i64 R, .int .u64 T] 24)) ∧ (W2.alloc (.cells #[.int .i64 P, .int .i64 R, .int .u64 T] 24)).heap[w.heap.size]? = some (.cells #[.int .i64 0, .int .i64 0, .int .u64 0] 24 (0, 0)))) := by
      have hb2 : Below W2.heap.size W2 (W2.alloc (.cells #[.int .i64 P, .int .i64 R, .int .u64 T] 24)) := below_alloc (Below.refl _ _) _
      have hb1 := below_step H2.out.1 hb2
      refine ⟨(World.cell?_alloc_mark W2 _ _ _ 0).trans rfl, (World.cell?_alloc_mark W2 _ _ _ 1).trans rfl, (World.cell?_alloc_mark W2 _ _ _ 2).trans rfl, ?_, ⟨below_step H1.out.1 hb1, below_row hb1 H1.out.2⟩⟩
      have hrow := below_row hb2 H2.out.2
      intro j v hv
      rw [Joins.cell_of_block hrow, ← HL.out] at *
      simpa using hv
    clear hL
    generalize (W2.alloc (.cells #[.int .i64 P, .int .i64 R, .int .u64 T] 24)) = W3 at hS0 ⊢
    have hi99 : (Tryd.prog.info? 99).map (·.size) = some L.length := by rw [← HL.out, Array.length_toList, u8s_size, HX.out]; exact sectorSize
    obtain ⟨T2, hT2⟩ : ∃ T2, T % 2 = T2 := ⟨_, rfl⟩
    have HT2 : Hd (T % 2 = T2) := ⟨hT2⟩
    clear hT2
    by_cases c1 : P = pages
    · have q1 : (P != pages) = false := by simp [c1]
      have C1 : Hd (P = pages) := ⟨c1⟩
      clear c1
      by_cases c2 : T2 = 1
      · have q2 : (T2 != 1) = false := by simp [c2]
        have C2 : Hd (T2 = 1) := ⟨c2⟩
        clear c2
        by_cases c3 : MayM P R
        · have HMb : Hd (decide (MayM P R) = true) := ⟨decide_eq_true c3⟩
          have HM : Hd (MayM P R) := ⟨c3⟩
          clear c3
          obtain ⟨X, hX⟩ : ∃ X, u8s (wr P R T) = X := ⟨_, rfl⟩
          have HXv : Hd (u8s (wr P R T) = X) := ⟨hX⟩
          clear hX
          by_cases c4 : wr P R T = xs
          · have hq : ∀ w, (binOp .neq 99 (.agg X) (.agg L.toArray)).run Tryd.prog w = .ok (.bool false) w := fun w => by
              rw [← HL.out, ← HXv.out]
              exact neq_arr (wr P R T) xs (wr_length P R T) HX.out false (by simp [c4]) w
            have C4 : Hd (wr P R T = xs) := ⟨c4⟩
            clear c4
            have HF : Hd (b = true) := ⟨by rw [← HB.out]; exact decide_eq_true ⟨by rw [HPv.out]; exact C1.out, by rw [HTv.out, HT2.out]; exact C2.out, by rw [HPv.out, HRv.out]; exact HM.out, by rw [HPv.out, HRv.out, HTv.out]; exact C4.out⟩⟩
            first | (go_region_held3 (fun w' => w'.cell? ⟨W2.heap.size, 0, none⟩ = some (.int .i64 P) ∧ w'.cell? ⟨W2.heap.size, 1, none⟩ = some (.int .i64 R) ∧ w'.cell? ⟨W2.heap.size, 2, none⟩ = some (.int .u64 T) ∧ w'.rangeAt W1.heap.size 0 L ∧ Hd (Below w.heap.size w w' ∧ w'.heap[w.heap.size]? = some (.cells #[.int .i64 0, .int .i64 0, .int .u64 0] 24 (0, 0)))) (first | exact keepS hS0.out (below_drewN (Below.refl _ _) 1) | exact keepS (by assumption) (by assumption) | exact keepS (by assumption) (Below.refl _ _)) (first | (go_at_call 20; refine (slot_calls T T2 hT0 HT2.out _).mono ?_; rintro e W' ⟨rfl, hb'⟩) | (go_at_call 49; refine (mayb_calls P R T _ HMb.out _).mono ?_; rintro e W' ⟨rfl, hb'⟩) | (go_at_call 50; refine (writtenX_calls P R T X HXv.out _ (HS.out.below (belowS (by assumption))) HM.out ⟨hT0, HT1.out⟩).mono ?_; rintro e W' ⟨rfl, hb'⟩))) | fail
            rename_i hSF
            obtain ⟨k0, k1, k2, -, hK⟩ := hSF
            have hc0 := (Joins.cell_of_block hK.out.2 0).trans (show _ = some (Value.int .i64 0) from rfl)
            have hc1 := (Joins.cell_of_block hK.out.2 1).trans (show _ = some (Value.int .i64 0) from rfl)
            have hc2 := (Joins.cell_of_block hK.out.2 2).trans (show _ = some (Value.int .u64 0) from rfl)
            have hf := Joins.unfrozen_of_block hK.out.2
            go_wp2_with (fail)
            refine bodyPost_ret (v := .tuple #[.agg #[.int .i64 P, .int .i64 R, .int .u64 T], .nilIface]) (results_meta rfl _ _ w.heap.size _ _ _ _ rfl rfl (metaRow hK.out.2 _ _ _)) rfl ⟨by rw [HF.out]; rfl, ?_⟩
            exact below_meta hK.out.1 (Nat.le_refl _) _ _ _
          · have hq : ∀ w, (binOp .neq 99 (.agg X) (.agg L.toArray)).run Tryd.prog w = .ok (.bool true) w := fun w => by
              rw [← HL.out, ← HXv.out]
              exact neq_arr (wr P R T) xs (wr_length P R T) HX.out true (by simp [c4]) w
            have C4 : Hd (¬ wr P R T = xs) := ⟨c4⟩
            clear c4
            have HF : Hd (b = false) := ⟨by rw [← HB.out]; exact decide_eq_false (fun h => C4.out (by have := h.2.2.2; rwa [HPv.out, HRv.out, HTv.out] at this))⟩
            first | (go_region_held3 (fun w' => w'.cell? ⟨W2.heap.size, 0, none⟩ = some (.int .i64 P) ∧ w'.cell? ⟨W2.heap.size, 1, none⟩ = some (.int .i64 R) ∧ w'.cell? ⟨W2.heap.size, 2, none⟩ = some (.int .u64 T) ∧ w'.rangeAt W1.heap.size 0 L ∧ Hd (Below w.heap.size w w' ∧ w'.heap[w.heap.size]? = some (.cells #[.int .i64 0, .int .i64 0, .int .u64 0] 24 (0, 0)))) (first | exact keepS hS0.out (below_drewN (Below.refl _ _) 1) | exact keepS (by assumption) (by assumption) | exact keepS (by assumption) (Below.refl _ _)) (first | (go_at_call 20; refine (slot_calls T T2 hT0 HT2.out _).mono ?_; rintro e W' ⟨rfl, hb'⟩) | (go_at_call 49; refine (mayb_calls P R T _ HMb.out _).mono ?_; rintro e W' ⟨rfl, hb'⟩) | (go_at_call 50; refine (writtenX_calls P R T X HXv.out _ (HS.out.below (belowS (by assumption))) HM.out ⟨hT0, HT1.out⟩).mono ?_; rintro e W' ⟨rfl, hb'⟩))) | fail
            rename_i hSF
            obtain ⟨-, -, -, -, hK⟩ := hSF
            go_upto_region 9 with (fail)
            have hE3 := below_cell hK.out.1 HE.out
            have hc0 := (Joins.cell_of_block hK.out.2 0).trans (show _ = some (Value.int .i64 0) from rfl)
            have hc1 := (Joins.cell_of_block hK.out.2 1).trans (show _ = some (Value.int .i64 0) from rfl)
            have hc2 := (Joins.cell_of_block hK.out.2 2).trans (show _ = some (Value.int .u64 0) from rfl)
            have hf := Joins.unfrozen_of_block hK.out.2
            go_region
            all_goals
              (try go_wp2)
              refine bodyPost_ret (v := .tuple #[.agg #[.int .i64 0, .int .i64 0, .int .u64 0], v]) (results_meta rfl _ _ w.heap.size _ _ _ _ rfl rfl (metaRow hK.out.2 _ _ _)) rfl ⟨by rw [HF.out]; rfl, ?_⟩
              exact below_drewN (below_meta hK.out.1 (Nat.le_refl _) _ _ _) 1
        · have HMb : Hd (decide (MayM P R) = false) := ⟨decide_eq_false c3⟩
          have HM : Hd (¬ MayM P R) := ⟨c3⟩
          clear c3
          have HF : Hd (b = false) := ⟨by rw [← HB.out]; exact decide_eq_false (fun h => HM.out (by have := h.2.2.1; rwa [HPv.out, HRv.out] at this))⟩
          obtain ⟨k0, k1, k2, -, -⟩ := hS0.out
          go_region_with (first | (go_at_call 20; refine (slot_calls T T2 hT0 HT2.out _).mono ?_; rintro e Wa ⟨rfl, hba⟩; have hSa : Hd _ := ⟨keepS hS0.out (below_undrew hba)⟩; obtain ⟨l0, l1, l2, -, -⟩ := hSa.out; clear hba) | (go_at_call 49; refine (mayb_calls P R T _ HMb.out _).mono ?_; rintro e Wb ⟨rfl, hbb⟩; have hSb : Hd _ := ⟨keepS hSa.out hbb⟩; clear hbb l0 l1 l2) | fail)
          all_goals
            obtain ⟨-, -, -, -, hK⟩ := hSb.out
            clear k0 k1 k2
            go_upto_region 9 with (fail)
            have hE3 := below_cell hK.out.1 HE.out
            have hc0 := (Joins.cell_of_block hK.out.2 0).trans (show _ = some (Value.int .i64 0) from rfl)
            have hc1 := (Joins.cell_of_block hK.out.2 1).trans (show _ = some (Value.int .i64 0) from rfl)
            have hc2 := (Joins.cell_of_block hK.out.2 2).trans (show _ = some (Value.int .u64 0) from rfl)
            have hf := Joins.unfrozen_of_block hK.out.2
            go_region
            all_goals
              (try go_wp2)
              refine bodyPost_ret (v := .tuple #[.agg #[.int .i64 0, .int .i64 0, .int .u64 0], v]) (results_meta rfl _ _ w.heap.size _ _ _ _ rfl rfl (metaRow hK.out.2 _ _ _)) rfl ⟨by rw [HF.out]; rfl, ?_⟩
              exact below_drewN (below_meta hK.out.1 (Nat.le_refl _) _ _ _) 1
      · have q2 : (T2 != 1) = true := by simp [c2]
        have C2 : Hd (¬ T2 = 1) := ⟨c2⟩
        clear c2
        have HF : Hd (b = false) := ⟨by rw [← HB.out]; exact decide_eq_false (fun h => C2.out (by have := h.2.1; rwa [HTv.out, HT2.out] at this))⟩
        obtain ⟨k0, k1, k2, -, -⟩ := hS0.out
        go_quiet (first | (go_at_call 20; exact slotq T T2 hT0 HT2.out _ _))
        rename_i nq
        obtain ⟨-, -, -, -, hK⟩ := keepS hS0.out (below_drewN (Below.refl _ W3) nq)
        clear k0 k1 k2
        generalize W3.drewN nq = W4 at hK ⊢
        go_upto_region 9 with (fail)
        have hE3 := below_cell hK.out.1 HE.out
        have hc0 := (Joins.cell_of_block hK.out.2 0).trans (show _ = some (Value.int .i64 0) from rfl)
        have hc1 := (Joins.cell_of_block hK.out.2 1).trans (show _ = some (Value.int .i64 0) from rfl)
        have hc2 := (Joins.cell_of_block hK.out.2 2).trans (show _ = some (Value.int .u64 0) from rfl)
        have hf := Joins.unfrozen_of_block hK.out.2
        go_region
        all_goals
          (try go_wp2)
          refine bodyPost_ret (v := .tuple #[.agg #[.int .i64 0, .int .i64 0, .int .u64 0], v]) (results_meta rfl _ _ w.heap.size _ _ _ _ rfl rfl (metaRow hK.out.2 _ _ _)) rfl ⟨by rw [HF.out]; rfl, ?_⟩
          exact below_drewN (below_meta hK.out.1 (Nat.le_refl _) _ _ _) 1
    · have q1 : (P != pages) = true := by simp [c1]
      have C1 : Hd (¬ P = pages) := ⟨c1⟩
      clear c1
      have HF : Hd (b = false) := ⟨by rw [← HB.out]; exact decide_eq_false (fun h => C1.out (HPv.out.symm.trans h.1))⟩
      obtain ⟨k0, k1, k2, -, -⟩ := hS0.out
      go_quiet (fail)
      rename_i nq
      obtain ⟨-, -, -, -, hK⟩ := keepS hS0.out (below_drewN (Below.refl _ W3) nq)
      clear k0 k1 k2
      generalize W3.drewN nq = W4 at hK ⊢
      go_upto_region 9 with (fail)
      have hE3 := below_cell hK.out.1 HE.out
      have hc0 := (Joins.cell_of_block hK.out.2 0).trans (show _ = some (Value.int .i64 0) from rfl)
      have hc1 := (Joins.cell_of_block hK.out.2 1).trans (show _ = some (Value.int .i64 0) from rfl)
      have hc2 := (Joins.cell_of_block hK.out.2 2).trans (show _ = some (Value.int .u64 0) from rfl)
      have hf := Joins.unfrozen_of_block hK.out.2
      go_region
      all_goals
        (try go_wp2)
        refine bodyPost_ret (v := .tuple #[.agg #[.int .i64 0, .int .i64 0, .int .u64 0], v]) (results_meta rfl _ _ w.heap.size _ _ _ _ rfl rfl (metaRow hK.out.2 _ _ _)) rfl ⟨by rw [HF.out]; rfl, ?_⟩
        exact below_drewN (below_meta hK.out.1 (Nat.le_refl _) _ _ _) 1
end Go.Proofs.YtoenacghkpgnpaaDoor.D
