/- Layer 5: the bytes of a meta. -/
import Derived.Test.YtoenacghkpgnpaaDoorMeta1
import Derived.Test.YtoenacghkpgnpaaDoorRef1
import Derived.Deep.RegionWith
namespace Go.Proofs.YtoenacghkpgnpaaDoor.Meta
open Go.RowKit Go.Proofs.YtoenacghkpgnpaaDoor.K Go.Proofs.YtoenacghkpgnpaaDoor.E Go.Proofs.YtoenacghkpgnpaaDoor.P1 Go.Proofs.YtoenacghkpgnpaaDoor.Codec

theorem zeroSector : Tryd.zeroCells99 = u8s (zs 512) := by kernel_rfl
theorem sectorSize : (Tryd.prog.info? 99).map (·.size) = some 512 := by kernel_rfl

/-- The bytes of a meta, as they are put in. -/
def sign : List Int := [67, 79, 80, 83, 69, 0, 1, 0]
def w0 : List Int := splice (zs 512) 0 sign
def w1 (p : Int) : List Int := splice w0 8 (be p 4)
def w2 (p r : Int) : List Int := splice (w1 p) 12 (be r 4)
def w3 (p r t : Int) : List Int := splice (w2 p r) 16 (be t 8)
def wr (p r t : Int) : List Int := splice (w3 p r t) 24 (be (crc (w3 p r t)) 4)
theorem w0_length : w0.length = 512 := by unfold w0; rw [length_splice _ _ _ (by rw [zs_length]; decide), zs_length]
theorem w1_length (p : Int) : (w1 p).length = 512 := by unfold w1; rw [length_splice _ _ _ (by rw [w0_length, be_length]; decide), w0_length]
theorem w2_length (p r : Int) : (w2 p r).length = 512 := by unfold w2; rw [length_splice _ _ _ (by rw [w1_length, be_length]; decide), w1_length]
theorem w3_length (p r t : Int) : (w3 p r t).length = 512 := by unfold w3; rw [length_splice _ _ _ (by rw [w2_length, be_length]; decide), w2_length]
theorem wr_length (p r t : Int) : (wr p r t).length = 512 := by unfold wr; rw [length_splice _ _ _ (by rw [w3_length, be_length]; decide), w3_length]
theorem splice_range {L : List Int} {o : Nat} {cs : List Int} (hL : ∀ x, x ∈ L → 0 ≤ x ∧ x ≤ 255) (hc : ∀ x, x ∈ cs → 0 ≤ x ∧ x ≤ 255) : ∀ x, x ∈ splice L o cs → 0 ≤ x ∧ x ≤ 255 := by
  intro x hx
  simp only [splice, List.mem_append] at hx
  rcases hx with h | h | h
  · exact hL x (List.mem_of_mem_take h)
  · exact hc x h
  · exact hL x (List.mem_of_mem_drop h)
theorem w0_range : ∀ x, x ∈ w0 → 0 ≤ x ∧ x ≤ 255 := splice_range (zs_range 512) (by decide)
theorem w3_range (p r t : Int) : ∀ x, x ∈ w3 p r t → 0 ≤ x ∧ x ≤ 255 := splice_range (splice_range (splice_range w0_range (be_range _ _)) (be_range _ _)) (be_range _ _)
theorem wr_range (p r t : Int) : ∀ x, x ∈ wr p r t → 0 ≤ x ∧ x ≤ 255 := splice_range (w3_range p r t) (be_range _ _)

/-- The three blocks that 'written' works in. -/
structure WI (w : World) (p r t : Int) (cur : List Int) (W : World) : Prop where
  below : Below w.heap.size w W
  box : W.heap[w.heap.size]? = some (.cells #[.int .i64 p, .int .i64 r, .int .u64 t] 24 (0, 0))
  res : W.heap[w.heap.size + 1]? = some (.cells (u8s (zs 512)) 99 (0, 0))
  row : W.heap[w.heap.size + 1 + 1]? = some (.cells (u8s cur) 99 (0, 0))
theorem WI.step {w : World} {p r t : Int} {cur cur' : List Int} {W W' : World} (h : WI w p r t cur W) (hr : W'.heap[w.heap.size + 1 + 1]? = some (.cells (u8s cur') 99 (0, 0))) (ht : Tch (fun i => i = w.heap.size + 1 + 1) W W') : WI w p r t cur' W' :=
  ⟨h.below.trans ⟨ht.os, ht.tape, ht.output, ht.size, fun k hk => ht.block k (Nat.lt_of_lt_of_le hk h.below.size) (by omega)⟩, ht.row h.box (by omega), ht.row h.res (by omega), hr⟩
theorem WI.start (w : World) (p r t : Int) : WI w p r t (zs 512) (((w.alloc (.cells #[.int .i64 p, .int .i64 r, .int .u64 t] 24)).alloc (.cells (u8s (zs 512)) 99)).alloc (.cells (u8s (zs 512)) 99)) := by
  refine ⟨below_alloc (below_alloc (below_alloc (Below.refl _ _) _) _) _, ?_, ?_, ?_⟩
  · rw [row_alloc_past _ _ _ (by simp; omega), row_alloc_past _ _ _ (by simp), row_alloc_at _ _ _ rfl]
  · rw [row_alloc_past _ _ _ (by simp), row_alloc_at _ _ _ (by simp)]
  · rw [row_alloc_at _ _ _ (by simp)]
theorem WI.cells {w : World} {p r t : Int} {cur : List Int} {W : World} (h : WI w p r t cur W) : W.cell? ⟨w.heap.size, 0, none⟩ = some (.int .i64 p) ∧ W.cell? ⟨w.heap.size, 1, none⟩ = some (.int .i64 r) ∧ W.cell? ⟨w.heap.size, 2, none⟩ = some (.int .u64 t) :=
  ⟨(cell_of_row _ _ _ _ _ _ h.box).trans rfl, (cell_of_row _ _ _ _ _ _ h.box).trans rfl, (cell_of_row _ _ _ _ _ _ h.box).trans rfl⟩

set_option maxRecDepth 100000 in
set_option maxHeartbeats 400000 in
theorem written_calls (p r t : Int) (w : World) (hs : TabOk w) (hp0 : 0 ≤ p) (hp1 : p ≤ 1048576) (hr0 : 0 ≤ r) (hr1 : r ≤ 1048576) (ht0 : 0 ≤ t) (ht1 : t < 18446744073709551616) :
    Calls Tryd.prog 50 #[.agg #[.int .i64 p, .int .i64 r, .int .u64 t]] w fun e w' => e = .returned (.agg (u8s (wr p r t))) ∧ Below w.heap.size w w' := by
  have hz := zeroSector
  have HS : Hd (TabOk w) := ⟨hs⟩
  have HT : Hd (t < 18446744073709551616) := ⟨ht1⟩
  clear hs ht1
  obtain ⟨q, hq⟩ : ∃ q, crc (w3 p r t) = q := ⟨_, rfl⟩
  have hq0 : 0 ≤ q := hq ▸ (crc_range _).1
  have hq1 : q ≤ 4294967295 := hq ▸ (crc_range _).2
  go_enter Tryd.func50, Tryd.ntmps50
  go_wp2_with (first
    | ((with_reducible refine gD (N := 5) rfl ?_); refine wpList_cpsW rfl (.tmp 4) _ 25 9 rfl 5 Tryd.underlying25 u8size _ _ _ _ _ rfl rfl (zs 512) 99 (WI.start w p r t).row sign rfl (by rw [zs_length]; decide) ?_; intro W0 hr0_ ht0_; have H0 : Hd (WI w p r t w0 W0) := ⟨(WI.start w p r t).step hr0_.out ht0_⟩; clear hr0_ ht0_ hz; obtain ⟨hc0, hc1, hc2⟩ := H0.out.cells)
    | (go_at_call_of 76 (Value.int .u64 p); refine (sput_calls _ (w0) 8 4 (p) 8 4 rfl rfl _ H0.out.row w0_length (by decide) (by decide) (by decide) hp0 (Int.lt_of_le_of_lt hp1 (by decide))).mono ?_; rintro e W1 ⟨rfl, hrow, htch⟩; have H1 : Hd (WI w p r t (w1 p) W1) := ⟨H0.out.step hrow htch⟩; clear hrow htch; obtain ⟨hc0, hc1, hc2⟩ := H1.out.cells)
    | (go_at_call_of 76 (Value.int .u64 r); refine (sput_calls _ (w1 p) 12 4 (r) 12 4 rfl rfl _ H1.out.row (w1_length p) (by decide) (by decide) (by decide) hr0 (Int.lt_of_le_of_lt hr1 (by decide))).mono ?_; rintro e W2 ⟨rfl, hrow, htch⟩; have H2 : Hd (WI w p r t (w2 p r) W2) := ⟨H1.out.step hrow htch⟩; clear hrow htch; obtain ⟨hc0, hc1, hc2⟩ := H2.out.cells)
    | (go_at_call_of 76 (Value.int .u64 t); refine (sput_calls _ (w2 p r) 16 8 (t) 16 8 rfl rfl _ H2.out.row (w2_length p r) (by decide) (by decide) (by decide) ht0 (Int.lt_of_lt_of_le HT.out (by decide))).mono ?_; rintro e W3 ⟨rfl, hrow, htch⟩; have H3 : Hd (WI w p r t (w3 p r t) W3) := ⟨H2.out.step hrow htch⟩; clear hrow htch; obtain ⟨hc0, hc1, hc2⟩ := H3.out.cells)
    | (go_at_call 59; refine (crc_calls _ _ (w3 p r t) 512 (w3_length p r t).symm _ (RdB.of_row0 H3.out.row) (HS.out.below H3.out.below) (w3_range p r t) (by rw [w3_length]; decide)).mono ?_; rintro e W' ⟨rfl, rfl⟩)
    | (go_at_call_of 76 (Value.int .u64 q); refine (sput_calls _ (w3 p r t) 24 4 q 24 4 rfl rfl _ H3.out.row (w3_length p r t) (by decide) (by decide) (by decide) hq0 (Int.lt_of_le_of_lt hq1 (by decide))).mono ?_; rintro e W4 ⟨rfl, hrow, htch⟩; have H4 : Hd (WI w p r t (wr p r t) W4) := ⟨by show WI w p r t (splice (w3 p r t) 24 (be (crc (w3 p r t)) 4)) W4; rw [hq]; exact H3.out.step hrow htch⟩; clear hrow htch)
    | ((with_reducible refine gD (N := 21) rfl ?_); refine wpList_load_row rfl 99 (.tmp 3) rfl _ rfl 99 _ _ _ H4.out.row Tryd.underlying99 rfl (by rw [u8s_size, wr_length]; exact sectorSize) ?_)
    | ((with_reducible refine gS (t := 99) (x := .tmp 2) (y := .tmp 21) rfl ?_); refine wpList_stW rfl 99 (.tmp 2) (.tmp 21) rfl _ _ rfl rfl 99 _ H4.out.res (by rw [u8s_size, wr_length]; exact sectorSize) (by rw [u8s_size, u8s_size, wr_length, zs_length]) (u8s_one' _) ?_; intro W5 hr5 ht5)
    | fail)
  refine bodyPost_ret (v := .agg (u8s (wr p r t))) (results_cell_row rfl _ _ (w.heap.size + 1) 99 _ (0, 0) _ rfl hr5.out Tryd.underlying99 rfl (by rw [u8s_size, wr_length]; exact sectorSize)) rfl ⟨rfl, ?_⟩
  exact below_tch H4.out.below ht5 (fun i hi => by omega)

theorem errs_arg {L : List Nat} {A : Nat → Addr} {w : World} (h : Errs L A w) (hg : 0 ∈ L) : w.cell? ⟨0, 0, none⟩ = some (errAt (A 0)) := h.cell _ hg

/-- May a meta be so? -/
def MayM (p r : Int) : Prop := 4 ≤ p ∧ p ≤ 1048576 ∧ (r = 0 ∨ 2 ≤ r ∧ r < p)
instance (p r : Int) : Decidable (MayM p r) := by unfold MayM; exact inferInstance
theorem may_calls (p r t : Int) (w : World) : Calls Tryd.prog 49 #[.agg #[.int .i64 p, .int .i64 r, .int .u64 t]] w fun e w' => e = .returned (.bool (decide (MayM p r))) ∧ Below w.heap.size w w' := by
  refine (Ref.meta_may.calls p r t (decide (MayM p r)) w ?_).mono fun e w' h => h
  unfold Ref.meta_may.f Ref.meta_pagesMay.f MayM
  by_cases h1 : p ≥ 4
  · by_cases h2 : p ≤ 1048576
    · by_cases h3 : r = 0
      · simp [h1, h2, h3]
      · by_cases h4 : r ≥ 2
        · simp [h1, h2, h3, h4]
        · simp [h1, h2, h3, h4]
    · simp [h1, h2]
  · simp [h1]

set_option maxRecDepth 100000 in
set_option maxHeartbeats 400000 in
theorem encode_no (p r t : Int) (w : World) (v : Value) (hE : w.cell? ⟨0, 0, none⟩ = some v) (hm : ¬ MayM p r) :
    Calls Tryd.prog 16 #[.agg #[.int .i64 p, .int .i64 r, .int .u64 t]] w fun e w' => e = .returned (.tuple #[.slice none 0 0, v]) ∧ Below w.heap.size w w' := by
  have hd : decide (MayM p r) = false := decide_eq_false hm
  go_enter Tryd.func16, Tryd.ntmps16
  go_wp2_with (first
    | (go_at_call 49; refine (may_calls p r t _).mono ?_; rintro e W1 ⟨rfl, hb⟩; have hE1 := below_cell (below_step (below_alloc (Below.refl _ _) _) hb) hE; have HB : Hd (Below _ _ W1) := ⟨below_step (below_alloc (Below.refl w.heap.size w) _) hb⟩; clear hb)
    | fail)
  go_quiet (fail)
  go_wp2
  go_ret2
  exact ⟨rfl, below_drewN HB.out _⟩

set_option maxRecDepth 100000 in
set_option maxHeartbeats 400000 in
theorem encode_ok (p r t : Int) (w : World) (hs : TabOk w) (hm : MayM p r) (ht0 : 0 ≤ t) (ht1 : t < 18446744073709551616) :
    Calls Tryd.prog 16 #[.agg #[.int .i64 p, .int .i64 r, .int .u64 t]] w fun e w' => ∃ g, e = .returned (.tuple #[.slice (some ⟨g, 0, none⟩) 512 512, .nilIface]) ∧ w.heap.size ≤ g ∧
      w'.heap[g]? = some (.cells (u8s (wr p r t)) 5 (0, 0)) ∧ Below w.heap.size w w' := by
  have hd : decide (MayM p r) = true := decide_eq_true hm
  have hz := zeroSector
  have HM : Hd (0 ≤ p ∧ p ≤ 1048576 ∧ 0 ≤ r ∧ r ≤ 1048576) := ⟨by unfold MayM at hm; omega⟩
  have HS : Hd (TabOk w) := ⟨hs⟩
  have HT : Hd (0 ≤ t ∧ t < 18446744073709551616) := ⟨ht0, ht1⟩
  clear hs hm ht0 ht1
  go_enter Tryd.func16, Tryd.ntmps16
  go_wp2_with (first
    | (go_at_call 49; refine (may_calls p r t _).mono ?_; rintro e W1 ⟨rfl, hb⟩; have hc0 := box_cell hb 0 _ rfl; have hc1 := box_cell hb 1 _ rfl; have hc2 := box_cell hb 2 _ rfl; have HB1 : Hd (Below w.heap.size w W1) := ⟨box_below hb⟩; clear hb)
    | (go_at_call 50; refine (written_calls p r t _ (HS.out.below HB1.out) HM.out.1 HM.out.2.1 HM.out.2.2.1 HM.out.2.2.2 HT.out.1 HT.out.2).mono ?_; rintro e W2 ⟨rfl, hb⟩; have HB2 : Hd (Below w.heap.size w W2) := ⟨below_step HB1.out hb⟩; clear hb hc0 hc1 hc2 HB1 HM HS HT)
    | ((with_reducible refine gS (t := 99) (x := .tmp 4) (y := .tmp 11) rfl ?_); refine wpList_stW rfl 99 (.tmp 4) (.tmp 11) rfl W2.heap.size _ rfl rfl 99 _ (row_alloc_at _ _ _ rfl) (by rw [u8s_size, wr_length]; exact sectorSize) (by rw [u8s_size, u8s_size, wr_length, zs_length]) (u8s_one' _) ?_; intro W3 hr3 ht3)
    | (at_make; refine wpList_mk rfl _ _ 25 rfl 5 (.int .u8 0) 1 Tryd.underlying25 u8info rfl .i64 .i64 _ _ 512 512 rfl rfl rfl rfl (by omega) (by omega) (by omega) ?_)
    | ((with_reducible refine gD (N := 15) rfl ?_); refine wpList_cpW rfl (.tmp 13) (.tmp 14) 25 25 rfl 5 Tryd.underlying25 u8size _ _ _ _ _ _ _ rfl rfl (zs 512) 5 (row_alloc_at _ _ _ rfl) (wr p r t) (by rw [wr_length]; rfl) (RdB.of_row0 (by rw [row_alloc_past _ _ _ (row_lt hr3.out)]; exact hr3.out)) (by rw [wr_length, zs_length]; omega) ?_; intro W4 hr4 ht4)
    | fail)
  go_ret2
  have e : splice (zs 512) 0 (wr p r t) = wr p r t := splice_whole 512 _ (wr_length p r t)
  have hb3 : Below w.heap.size w W3 := below_tch (below_alloc HB2.out _) ht3 (fun i hi => hi ▸ HB2.out.size)
  exact ⟨W3.heap.size, rfl, hb3.size, by rw [← e]; exact hr4.out, below_tch (below_alloc hb3 _) ht4 (fun i hi => hi ▸ hb3.size)⟩
end Go.Proofs.YtoenacghkpgnpaaDoor.Meta
