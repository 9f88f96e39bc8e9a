/- sheet.Seal: what it answers, for every sheet. -/
import Derived.Test.YtoenacghkpgnpaaDoorSheet1
import Derived.Test.YtoenacghkpgnpaaDoorSheetP
import Derived.Test.YtoenacghkpgnpaaDoorMeta2
import Derived.StillTailTactics
namespace Go.Proofs.YtoenacghkpgnpaaDoor.Sh
open Go.RowKit Go.Proofs.YtoenacghkpgnpaaDoor.K Go.Proofs.YtoenacghkpgnpaaDoor.E Go.Proofs.YtoenacghkpgnpaaDoor.P1 Go.Proofs.YtoenacghkpgnpaaDoor.Codec

/-- The box of the sheet, and what stands in its cells. -/
theorem bx5 {W : World} {g : Nat} {a b c d e : Value} (h : W.heap[g]? = some (.cells #[a, b, c, d, e] 37 (0, 0))) : W.cell? ⟨g, 0, none⟩ = some a ∧ W.cell? ⟨g, 1, none⟩ = some b ∧ W.cell? ⟨g, 2, none⟩ = some c ∧ W.cell? ⟨g, 3, none⟩ = some d ∧ W.cell? ⟨g, 4, none⟩ = some e :=
  ⟨(cell_of_row _ _ _ _ _ _ h).trans rfl, (cell_of_row _ _ _ _ _ _ h).trans rfl, (cell_of_row _ _ _ _ _ _ h).trans rfl, (cell_of_row _ _ _ _ _ _ h).trans rfl, (cell_of_row _ _ _ _ _ _ h).trans rfl⟩
/-- Where the numbers of a page's head stand, and in how many bytes. -/
def headL : List Int := [0, 1, 2, 2, 4, 4, 8, 8]
def HeadOk (w : World) : Prop := ∀ i : Nat, i < 8 → w.cell? ⟨7, i, none⟩ = some (.int .i64 (headL.getD i 0))
theorem HeadOk.below {w w' : World} (h : HeadOk w) (hb : Below w.heap.size w w') : HeadOk w' := fun i hi => below_cell hb (h i hi)
theorem HeadOk.two {w : World} (h : HeadOk w) (k : Nat) (hk : 2 * k + 1 < 8) (a b : Int) (ha : headL.getD (2 * k) 0 = a) (hb : headL.getD (2 * k + 1) 0 = b) : w.cell? ⟨7, 2 * k, none⟩ = some (.int .i64 a) ∧ w.cell? ⟨7, 2 * k + 1, none⟩ = some (.int .i64 b) := by
  subst ha hb
  exact ⟨h _ (by omega), h _ hk⟩

theorem numSize : (Tryd.prog.info? 108).map (·.size) = some 2 := by kernel_rfl
/-- The page as far as it is laid. -/
def tK (kd ct id tx : Int) : Nat → List Int
  | 0 => zs 4096
  | 1 => t1 kd
  | 2 => t2 kd ct
  | 3 => t3 kd ct id
  | _ => t4 kd ct id tx
theorem tK_length (kd ct id tx : Int) : ∀ k, (tK kd ct id tx k).length = 4096
  | 0 => zs_length _
  | 1 => t1_length _
  | 2 => t2_length _ _
  | 3 => t3_length _ _ _
  | _ + 4 => t4_length _ _ _ _

/-- The blocks that Seal works in. -/
structure SI (w : World) (bx : Array Value) (g b : Nat) (cur : List Int) (W : World) : Prop where
  below : Below w.heap.size w W
  box : W.heap[w.heap.size]? = some (.cells bx 37 (0, 0))
  pv : W.heap[b]? = some (.cells #[.slice (some ⟨g, 0, none⟩) 4096 4096] 25 (0, 0))
  row : W.heap[g]? = some (.cells (u8s cur) 5 (0, 0))
  hg : w.heap.size < g
  hb : g < b
theorem SI.on {w : World} {bx : Array Value} {g b : Nat} {cur : List Int} {W W' : World} (h : SI w bx g b cur W) (hb : Below W.heap.size W W') : SI w bx g b cur W' :=
  ⟨below_step h.below hb, below_row hb h.box, below_row hb h.pv, below_row hb h.row, h.hg, h.hb⟩
theorem SI.step {w : World} {bx : Array Value} {g b : Nat} {cur cur' : List Int} {W W' : World} (h : SI w bx g b cur W) (hr : W'.heap[g]? = some (.cells (u8s cur') 5 (0, 0))) (ht : Tch (fun i => i = g) W W') : SI w bx g b cur' W' :=
  ⟨below_tch h.below ht (fun i hi => by have := h.hg; omega), ht.row h.box (by have := h.hg; omega), ht.row h.pv (by have := h.hb; omega), hr, h.hg, h.hb⟩
theorem SI.pvc {w : World} {bx : Array Value} {g b : Nat} {cur : List Int} {W : World} (h : SI w bx g b cur W) : W.cell? ⟨b, 0, none⟩ = some (.slice (some ⟨g, 0, none⟩) 4096 4096) := (cell_of_row _ _ _ _ _ _ h.pv).trans rfl
theorem SI.bxc {w : World} {bx : Array Value} {g b : Nat} {cur : List Int} {W : World} (h : SI w bx g b cur W) (i : Nat) (v : Value) (hv : bx[i]? = some v) : W.cell? ⟨w.heap.size, i, none⟩ = some v := (cell_of_row _ _ _ _ _ _ h.box).trans hv

set_option maxRecDepth 100000 in
set_option maxHeartbeats 1000000 in
theorem seal_ok (kd id tx ct : Int) (bd : ByteArray) (w : World) (hs : TabOk w) (hh : HeadOk w) (hm : MayS kd ct id bd.size) (ht0 : 0 ≤ tx) (ht1 : tx < 18446744073709551616) :
    Calls Tryd.prog 22 #[.agg #[.int .i64 kd, .int .i64 id, .int .u64 tx, .int .i64 ct, .string bd]] w fun e w' => ∃ g, e = .returned (.tuple #[.slice (some ⟨g, 0, none⟩) 4096 4096, .nilIface]) ∧ w.heap.size ≤ g ∧
      w'.heap[g]? = some (.cells (u8s (pg kd ct id tx (sb bd))) 5 (0, 0)) ∧ Below w.heap.size w w' := by
  have HMb : Hd (decide (MayS kd ct id bd.size) = true) := ⟨decide_eq_true hm⟩
  have HM : Hd (MayS kd ct id bd.size) := ⟨hm⟩
  have HS : Hd ((TabOk w ∧ HeadOk w) ∧ 0 ≤ tx ∧ tx < 18446744073709551616) := ⟨⟨hs, hh⟩, ht0, ht1⟩
  have n0 : ∀ wx, (Instr.index 109 (.agg numsV) (.int .i64 0)).run Tryd.prog wx = .ok (.agg #[.func (.func 79) #[] #[], .func (.func 80) #[] #[]]) wx := fun _ => by kernel_rfl
  have n1 : ∀ wx, (Instr.index 109 (.agg numsV) (.int .i64 1)).run Tryd.prog wx = .ok (.agg #[.func (.func 81) #[] #[], .func (.func 82) #[] #[]]) wx := fun _ => by kernel_rfl
  have n2 : ∀ wx, (Instr.index 109 (.agg numsV) (.int .i64 2)).run Tryd.prog wx = .ok (.agg #[.func (.func 83) #[] #[], .func (.func 84) #[] #[]]) wx := fun _ => by kernel_rfl
  have n3 : ∀ wx, (Instr.index 109 (.agg numsV) (.int .i64 3)).run Tryd.prog wx = .ok (.agg #[.func (.func 85) #[] #[], .func (.func 86) #[] #[]]) wx := fun _ => by kernel_rfl
  clear hm hs ht0 ht1 hh
  go_enter Tryd.func22, Tryd.ntmps22
  go_wp2_with (first
    | (go_at_call 55; refine (mayS_calls kd id tx ct bd _ _ HMb.out).mono ?_; rintro e W1 ⟨rfl, hb⟩; have H1 : Hd (Below w.heap.size w W1 ∧ W1.heap[w.heap.size]? = some (.cells #[.int .i64 kd, .int .i64 id, .int .u64 tx, .int .i64 ct, .string bd] 37 (0, 0))) := ⟨box_below hb, box_row hb⟩; clear hb)
    | (at_make; refine wpList_mk rfl _ _ 25 rfl 5 (.int .u8 0) 1 Tryd.underlying25 u8info rfl .i64 .i64 _ _ 4096 4096 rfl rfl rfl rfl (by omega) (by omega) (by omega) ?_)
    | (go_at_call 58; refine (numbers_calls _).mono ?_; rintro e W2 ⟨rfl, hb⟩; have H2 : Hd (SI w #[.int .i64 kd, .int .i64 id, .int .u64 tx, .int .i64 ct, .string bd] W1.heap.size (W1.heap.size + 1) (zs 4096) W2) := ⟨below_step H1.out.1 (below_step (below_alloc (below_alloc (Below.refl _ _) _) _) hb), below_row hb (by rw [row_alloc_past _ _ _ (by have := row_lt H1.out.2; simp; omega), row_alloc_past _ _ _ (row_lt H1.out.2)]; exact H1.out.2), below_row hb (row_alloc_at _ _ _ (by simp)), below_row hb (by rw [row_alloc_past _ _ _ (by simp), row_alloc_at _ _ _ rfl, u8s_replicate]; rfl), row_lt H1.out.2, Nat.lt_succ_self _⟩; clear hb)
    | fail)
  obtain ⟨g, hg⟩ : ∃ g, W1.heap.size = g := ⟨_, rfl⟩
  obtain ⟨b, hb⟩ : ∃ b, g + 1 = b := ⟨_, rfl⟩
  rw [hg] at H2 ⊢
  rw [hb] at H2 ⊢
  clear H1 hg hb
  go_loopw [15] (fun c wr => ∃ k : Nat, k ≤ 4 ∧ c = .int .i64 k ∧ Hd (SI w #[.int .i64 kd, .int .i64 id, .int .u64 tx, .int .i64 ct, .string bd] g b (tK kd ct id tx k) wr)) (fun c _ => 4 - (intOf c).toNat)
  case atStart => exact ⟨0, by omega, rfl, H2⟩
  case round =>
    obtain ⟨k, hk, rfl, HI⟩ := hrel
    have hk' : k = 0 ∨ k = 1 ∨ k = 2 ∨ k = 3 ∨ k = 4 := by omega
    rcases hk' with rfl | rfl | rfl | rfl | rfl
    · have hw8 : w.heap.size ≤ wr.heap.size := HI.out.below.size
      go_wp2_with (first
        | ((with_reducible refine gS (t := 108) (x := .tmp 7) (y := .tmp 18) rfl ?_); refine wpList_stW rfl 108 (.tmp 7) (.tmp 18) rfl wr.heap.size _ rfl rfl 108 _ (row_alloc_at _ _ _ rfl) numSize rfl (by decide) ?_; intro W3 hr3 ht3; have H3 : Hd (SI w #[.int .i64 kd, .int .i64 id, .int .u64 tx, .int .i64 ct, .string bd] g b (tK kd ct id tx 0) W3.drew ∧ W3.drew.heap[wr.heap.size]? = some (.cells #[.func (.func 79) #[] #[], .func (.func 80) #[] #[]] 108 (0, 0))) := ⟨(HI.out.on (below_tch (below_alloc (Below.refl _ _) _) ht3 (fun i hi => by omega))).on (Below.refl W3.heap.size W3).drew, hr3.out⟩; clear hr3 ht3)
        | fail)
      refine wp_region_still_tail 12 (by kernel_rfl) (by kernel_rfl) ?_
      simp only [List.take_succ_cons, List.take_zero, List.drop_succ_cons, List.drop_zero]
      change wpStill _ _ W3.drew (fun a' => wpList _ _ _ _ a' W3.drew) _ _
      obtain ⟨W4, hW4⟩ : ∃ W4, W3.drew = W4 := ⟨_, rfl⟩
      rw [hW4] at H3 ⊢
      clear hW4
      obtain ⟨hp, hq⟩ := (HS.out.1.2.below H3.out.1.below).two 0 (by decide) 0 1 rfl rfl
      have hnc := (cell_of_row _ _ 0 _ _ _ H3.out.2).trans (show _ = some (Value.func (.func 79) #[] #[]) from rfl)
      have hbx := H3.out.1.bxc 0 _ rfl
      iterate 11 still_step
      still_call ((get_kind w.heap.size kd _ hbx (by have := HM.out; unfold MayS at this; omega) (by have := HM.out; unfold MayS at this; omega)).mono fun _ _ h => ⟨h.1, h.2.symm⟩)
      refine wpStill_nil ?_
      go_wp2_with (first
        | (go_at_call 56; refine (seal1_calls b g (tK kd ct id tx 0) 0 1 kd 0 1 rfl rfl _ H3.out.1.pvc H3.out.1.row (tK_length _ _ _ _ _) (by decide) (by decide) (by decide) (by have := HM.out; unfold MayS at this; omega) (by have := HM.out; unfold MayS at this; omega)).mono ?_; rintro e W5 ⟨rfl, hr5, ht5⟩; have H5 : Hd (SI w #[.int .i64 kd, .int .i64 id, .int .u64 tx, .int .i64 ct, .string bd] g b (tK kd ct id tx (0 + 1)) W5) := ⟨H3.out.1.step hr5 ht5⟩; clear hr5 ht5)
        | fail)
      go_roundw
      case rel => exact ⟨0 + 1, by omega, by go_num, H5⟩
      case measure => simp [intOf]
    · have hw8 : w.heap.size ≤ wr.heap.size := HI.out.below.size
      go_wp2_with (first
        | ((with_reducible refine gS (t := 108) (x := .tmp 7) (y := .tmp 18) rfl ?_); refine wpList_stW rfl 108 (.tmp 7) (.tmp 18) rfl wr.heap.size _ rfl rfl 108 _ (row_alloc_at _ _ _ rfl) numSize rfl (by decide) ?_; intro W3 hr3 ht3; have H3 : Hd (SI w #[.int .i64 kd, .int .i64 id, .int .u64 tx, .int .i64 ct, .string bd] g b (tK kd ct id tx 1) W3.drew ∧ W3.drew.heap[wr.heap.size]? = some (.cells #[.func (.func 81) #[] #[], .func (.func 82) #[] #[]] 108 (0, 0))) := ⟨(HI.out.on (below_tch (below_alloc (Below.refl _ _) _) ht3 (fun i hi => by omega))).on (Below.refl W3.heap.size W3).drew, hr3.out⟩; clear hr3 ht3)
        | fail)
      refine wp_region_still_tail 12 (by kernel_rfl) (by kernel_rfl) ?_
      simp only [List.take_succ_cons, List.take_zero, List.drop_succ_cons, List.drop_zero]
      change wpStill _ _ W3.drew (fun a' => wpList _ _ _ _ a' W3.drew) _ _
      obtain ⟨W4, hW4⟩ : ∃ W4, W3.drew = W4 := ⟨_, rfl⟩
      rw [hW4] at H3 ⊢
      clear hW4
      obtain ⟨hp, hq⟩ := (HS.out.1.2.below H3.out.1.below).two 1 (by decide) 2 2 rfl rfl
      have hnc := (cell_of_row _ _ 0 _ _ _ H3.out.2).trans (show _ = some (Value.func (.func 81) #[] #[]) from rfl)
      have hbx := H3.out.1.bxc 3 _ rfl
      iterate 11 still_step
      still_call ((get_count w.heap.size ct _ hbx (by have := HM.out; unfold MayS at this; omega) (by have := HM.out; unfold MayS at this; omega)).mono fun _ _ h => ⟨h.1, h.2.symm⟩)
      refine wpStill_nil ?_
      go_wp2_with (first
        | (go_at_call 56; refine (seal1_calls b g (tK kd ct id tx 1) 2 2 ct 2 2 rfl rfl _ H3.out.1.pvc H3.out.1.row (tK_length _ _ _ _ _) (by decide) (by decide) (by decide) (by have := HM.out; unfold MayS at this; omega) (by have := HM.out; unfold MayS at this; omega)).mono ?_; rintro e W5 ⟨rfl, hr5, ht5⟩; have H5 : Hd (SI w #[.int .i64 kd, .int .i64 id, .int .u64 tx, .int .i64 ct, .string bd] g b (tK kd ct id tx (1 + 1)) W5) := ⟨H3.out.1.step hr5 ht5⟩; clear hr5 ht5)
        | fail)
      go_roundw
      case rel => exact ⟨1 + 1, by omega, by go_num, H5⟩
      case measure => simp [intOf]
    · have hw8 : w.heap.size ≤ wr.heap.size := HI.out.below.size
      go_wp2_with (first
        | ((with_reducible refine gS (t := 108) (x := .tmp 7) (y := .tmp 18) rfl ?_); refine wpList_stW rfl 108 (.tmp 7) (.tmp 18) rfl wr.heap.size _ rfl rfl 108 _ (row_alloc_at _ _ _ rfl) numSize rfl (by decide) ?_; intro W3 hr3 ht3; have H3 : Hd (SI w #[.int .i64 kd, .int .i64 id, .int .u64 tx, .int .i64 ct, .string bd] g b (tK kd ct id tx 2) W3.drew ∧ W3.drew.heap[wr.heap.size]? = some (.cells #[.func (.func 83) #[] #[], .func (.func 84) #[] #[]] 108 (0, 0))) := ⟨(HI.out.on (below_tch (below_alloc (Below.refl _ _) _) ht3 (fun i hi => by omega))).on (Below.refl W3.heap.size W3).drew, hr3.out⟩; clear hr3 ht3)
        | fail)
      refine wp_region_still_tail 12 (by kernel_rfl) (by kernel_rfl) ?_
      simp only [List.take_succ_cons, List.take_zero, List.drop_succ_cons, List.drop_zero]
      change wpStill _ _ W3.drew (fun a' => wpList _ _ _ _ a' W3.drew) _ _
      obtain ⟨W4, hW4⟩ : ∃ W4, W3.drew = W4 := ⟨_, rfl⟩
      rw [hW4] at H3 ⊢
      clear hW4
      obtain ⟨hp, hq⟩ := (HS.out.1.2.below H3.out.1.below).two 2 (by decide) 4 4 rfl rfl
      have hnc := (cell_of_row _ _ 0 _ _ _ H3.out.2).trans (show _ = some (Value.func (.func 83) #[] #[]) from rfl)
      have hbx := H3.out.1.bxc 1 _ rfl
      iterate 11 still_step
      still_call ((get_id w.heap.size id _ hbx (by have := HM.out; unfold MayS at this; omega) (by have := HM.out; unfold MayS at this; omega)).mono fun _ _ h => ⟨h.1, h.2.symm⟩)
      refine wpStill_nil ?_
      go_wp2_with (first
        | (go_at_call 56; refine (seal1_calls b g (tK kd ct id tx 2) 4 4 id 4 4 rfl rfl _ H3.out.1.pvc H3.out.1.row (tK_length _ _ _ _ _) (by decide) (by decide) (by decide) (by have := HM.out; unfold MayS at this; omega) (by have := HM.out; unfold MayS at this; omega)).mono ?_; rintro e W5 ⟨rfl, hr5, ht5⟩; have H5 : Hd (SI w #[.int .i64 kd, .int .i64 id, .int .u64 tx, .int .i64 ct, .string bd] g b (tK kd ct id tx (2 + 1)) W5) := ⟨H3.out.1.step hr5 ht5⟩; clear hr5 ht5)
        | fail)
      go_roundw
      case rel => exact ⟨2 + 1, by omega, by go_num, H5⟩
      case measure => simp [intOf]
    · have hw8 : w.heap.size ≤ wr.heap.size := HI.out.below.size
      go_wp2_with (first
        | ((with_reducible refine gS (t := 108) (x := .tmp 7) (y := .tmp 18) rfl ?_); refine wpList_stW rfl 108 (.tmp 7) (.tmp 18) rfl wr.heap.size _ rfl rfl 108 _ (row_alloc_at _ _ _ rfl) numSize rfl (by decide) ?_; intro W3 hr3 ht3; have H3 : Hd (SI w #[.int .i64 kd, .int .i64 id, .int .u64 tx, .int .i64 ct, .string bd] g b (tK kd ct id tx 3) W3.drew ∧ W3.drew.heap[wr.heap.size]? = some (.cells #[.func (.func 85) #[] #[], .func (.func 86) #[] #[]] 108 (0, 0))) := ⟨(HI.out.on (below_tch (below_alloc (Below.refl _ _) _) ht3 (fun i hi => by omega))).on (Below.refl W3.heap.size W3).drew, hr3.out⟩; clear hr3 ht3)
        | fail)
      refine wp_region_still_tail 12 (by kernel_rfl) (by kernel_rfl) ?_
      simp only [List.take_succ_cons, List.take_zero, List.drop_succ_cons, List.drop_zero]
      change wpStill _ _ W3.drew (fun a' => wpList _ _ _ _ a' W3.drew) _ _
      obtain ⟨W4, hW4⟩ : ∃ W4, W3.drew = W4 := ⟨_, rfl⟩
      rw [hW4] at H3 ⊢
      clear hW4
      obtain ⟨hp, hq⟩ := (HS.out.1.2.below H3.out.1.below).two 3 (by decide) 8 8 rfl rfl
      have hnc := (cell_of_row _ _ 0 _ _ _ H3.out.2).trans (show _ = some (Value.func (.func 85) #[] #[]) from rfl)
      have hbx := H3.out.1.bxc 2 _ rfl
      iterate 11 still_step
      still_call ((get_txid w.heap.size tx _ hbx).mono fun _ _ h => ⟨h.1, h.2.symm⟩)
      refine wpStill_nil ?_
      go_wp2_with (first
        | (go_at_call 56; refine (seal1_calls b g (tK kd ct id tx 3) 8 8 tx 8 8 rfl rfl _ H3.out.1.pvc H3.out.1.row (tK_length _ _ _ _ _) (by decide) (by decide) (by decide) HS.out.2.1 HS.out.2.2).mono ?_; rintro e W5 ⟨rfl, hr5, ht5⟩; have H5 : Hd (SI w #[.int .i64 kd, .int .i64 id, .int .u64 tx, .int .i64 ct, .string bd] g b (tK kd ct id tx (3 + 1)) W5) := ⟨H3.out.1.step hr5 ht5⟩; clear hr5 ht5)
        | fail)
      go_roundw
      case rel => exact ⟨3 + 1, by omega, by go_num, H5⟩
      case measure => simp [intOf]
    · have hbl : (sb bd).length = 4072 := by rw [sb_length]; have := HM.out; unfold MayS at this; omega
      have HL : Hd ((sb bd).length = 4072) := ⟨hbl⟩
      have HT4 : Hd ((t4 kd ct id tx).length = 4096) := ⟨t4_length _ _ _ _⟩
      clear hbl n0 n1 n2 n3 H2
      go_upto_region 10 with (fail)
      refine wp_region_still_tail 4 (by kernel_rfl) (by kernel_rfl) ?_
      simp only [List.take_succ_cons, List.take_zero, List.drop_succ_cons, List.drop_zero]
      change wpStill _ _ wr.drew (fun a' => wpList _ _ _ _ a' wr.drew) _ _
      have H3 : Hd (SI w #[.int .i64 kd, .int .i64 id, .int .u64 tx, .int .i64 ct, .string bd] g b (t4 kd ct id tx) wr.drew) := ⟨HI.out.on (Below.refl wr.heap.size wr).drew⟩
      obtain ⟨W4, hW4⟩ : ∃ W4, wr.drew = W4 := ⟨_, rfl⟩
      rw [hW4] at H3 ⊢
      clear hW4
      have hpv := H3.out.pvc
      have hbx := H3.out.bxc 4 _ rfl
      iterate 4 still_step
      refine wpStill_nil ?_
      obtain ⟨q, hq⟩ : ∃ q, crc (t5 kd ct id tx (sb bd)) = q := ⟨_, rfl⟩
      have hqr : 0 ≤ q ∧ q ≤ 4294967295 := hq ▸ crc_range _
      have HQ : Hd (crc (t5 kd ct id tx (sb bd)) = q) := ⟨hq⟩
      clear hq
      go_wp2_with (first
        | ((with_reducible refine gD (N := 37) rfl ?_); refine wpList_cpsW rfl (.tmp 34) (.tmp 36) 25 9 rfl 5 Tryd.underlying25 u8size _ _ _ _ _ rfl rfl (t4 kd ct id tx) 5 H3.out.row (sb bd) (by rw [List.take_of_length_le (by rw [HL.out]; omega)]) (by rw [HL.out, HT4.out]; omega) ?_; intro W5 hr5 ht5; have H5 : Hd (SI w #[.int .i64 kd, .int .i64 id, .int .u64 tx, .int .i64 ct, .string bd] g b (t5 kd ct id tx (sb bd)) W5) := ⟨H3.out.step hr5.out ht5⟩; have hpv5 := H5.out.pvc; clear hr5 ht5 hpv hbx)
        | (go_at_call 59; refine (crc_calls _ _ (t5 kd ct id tx (sb bd)) 4096 (t5_length _ _ _ _ _ HL.out).symm _ (RdB.of_row0 H5.out.row) (HS.out.1.1.below H5.out.below) (t5_range _ _ _ _ _ HL.out (sb_range bd)) (by rw [t5_length _ _ _ _ _ HL.out]; decide)).mono ?_; rintro e W' ⟨rfl, rfl⟩; rw [HQ.out])
        | (go_at_call 56; refine (seal1_calls b g (t5 kd ct id tx (sb bd)) 16 4 q 16 4 rfl rfl _ H5.out.pvc H5.out.row (t5_length _ _ _ _ _ HL.out) (by decide) (by decide) (by decide) hqr.1 (Int.lt_of_le_of_lt hqr.2 (by decide))).mono ?_; rintro e W6 ⟨rfl, hr6, ht6⟩; have H6 : Hd (SI w #[.int .i64 kd, .int .i64 id, .int .u64 tx, .int .i64 ct, .string bd] g b (pg kd ct id tx (sb bd)) W6) := ⟨by unfold pg; rw [HQ.out]; exact H5.out.step hr6 ht6⟩; have hpv6 := H6.out.pvc; clear hr6 ht6 hpv5)
        | fail)
      go_ret2
      exact ⟨g, rfl, Nat.le_of_lt H6.out.hg, H6.out.row, H6.out.below⟩
set_option maxRecDepth 100000 in
set_option maxHeartbeats 400000 in
theorem seal_no (kd id tx ct : Int) (bd : ByteArray) (w : World) (v : Value) (hE : w.cell? ⟨0, 0, none⟩ = some v) (hm : ¬ MayS kd ct id bd.size) :
    Calls Tryd.prog 22 #[.agg #[.int .i64 kd, .int .i64 id, .int .u64 tx, .int .i64 ct, .string bd]] w fun e w' => e = .returned (.tuple #[.slice none 0 0, v]) ∧ Below w.heap.size w w' := by
  have HM : Hd (decide (MayS kd ct id bd.size) = false) := ⟨decide_eq_false hm⟩
  clear hm
  go_enter Tryd.func22, Tryd.ntmps22
  go_wp2_with (first
    | (go_at_call 55; refine (mayS_calls kd id tx ct bd _ _ HM.out).mono ?_; rintro e W1 ⟨rfl, hb⟩; have hE1 := below_cell (below_step (below_alloc (Below.refl _ _) _) hb) hE; have HB : Hd (Below _ _ W1) := ⟨below_step (below_alloc (Below.refl w.heap.size w) _) hb⟩; clear hb)
    | fail)
  go_quiet (fail)
  go_wp2
  go_ret2
  exact ⟨rfl, below_drewN HB.out _⟩
end Go.Proofs.YtoenacghkpgnpaaDoor.Sh
