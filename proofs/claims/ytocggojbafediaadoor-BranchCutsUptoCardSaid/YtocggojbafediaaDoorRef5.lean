/- Written by a program of this session, a turned print: functions of the program, of the document and of the statements, each as a plain Lean function, and that the call comes to it. -/
import Derived.Test.YtocggojbafediaaDoorRef0
import Derived.Test.YtocggojbafediaaDoorExt
import Derived.Test.YtocggojbafediaaDoorRef2
namespace Go.Proofs.YtocggojbafediaaDoor.Ref
open Go.RowKit Go.Proofs.YtocggojbafediaaDoorW.PrintWords Go.Proofs.YtocggojbafediaaDoorW.PrintLast Go.Proofs.YtocggojbafediaaDoorW.PrintMore
attribute [local go_sem] str_leq_ str_geq_ str_gtr_ max2_int min2_int max_two min_two max_three min_three max_four min_four   -- for this text's walks alone
set_option linter.unusedVariables false
set_option linter.unusedSimpArgs false

/-! ### branch_Cut: function 16 -/
def branch_Cut.l0 : Nat → List Int → List (S48) → Int → Int → Int → List (S48) → Option (Int × (List (S48)) × ByteArray × Int × (List (S48)) × Option Int)
  | 0, _, _, _, _, _, _ => none
  | k + 1, x6, x15, x16, x17, x116000, x116001 => if x17 < x16 then (if 0 ≤ x17 then (if x17 < (x15.length : Int) then ((branch_linkSize.f ((rd_T48 x15 x17).f0) ((rd_T48 x15 x17).f1)).bind fun t120 => (if x6.length < 17592186044416 then (branch_Cut.l0 k (x6 ++ [t120]) x15 x16 (wrap64 (x17 + 1)) x116000 x116001) else (none))) else (none)) else (none)) else ((cells_Pivot.f x6).bind fun bt124 => (if bt124.2.isNone = true then (if 0 ≤ bt124.1 then (if bt124.1 < (x116001.length : Int) then (if bt124.1 ≤ (x116001.length : Int) then ((Clone_Link.f (x116001.take (bt124.1 : Int).toNat)).bind fun t133 => (if 0 ≤ (wrap64 (bt124.1 + 1)) then (if (wrap64 (bt124.1 + 1)) ≤ (x116001.length : Int) then ((Clone_Link.f (x116001.drop ((wrap64 (bt124.1 + 1)) : Int).toNat)).bind fun t141 => (some (x116000, t133, (rd_T48 x116001 bt124.1).f0, (rd_T48 x116001 bt124.1).f1, t141, none))) else (none)) else (none))) else (none)) else (none)) else (none)) else (some (0, ([] : List (S48)), (⟨#[]⟩ : ByteArray), 0, ([] : List (S48)), some (bt124.2.getD 0)))))
def branch_Cut.f (k : Nat) (a0_0 : Int) (l0_1 : List (S48)) : Option (Int × (List (S48)) × ByteArray × Int × (List (S48)) × Option Int) := branch_Cut.l0 k ([] : List Int) l0_1 (l0_1.length : Int) 0 a0_0 l0_1
def branch_Cut.T11 : Bool × List (List Nat × List Nat) := (true, [([], []), ([0], [0]), ([], []), ([2], [2]), ([], []), ([3, 4], [3, 4]), ([5], [5]), ([1, 6], [1, 6]), ([], []), ([8, 7, 6, 0, 1, 2, 3, 4, 5, 6, 7, 8], [7, 8])])
def branch_Cut.B11 : List Nat := [0, 1, 0, 4, 0, 28, 60, 127, 0, 511]
theorem branch_Cut.tab11 : rtab .any (opsOf Tryd.f16 11) = branch_Cut.T11 := by kernel_rfl
theorem branch_Cut.bits11 : waitsOk branch_Cut.T11.2 branch_Cut.B11 = true := by kernel_rfl
def branch_Cut.T12 : Bool × List (List Nat × List Nat) := (true, [([], []), ([0], [0]), ([], []), ([2], [2]), ([], []), ([4], [4]), ([3, 5], [3, 5]), ([6], [6]), ([1, 7], [1, 7]), ([], []), ([9, 8, 7, 0, 1, 2, 3, 4, 5, 6, 7, 8, 9], [8, 9])])
def branch_Cut.B12 : List Nat := [0, 1, 0, 4, 0, 16, 60, 124, 255, 0, 1023]
theorem branch_Cut.tab12 : rtab .any (opsOf Tryd.f16 12) = branch_Cut.T12 := by kernel_rfl
theorem branch_Cut.bits12 : waitsOk branch_Cut.T12.2 branch_Cut.B12 = true := by kernel_rfl
def branch_Cut.T13 : Bool × List (List Nat × List Nat) := (true, [([], []), ([], []), ([1], [1]), ([], []), ([0, 0], [0]), ([2, 4, 0, 1, 2, 4], [2]), ([3, 5, 0, 1, 2, 3, 4, 5], [3]), ([6, 0, 1, 2, 3, 4, 5, 6], [])])
def branch_Cut.B13 : List Nat := [0, 0, 2, 0, 1, 23, 63, 127]
theorem branch_Cut.tab13 : rtab .any (opsOf Tryd.f16 13) = branch_Cut.T13 := by kernel_rfl
theorem branch_Cut.bits13 : waitsOk branch_Cut.T13.2 branch_Cut.B13 = true := by kernel_rfl
set_option maxHeartbeats 8000000 in
set_option maxRecDepth 100000 in
theorem branch_Cut.calls {B_ : Int → Addr} (k : Nat) (a0_0 : Int) (A0_1 : Option Addr) (c0_1 : Nat) (l0_1 : List (S48)) (r1 : Int) (r2 : List (S48)) (r3 : ByteArray) (r4 : Int) (r5 : List (S48)) (r6 : Option Int) (w : World) (hE : Sen [1, 4] B_ w) (hr0_1 : Kd.C k48 w A0_1 l0_1.length l0_1) (hc0_1 : l0_1.length ≤ c0_1) (h : branch_Cut.f k a0_0 l0_1 = some (r1, r2, r3, r4, r5, r6)) :
    Calls Tryd.prog 16 #[.agg #[.int .i64 a0_0, .slice A0_1 l0_1.length c0_1]] w fun e w' => ∃ v1_ v4_ : Value, e = .returned (.tuple #[.agg #[.int .i64 r1, v1_], .string r3, .agg #[.int .i64 r4, v4_], errW B_ r6]) ∧ Kd.R k48 48 w' w.heap.size (fun k_ => some k_ ≠ (v4_ : Value).ownBlock) v1_ r2 ∧ Kd.R k48 48 w' w.heap.size (fun k_ => some k_ ≠ (v1_ : Value).ownBlock) v4_ r5 ∧ Below w.heap.size w w' := by
  have HE := asd hE
  clear hE
  have hu24 := Tryd.underlying24
  have hu48 := Tryd.underlying48
  have hu30 := Tryd.underlying30
  have HR0_1 := asd hr0_1
  have HC0_1 := asd hc0_1
  clear hr0_1 hc0_1
  have HB := asd (Below.refl w.heap.size w)
  have H : (branch_Cut.l0 k ([] : List Int) l0_1 (l0_1.length : Int) 0 a0_0 l0_1) = some (r1, r2, r3, r4, r5, r6) := h
  clear h
  have H' := asd H
  clear H
  go_enter Tryd.func16, Tryd.ntmps16
  go_wp2_with (first | ((with_reducible refine gate_dst (N := 1) rfl ?_); refine box_event ?hg (N := 1) ?hd (cs := #[.int .i64 a0_0, .slice A0_1 l0_1.length c0_1]) (t := 24) ?hr ?_; (case hd => rfl); (case hg => rfl); (case hr => first | (go_simp; done) | (go_simp; rfl)); intro gb115 hg w2 hbox hb; have n0_ := asd (below_step (by repeat (first | (with_reducible first | exact HB.out | apply below_alloc | apply pw_below_drewN | apply below_drew1) | exact HB.out)) hb); have n1_ := asd (hbox); have n2_ := asd ((by rw [hg]; exact (below_size (by repeat (first | (with_reducible first | exact HB.out | apply below_alloc | apply pw_below_drewN | apply below_drew1) | exact HB.out))) : w.heap.size ≤ gb115)); have n3_ := asd ((by rw [hg]; exact (below_size (by repeat (first | (with_reducible first | exact HB.out | apply below_alloc | apply pw_below_drewN | apply below_drew1) | exact HB.out))) : w.heap.size ≤ gb115)); clear HB; have HB := n0_; have BK115 := n1_; have GW115 := n2_; have GE115 := n3_; clear n0_ n1_ n2_ n3_; clear hb hbox hg) | ((with_reducible refine gate_dst (N := 2) rfl ?_); refine box_event ?hg (N := 2) ?hd (cs := #[.int .i64 0, .slice none 0 0]) (t := 24) ?hr ?_; (case hd => rfl); (case hg => rfl); (case hr => first | (go_simp; done) | (go_simp; rfl)); intro gb116 hg w3 hbox hb; have n0_ := asd (blk_below (g := gb115) (o := .cells #[.int .i64 a0_0, .slice A0_1 l0_1.length c0_1] 24 (0, 0)) BK115.out hb); have n1_ := asd (below_step (by repeat (first | (with_reducible first | exact HB.out | apply below_alloc | apply pw_below_drewN | apply below_drew1 | refine below_set ?_ GE115.out) | exact HB.out)) hb); have n2_ := asd (hbox); have n3_ := asd ((by rw [hg]; exact (below_size (by repeat (first | (with_reducible first | exact HB.out | apply below_alloc | apply pw_below_drewN | apply below_drew1 | refine below_set ?_ GE115.out) | exact HB.out))) : w.heap.size ≤ gb116)); have n4_ := asd ((by rw [hg]; exact (below_size (by repeat (first | (with_reducible first | exact HB.out | apply below_alloc | apply pw_below_drewN | apply below_drew1 | refine below_set ?_ GE115.out) | exact HB.out))) : w.heap.size ≤ gb116)); have n5_ := asd ((by rw [hg]; exact Nat.ne_of_lt (blk_lt (g := gb115) (o := .cells #[.int .i64 a0_0, .slice A0_1 l0_1.length c0_1] 24 (0, 0)) BK115.out) : gb115 ≠ gb116)); have n6_ := asd ((by rw [hg]; exact Nat.ne_of_gt (blk_lt (g := gb115) (o := .cells #[.int .i64 a0_0, .slice A0_1 l0_1.length c0_1] 24 (0, 0)) BK115.out) : gb116 ≠ gb115)); clear BK115; clear HB; have BK115 := n0_; have HB := n1_; have BK116 := n2_; have GW116 := n3_; have GE116 := n4_; have NB115_116 := n5_; have NB116_115 := n6_; clear n0_ n1_ n2_ n3_ n4_ n5_ n6_; clear hb hbox hg) | ((with_reducible refine gate_dst (N := 4) rfl ?_); refine box_event ?hg (N := 4) ?hd (cs := #[.int .i64 0, .slice none 0 0]) (t := 24) ?hr ?_; (case hd => rfl); (case hg => rfl); (case hr => first | (go_simp; done) | (go_simp; rfl)); intro gb117 hg w4 hbox hb; have n0_ := asd (blk_below (g := gb115) (o := .cells #[.int .i64 a0_0, .slice A0_1 l0_1.length c0_1] 24 (0, 0)) BK115.out hb); have n1_ := asd (blk_below (g := gb116) (o := .cells #[.int .i64 0, .slice none 0 0] 24 (0, 0)) BK116.out hb); have n2_ := asd (below_step (by repeat (first | (with_reducible first | exact HB.out | apply below_alloc | apply pw_below_drewN | apply below_drew1 | refine below_set ?_ GE115.out | refine below_set ?_ GE116.out) | exact HB.out)) hb); have n3_ := asd (hbox); have n4_ := asd ((by rw [hg]; exact (below_size (by repeat (first | (with_reducible first | exact HB.out | apply below_alloc | apply pw_below_drewN | apply below_drew1 | refine below_set ?_ GE115.out | refine below_set ?_ GE116.out) | exact HB.out))) : w.heap.size ≤ gb117)); have n5_ := asd ((by rw [hg]; exact (below_size (by repeat (first | (with_reducible first | exact HB.out | apply below_alloc | apply pw_below_drewN | apply below_drew1 | refine below_set ?_ GE115.out | refine below_set ?_ GE116.out) | exact HB.out))) : w.heap.size ≤ gb117)); have n6_ := asd ((by rw [hg]; exact Nat.ne_of_lt (blk_lt (g := gb115) (o := .cells #[.int .i64 a0_0, .slice A0_1 l0_1.length c0_1] 24 (0, 0)) BK115.out) : gb115 ≠ gb117)); have n7_ := asd ((by rw [hg]; exact Nat.ne_of_gt (blk_lt (g := gb115) (o := .cells #[.int .i64 a0_0, .slice A0_1 l0_1.length c0_1] 24 (0, 0)) BK115.out) : gb117 ≠ gb115)); have n8_ := asd ((by rw [hg]; exact Nat.ne_of_lt (blk_lt (g := gb116) (o := .cells #[.int .i64 0, .slice none 0 0] 24 (0, 0)) BK116.out) : gb116 ≠ gb117)); have n9_ := asd ((by rw [hg]; exact Nat.ne_of_gt (blk_lt (g := gb116) (o := .cells #[.int .i64 0, .slice none 0 0] 24 (0, 0)) BK116.out) : gb117 ≠ gb116)); clear BK115; clear BK116; clear HB; have BK115 := n0_; have BK116 := n1_; have HB := n2_; have BK117 := n3_; have GW117 := n4_; have GE117 := n5_; have NB115_117 := n6_; have NB117_115 := n7_; have NB116_117 := n8_; have NB117_116 := n9_; clear n0_ n1_ n2_ n3_ n4_ n5_ n6_ n7_ n8_ n9_; clear hb hbox hg; have hnb5 := NB115_116.out; have hnc5 := NB116_115.out; have hnb6 := NB115_117.out; have hnc6 := NB117_115.out; have hcz7_0 : w4.cell? ⟨gb115, 0, none⟩ = some (.int .i64 a0_0) := (blk_cell BK115.out 0).trans rfl; have hcz7_1 : w4.cell? ⟨gb115, 1, none⟩ = some (.slice A0_1 l0_1.length c0_1) := (blk_cell BK115.out 1).trans rfl; have hfz7_0 := blk_frozen BK115.out 0; have hfz7_1 := blk_frozen BK115.out 1))
  go_loopg [6, 17] k (fun kq v6 v17 w' => ∃ (x6_1 : List Int) (x17_1 : Int), v17 = .int .i64 x17_1 ∧ Aside0 (branch_Cut.l0 kq x6_1 l0_1 (l0_1.length : Int) x17_1 a0_0 l0_1 = some (r1, r2, r3, r4, r5, r6)) ∧ Aside0 (kq ≤ k) ∧ Aside0 (Kd.R (Kd.int .i64) 3 w' w.heap.size (fun _ => True) v6 x6_1) ∧ Aside0 (w'.heap[gb115]? = some (.cells #[.int .i64 a0_0, (.slice A0_1 l0_1.length c0_1)] 24 (0, 0))) ∧ Aside0 (w'.heap[gb116]? = some (.cells #[.int .i64 0, (.slice none 0 0)] 24 (0, 0))) ∧ Aside0 (w'.heap[gb117]? = some (.cells #[.int .i64 0, (.slice none 0 0)] 24 (0, 0))) ∧ Aside0 (Below w.heap.size w w'))
  case atStart => exact ⟨(([] : List Int)), (0), (by first | rfl | (simp; done) | (simp [*]; done)), H', ⟨Nat.le_refl _⟩, ⟨by first | exact Kd.R_nil _ _ _ _ _ | exact Kd.N_nil _ _ _ _ _ | exact Kd.V_nil _ _ _ _ _ | exact Kd.Q_nil _ _ _ _ _ | exact Kd.S_nil _ _ _ _ _⟩, ⟨by (with_reducible repeat (first | refine blk_drewN ?_ _ | refine blk_drew ?_ | refine blk_alloc ?_ _)); exact BK115.out⟩, ⟨by (with_reducible repeat (first | refine blk_drewN ?_ _ | refine blk_drew ?_ | refine blk_alloc ?_ _)); exact BK116.out⟩, ⟨by (with_reducible repeat (first | refine blk_drewN ?_ _ | refine blk_drew ?_ | refine blk_alloc ?_ _)); exact BK117.out⟩, ⟨by repeat (first | (with_reducible first | exact HB.out | apply below_alloc | apply pw_below_drewN | apply below_drew1 | refine below_set ?_ GE115.out | refine below_set ?_ GE116.out | refine below_set ?_ GE117.out) | exact HB.out)⟩⟩
  case round =>
    clear H'
    try clear c1
    try clear p2
    try clear c5
    try clear c6
    try clear hcz7_0
    try clear hcz7_1
    try clear hfz7_0
    try clear hfz7_1
    obtain ⟨x6_1, x17_1, rfl, HA, HK1, HO_6, BK115, BK116, BK117, HB⟩ := hrel
    cases gk with
    | zero => exact absurd HA.out (by simp [branch_Cut.l0])
    | succ k1 =>
      have H := HA.out
      clear HA
      simp only [branch_Cut.l0] at H
      by_cases c8 : x17_1 < (l0_1.length : Int)
      · rw [if_pos c8] at H
        have c8b0 : decide (x17_1 < (l0_1.length : Int)) = true := decide_eq_true c8
        clear c8
        by_cases c9 : 0 ≤ x17_1
        · rw [if_pos c9] at H
          have c9b0 : decide (0 ≤ x17_1) = true := decide_eq_true c9
          clear c9
          by_cases c10 : x17_1 < (l0_1.length : Int)
          · rw [if_pos c10] at H
            have c10b0 : decide (x17_1 < (l0_1.length : Int)) = true := decide_eq_true c10
            clear c10
            replace H := Option.bind_eq_some_iff.mp H
            obtain ⟨t120, A110, H⟩ := H
            replace H : (if x6_1.length < 17592186044416 then (branch_Cut.l0 k1 (x6_1 ++ [t120]) l0_1 (l0_1.length : Int) (wrap64 (x17_1 + 1)) a0_0 l0_1) else (none)) = some (r1, r2, r3, r4, r5, r6) := H
            have A11 := asd A110
            clear A110
            by_cases c12 : x6_1.length < 17592186044416
            · rw [if_pos c12] at H
              have LMc12 := asd c12
              clear c12
              obtain ⟨y121, hy121⟩ : ∃ y_ : List Int, y_ = (x6_1 ++ [t120]) := ⟨_, rfl⟩
              replace H : (branch_Cut.l0 k1 y121 l0_1 (l0_1.length : Int) (wrap64 (x17_1 + 1)) a0_0 l0_1) = some (r1, r2, r3, r4, r5, r6) := by first | (rw [hy121]; with_reducible exact H) | (have H2_ := (Option.bind_some _ _).symm.trans H; rw [hy121]; with_reducible exact H2_) | (have H2_ := (Option.bind_some _ _).symm.trans H; with_reducible exact H2_) | with_reducible exact H | (rw [hy121]; exact H) | exact H
              have Ny121 := asd hy121
              clear hy121
              have H' := asd H
              clear H
              have p118 : 0 ≤ (x17_1 : Int) := of_decide_eq_true (by first | (with_reducible assumption) | assumption)
              have q118 : x17_1 < (l0_1.length : Int) := of_decide_eq_true (by first | (with_reducible assumption) | assumption)
              obtain ⟨ad118, e118, hx118_0, hx118_1⟩ := at_T48 HR0_1.out x17_1 p118 q118
              cases e118
              replace hx118_0 := (HB.out.cell (World.block_lt_of_cell? w _ hx118_0)).trans hx118_0
              replace hx118_1 := (HB.out.cell (World.block_lt_of_cell? w _ hx118_1)).trans hx118_1
              replace p118 := eq_true p118
              replace q118 := eq_true q118
              go_wp2_with (first | ((with_reducible refine gate_dst (N := 8) rfl ?_); refine box_event ?hg (N := 8) ?hd (cs := #[.string (⟨#[]⟩ : ByteArray), .int .i64 0]) (t := 48) ?hr ?_; (case hd => rfl); (case hg => rfl); (case hr => first | (go_simp; done) | (go_simp; rfl)); intro gb119 hg w13 hbox hb; have n0_ := asd (Kd.R_below HO_6.out hb); have n1_ := asd (blk_below (g := gb115) (o := .cells #[.int .i64 a0_0, .slice (some ad118) l0_1.length c0_1] 24 (0, 0)) BK115.out hb); have n2_ := asd (blk_below (g := gb116) (o := .cells #[.int .i64 0, .slice none 0 0] 24 (0, 0)) BK116.out hb); have n3_ := asd (blk_below (g := gb117) (o := .cells #[.int .i64 0, .slice none 0 0] 24 (0, 0)) BK117.out hb); have n4_ := asd (below_step (by repeat (first | (with_reducible first | exact HB.out | apply below_alloc | apply pw_below_drewN | apply below_drew1 | refine below_set ?_ GE115.out | refine below_set ?_ GE116.out | refine below_set ?_ GE117.out) | exact HB.out)) hb); have n5_ := asd (hbox); have n6_ := asd ((by rw [hg]; exact (below_size (by repeat (first | (with_reducible first | exact HB.out | apply below_alloc | apply pw_below_drewN | apply below_drew1 | refine below_set ?_ GE115.out | refine below_set ?_ GE116.out | refine below_set ?_ GE117.out) | exact HB.out))) : w.heap.size ≤ gb119)); have n7_ := asd ((by rw [hg]; exact (below_size (by repeat (first | (with_reducible first | exact HB.out | apply below_alloc | apply pw_below_drewN | apply below_drew1 | refine below_set ?_ GE115.out | refine below_set ?_ GE116.out | refine below_set ?_ GE117.out) | exact HB.out))) : w.heap.size ≤ gb119)); have n8_ := asd ((by rw [hg]; exact Nat.ne_of_lt (blk_lt (g := gb115) (o := .cells #[.int .i64 a0_0, .slice (some ad118) l0_1.length c0_1] 24 (0, 0)) BK115.out) : gb115 ≠ gb119)); have n9_ := asd ((by rw [hg]; exact Nat.ne_of_gt (blk_lt (g := gb115) (o := .cells #[.int .i64 a0_0, .slice (some ad118) l0_1.length c0_1] 24 (0, 0)) BK115.out) : gb119 ≠ gb115)); have n10_ := asd ((by rw [hg]; exact Nat.ne_of_lt (blk_lt (g := gb116) (o := .cells #[.int .i64 0, .slice none 0 0] 24 (0, 0)) BK116.out) : gb116 ≠ gb119)); have n11_ := asd ((by rw [hg]; exact Nat.ne_of_gt (blk_lt (g := gb116) (o := .cells #[.int .i64 0, .slice none 0 0] 24 (0, 0)) BK116.out) : gb119 ≠ gb116)); have n12_ := asd ((by rw [hg]; exact Nat.ne_of_lt (blk_lt (g := gb117) (o := .cells #[.int .i64 0, .slice none 0 0] 24 (0, 0)) BK117.out) : gb117 ≠ gb119)); have n13_ := asd ((by rw [hg]; exact Nat.ne_of_gt (blk_lt (g := gb117) (o := .cells #[.int .i64 0, .slice none 0 0] 24 (0, 0)) BK117.out) : gb119 ≠ gb117)); clear HO_6; clear BK115; clear BK116; clear BK117; clear HB; have HO_6 := n0_; have BK115 := n1_; have BK116 := n2_; have BK117 := n3_; have HB := n4_; have BK119 := n5_; have GW119 := n6_; have GE119 := n7_; have NB115_119 := n8_; have NB119_115 := n9_; have NB116_119 := n10_; have NB119_116 := n11_; have NB117_119 := n12_; have NB119_117 := n13_; clear n0_ n1_ n2_ n3_ n4_ n5_ n6_ n7_ n8_ n9_ n10_ n11_ n12_ n13_; clear hb hbox hg; have hnb14 := NB119_115.out; have hnc14 := NB115_119.out; have hnb15 := NB119_116.out; have hnc15 := NB116_119.out; have hnb16 := NB119_117.out; have hnc16 := NB117_119.out; have hcz17_0 : w13.cell? ⟨gb119, 0, none⟩ = some (.string (⟨#[]⟩ : ByteArray)) := (blk_cell BK119.out 0).trans rfl; have hcz17_1 : w13.cell? ⟨gb119, 1, none⟩ = some (.int .i64 0) := (blk_cell BK119.out 1).trans rfl; have hfz17_0 := blk_frozen BK119.out 0; have hfz17_1 := blk_frozen BK119.out 1) | ((with_reducible refine gate_callee (f := 51) rfl ?_); refine goesL_ (some 23) rfl rfl Tryd.func51 (by kernel_rfl) rfl #[.agg #[.string ((rd_T48 l0_1 x17_1).f0), .int .i64 ((rd_T48 l0_1 x17_1).f1)]] rfl (by (try simp only [List.map_toArray, List.map_cons, List.map_nil]); first | done | rfl | (simp only [List.length_drop, List.length_take]; rfl)) ?_; (with_reducible refine (branch_linkSize.calls ((rd_T48 l0_1 x17_1).f0) ((rd_T48 l0_1 x17_1).f1) t120 _ A11.out).mono ?_); rintro e w18 ⟨rfl, hb⟩; refine ⟨_, rfl, ?_⟩; have n0_ := asd (Kd.R_below (by (with_reducible repeat (first | apply Kd.R_alloc | apply Kd.R_drewN | apply Kd.R_drew)); exact (Kd.R_mono (Kd.R_far (p := ⟨gb119, 1, none⟩) (Kd.R_far (p := ⟨gb119, 0, none⟩) (Kd.R_types HO_6.out BK119.out (by decide)) (fun _ hk => hk.2) (.string ((rd_T48 l0_1 x17_1).f0))) (fun _ hk => hk.2) (.int .i64 ((rd_T48 l0_1 x17_1).f1))) (fun _ h_ => h_.1))) hb); have n1_ := asd (blk_below (g := gb115) (o := .cells #[.int .i64 a0_0, .slice (some ad118) l0_1.length c0_1] 24 (0, 0)) (by (with_reducible repeat (first | refine blk_drewN ?_ _ | refine blk_drew ?_ | refine blk_alloc ?_ _)); refine blk_far ?_ NB115_119.out _; (with_reducible repeat (first | refine blk_drewN ?_ _ | refine blk_drew ?_ | refine blk_alloc ?_ _)); refine blk_far ?_ NB115_119.out _; (with_reducible repeat (first | refine blk_drewN ?_ _ | refine blk_drew ?_ | refine blk_alloc ?_ _)); exact BK115.out) hb); have n2_ := asd (blk_below (g := gb116) (o := .cells #[.int .i64 0, .slice none 0 0] 24 (0, 0)) (by (with_reducible repeat (first | refine blk_drewN ?_ _ | refine blk_drew ?_ | refine blk_alloc ?_ _)); refine blk_far ?_ NB116_119.out _; (with_reducible repeat (first | refine blk_drewN ?_ _ | refine blk_drew ?_ | refine blk_alloc ?_ _)); refine blk_far ?_ NB116_119.out _; (with_reducible repeat (first | refine blk_drewN ?_ _ | refine blk_drew ?_ | refine blk_alloc ?_ _)); exact BK116.out) hb); have n3_ := asd (blk_below (g := gb117) (o := .cells #[.int .i64 0, .slice none 0 0] 24 (0, 0)) (by (with_reducible repeat (first | refine blk_drewN ?_ _ | refine blk_drew ?_ | refine blk_alloc ?_ _)); refine blk_far ?_ NB117_119.out _; (with_reducible repeat (first | refine blk_drewN ?_ _ | refine blk_drew ?_ | refine blk_alloc ?_ _)); refine blk_far ?_ NB117_119.out _; (with_reducible repeat (first | refine blk_drewN ?_ _ | refine blk_drew ?_ | refine blk_alloc ?_ _)); exact BK117.out) hb); have n4_ := asd (blk_below (g := gb119) (o := .cells #[.string ((rd_T48 l0_1 x17_1).f0), .int .i64 ((rd_T48 l0_1 x17_1).f1)] 48 (0, 0)) (by (with_reducible repeat (first | refine blk_drewN ?_ _ | refine blk_drew ?_ | refine blk_alloc ?_ _)); refine blk_put (cs := #[.string ((rd_T48 l0_1 x17_1).f0), .int .i64 0]) ?_ 1 _ rfl; (with_reducible repeat (first | refine blk_drewN ?_ _ | refine blk_drew ?_ | refine blk_alloc ?_ _)); refine blk_put (cs := #[.string (⟨#[]⟩ : ByteArray), .int .i64 0]) ?_ 0 _ rfl; (with_reducible repeat (first | refine blk_drewN ?_ _ | refine blk_drew ?_ | refine blk_alloc ?_ _)); exact BK119.out) hb); have n5_ := asd (below_step (by repeat (first | (with_reducible first | exact HB.out | apply below_alloc | apply pw_below_drewN | apply below_drew1 | refine below_set ?_ GE115.out | refine below_set ?_ GE116.out | refine below_set ?_ GE117.out | refine below_set ?_ GE119.out) | exact HB.out)) hb); clear HO_6; clear BK115; clear BK116; clear BK117; clear BK119; clear HB; have HO_6 := n0_; have BK115 := n1_; have BK116 := n2_; have BK117 := n3_; have BK119 := n4_; have HB := n5_; clear n0_ n1_ n2_ n3_ n4_ n5_; (try clear hb); (try clear hb2); (try clear hk); (try clear hi)) | ((with_reducible refine gate_builtin (b := .append) (xs := #[.tmp 21, .tmp 24]) rfl ?_); at_builtin; refine Kd.R_append (Kd.int .i64) (w0 := w) w.heap.size rfl (.tmp 21) (.tmp 24) 86 3 (.int .i64 0) 8 rfl Tryd.underlying86 info3 rfl (by decide) (by omega) u6 x6_1 t120 [.int .i64 t120] (fun _ => True) (fun _ => False) rfl rfl ?aP (fun _ hk => hk.elim) ?aF ?aO ?aB ?aS ?aL ?_; (case aP => exact rfl); (case aB => exact (by repeat (first | (with_reducible first | exact HB.out | apply below_alloc | apply pw_below_drewN | apply below_drew1 | refine below_set ?_ GE115.out | refine below_set ?_ GE116.out | refine below_set ?_ GE117.out | refine below_set ?_ GE119.out) | exact HB.out))); (case aF => exact (fun _ _ => trivial)); (case aO => exact HO_6.out); (case aS => exact (below_size (by repeat (first | (with_reducible first | exact HB.out | apply below_alloc | apply pw_below_drewN | apply below_drew1 | refine below_set ?_ GE115.out | refine below_set ?_ GE116.out | refine below_set ?_ GE117.out | refine below_set ?_ GE119.out) | exact HB.out)))); (case aL => have := LMc12.out; omega); intro v122 w19 ho hb hg hat; rw [← Ny121.out] at ho; have n0_ := asd (blk_grown (g := gb115) (o := .cells #[.int .i64 a0_0, .slice (some ad118) l0_1.length c0_1] 24 (0, 0)) BK115.out hg (Kd.R_ne HO_6.out BK115.out (by decide))); have n1_ := asd (blk_grown (g := gb116) (o := .cells #[.int .i64 0, .slice none 0 0] 24 (0, 0)) BK116.out hg (Kd.R_ne HO_6.out BK116.out (by decide))); have n2_ := asd (blk_grown (g := gb117) (o := .cells #[.int .i64 0, .slice none 0 0] 24 (0, 0)) BK117.out hg (Kd.R_ne HO_6.out BK117.out (by decide))); have n3_ := asd (blk_grown (g := gb119) (o := .cells #[.string ((rd_T48 l0_1 x17_1).f0), .int .i64 ((rd_T48 l0_1 x17_1).f1)] 48 (0, 0)) BK119.out hg (Kd.R_ne HO_6.out BK119.out (by decide))); have n4_ := asd (hb); have n5_ := asd (ho); clear BK115; clear BK116; clear BK117; clear BK119; clear HB; clear HO_6; have BK115 := n0_; have BK116 := n1_; have BK117 := n2_; have BK119 := n3_; have HB := n4_; have HO123 := n5_; clear n0_ n1_ n2_ n3_ n4_ n5_; clear ho hb hg hat))
              go_roundg k1
              case measure => have := HK1.out; omega
              case rel => exact ⟨(y121), (wrap64 (x17_1 + 1)), (by first | rfl | (simp; done) | (simp [*]; done)), H', ⟨by have := HK1.out; omega⟩, ⟨by (with_reducible repeat (first | apply Kd.R_alloc | apply Kd.R_drewN | apply Kd.R_drew)); exact HO123.out⟩, ⟨by (with_reducible repeat (first | refine blk_drewN ?_ _ | refine blk_drew ?_ | refine blk_alloc ?_ _)); exact BK115.out⟩, ⟨by (with_reducible repeat (first | refine blk_drewN ?_ _ | refine blk_drew ?_ | refine blk_alloc ?_ _)); exact BK116.out⟩, ⟨by (with_reducible repeat (first | refine blk_drewN ?_ _ | refine blk_drew ?_ | refine blk_alloc ?_ _)); exact BK117.out⟩, ⟨by repeat (first | (with_reducible first | exact HB.out | apply below_alloc | apply pw_below_drewN | apply below_drew1 | refine below_set ?_ GE115.out | refine below_set ?_ GE116.out | refine below_set ?_ GE117.out | refine below_set ?_ GE119.out) | exact HB.out)⟩⟩
            · rw [if_neg c12] at H
              exact absurd H (by simp)
          · rw [if_neg c10] at H
            exact absurd H (by simp)
        · rw [if_neg c9] at H
          exact absurd H (by simp)
      · rw [if_neg c8] at H
        have c8b0 : decide (x17_1 < (l0_1.length : Int)) = false := decide_eq_false c8
        clear c8
        replace H := Option.bind_eq_some_iff.mp H
        obtain ⟨⟨t124, t125⟩, A200, H⟩ := H
        replace H : (if t125.isNone = true then (if 0 ≤ t124 then (if t124 < (l0_1.length : Int) then (if t124 ≤ (l0_1.length : Int) then ((Clone_Link.f (l0_1.take (t124 : Int).toNat)).bind fun t133 => (if 0 ≤ (wrap64 (t124 + 1)) then (if (wrap64 (t124 + 1)) ≤ (l0_1.length : Int) then ((Clone_Link.f (l0_1.drop ((wrap64 (t124 + 1)) : Int).toNat)).bind fun t141 => (some (a0_0, t133, (rd_T48 l0_1 t124).f0, (rd_T48 l0_1 t124).f1, t141, none))) else (none)) else (none))) else (none)) else (none)) else (none)) else (some (0, ([] : List (S48)), (⟨#[]⟩ : ByteArray), 0, ([] : List (S48)), some (t125.getD 0)))) = some (r1, r2, r3, r4, r5, r6) := H
        have A20 := asd A200
        clear A200
        rcases t125 with _ | q126
        · have H1 : (if 0 ≤ t124 then (if t124 < (l0_1.length : Int) then (if t124 ≤ (l0_1.length : Int) then ((Clone_Link.f (l0_1.take (t124 : Int).toNat)).bind fun t133 => (if 0 ≤ (wrap64 (t124 + 1)) then (if (wrap64 (t124 + 1)) ≤ (l0_1.length : Int) then ((Clone_Link.f (l0_1.drop ((wrap64 (t124 + 1)) : Int).toNat)).bind fun t141 => (some (a0_0, t133, (rd_T48 l0_1 t124).f0, (rd_T48 l0_1 t124).f1, t141, none))) else (none)) else (none))) else (none)) else (none)) else (none)) = some (r1, r2, r3, r4, r5, r6) := by rw [if_pos (show (none : Option Int).isNone = true by rfl)] at H; exact H
          clear H
          have H := H1
          clear H1
          try simp only [errW_none, errW_some]
          by_cases c21 : 0 ≤ t124
          · rw [if_pos c21] at H
            have c21b0 : decide (0 ≤ t124) = true := decide_eq_true c21
            clear c21
            by_cases c22 : t124 < (l0_1.length : Int)
            · rw [if_pos c22] at H
              have c22b0 : decide (t124 < (l0_1.length : Int)) = true := decide_eq_true c22
              clear c22
              have c23b0 := eq_true (of_decide_eq_true (by first | (with_reducible assumption) | assumption) : 0 ≤ t124)
              by_cases c24 : t124 ≤ (l0_1.length : Int)
              · rw [if_pos c24] at H
                have c24b0 := eq_true c24
                have c24b1 : decide (t124 ≤ (l0_1.length : Int)) = true := decide_eq_true c24
                clear c24
                obtain ⟨y129, hy129⟩ : ∃ y_ : List (S48), y_ = (l0_1.take (t124 : Int).toNat) := ⟨_, rfl⟩
                replace H : ((Clone_Link.f y129).bind fun t133 => (if 0 ≤ (wrap64 (t124 + 1)) then (if (wrap64 (t124 + 1)) ≤ (l0_1.length : Int) then ((Clone_Link.f (l0_1.drop ((wrap64 (t124 + 1)) : Int).toNat)).bind fun t141 => (some (a0_0, t133, (rd_T48 l0_1 t124).f0, (rd_T48 l0_1 t124).f1, t141, none))) else (none)) else (none))) = some (r1, r2, r3, r4, r5, r6) := by first | (rw [hy129]; with_reducible exact H) | (have H2_ := (Option.bind_some _ _).symm.trans H; rw [hy129]; with_reducible exact H2_) | (have H2_ := (Option.bind_some _ _).symm.trans H; with_reducible exact H2_) | with_reducible exact H | (rw [hy129]; exact H) | exact H
                have Ny129 := asd hy129
                clear hy129
                replace H := Option.bind_eq_some_iff.mp H
                obtain ⟨t133, A250, H⟩ := H
                replace H : (if 0 ≤ (wrap64 (t124 + 1)) then (if (wrap64 (t124 + 1)) ≤ (l0_1.length : Int) then ((Clone_Link.f (l0_1.drop ((wrap64 (t124 + 1)) : Int).toNat)).bind fun t141 => (some (a0_0, t133, (rd_T48 l0_1 t124).f0, (rd_T48 l0_1 t124).f1, t141, none))) else (none)) else (none)) = some (r1, r2, r3, r4, r5, r6) := H
                have A25 := asd A250
                clear A250
                obtain ⟨ji26, hji26⟩ : ∃ j_ : Int, (wrap64 (t124 + 1)) = j_ := ⟨_, rfl⟩
                replace H : (if 0 ≤ (ji26) then (if (ji26) ≤ (l0_1.length : Int) then ((Clone_Link.f (l0_1.drop ((ji26) : Int).toNat)).bind fun t141 => (some (a0_0, t133, (rd_T48 l0_1 t124).f0, (rd_T48 l0_1 t124).f1, t141, none))) else (none)) else (none)) = some (r1, r2, r3, r4, r5, r6) := by first | (rw [hji26] at H; exact H) | (simp only [hji26] at H ⊢; exact H)
                (try rw [hji26] at A20)
                (try rw [hji26] at A25)
                have hji26w : (IntKind.i64.wrap (t124 + 1)) = ji26 := (i64_w _).trans hji26
                by_cases c27 : 0 ≤ (ji26)
                · rw [if_pos c27] at H
                  have c27b0 := eq_true c27
                  have c27b1 : decide (0 ≤ (ji26)) = true := decide_eq_true c27
                  clear c27
                  by_cases c28 : (ji26) ≤ (l0_1.length : Int)
                  · rw [if_pos c28] at H
                    have c28b0 := eq_true c28
                    have c28b1 : decide ((ji26) ≤ (l0_1.length : Int)) = true := decide_eq_true c28
                    clear c28
                    obtain ⟨y137, hy137⟩ : ∃ y_ : List (S48), y_ = (l0_1.drop ((ji26) : Int).toNat) := ⟨_, rfl⟩
                    replace H : ((Clone_Link.f y137).bind fun t141 => (some (a0_0, t133, (rd_T48 l0_1 t124).f0, (rd_T48 l0_1 t124).f1, t141, none))) = some (r1, r2, r3, r4, r5, r6) := by first | (rw [hy137]; with_reducible exact H) | (have H2_ := (Option.bind_some _ _).symm.trans H; rw [hy137]; with_reducible exact H2_) | (have H2_ := (Option.bind_some _ _).symm.trans H; with_reducible exact H2_) | with_reducible exact H | (rw [hy137]; exact H) | exact H
                    have Ny137 := asd hy137
                    clear hy137
                    replace H := Option.bind_eq_some_iff.mp H
                    obtain ⟨t141, A290, H⟩ := H
                    replace H : (some (a0_0, t133, (rd_T48 l0_1 t124).f0, (rd_T48 l0_1 t124).f1, t141, none)) = some (r1, r2, r3, r4, r5, r6) := H
                    have A29 := asd A290
                    clear A290
                    simp only [Option.some.injEq, Prod.mk.injEq] at H
                    obtain ⟨rfl, rfl, rfl, rfl, rfl, rfl⟩ := H
                    obtain ⟨Ao30, co30, eo30⟩ := Kd.R_slice HO_6.out
                    subst eo30
                    try go_wp2_with (first | ((with_reducible refine gate_callee (f := 52) rfl ?_); refine goesL_ (some 29) rfl rfl Tryd.func52 (by kernel_rfl) rfl #[.slice Ao30 x6_1.length co30] rfl (by (try simp only [List.map_toArray, List.map_cons, List.map_nil]); first | done | rfl | (simp only [List.length_drop, List.length_take]; rfl)) ?_; (with_reducible refine (cells_Pivot.calls (B_ := B_) _ _ x6_1 t124 none _ ?side3 ?side1 ?side2 A20.out).mono ?_); (case side1 => repeat (first | exact (Kd.R_reads' HO_6.out).2.2 | (with_reducible refine Kd.C_alloc ?_ _) | (with_reducible refine Kd.C_drewN ?_ _) | (with_reducible refine Kd.C_drew ?_))); (case side2 => exact (Kd.R_reads' HO_6.out).2.1); (case side3 => exact Sen.sub (Sen.below HE.out (by repeat (first | (with_reducible first | exact HB.out | apply below_alloc | apply pw_below_drewN | apply below_drew1 | refine below_set ?_ GE115.out | refine below_set ?_ GE116.out | refine below_set ?_ GE117.out) | exact HB.out))) (by decide)); rintro e w31 ⟨rfl, hb⟩; refine ⟨_, rfl, ?_⟩; have n0_ := asd (Kd.R_below HO_6.out hb); have n1_ := asd (blk_below (g := gb115) (o := .cells #[.int .i64 a0_0, .slice A0_1 l0_1.length c0_1] 24 (0, 0)) BK115.out hb); have n2_ := asd (blk_below (g := gb116) (o := .cells #[.int .i64 0, .slice none 0 0] 24 (0, 0)) BK116.out hb); have n3_ := asd (blk_below (g := gb117) (o := .cells #[.int .i64 0, .slice none 0 0] 24 (0, 0)) BK117.out hb); have n4_ := asd (below_step (by repeat (first | (with_reducible first | exact HB.out | apply below_alloc | apply pw_below_drewN | apply below_drew1 | refine below_set ?_ GE115.out | refine below_set ?_ GE116.out | refine below_set ?_ GE117.out) | exact HB.out)) hb); clear HO_6; clear BK115; clear BK116; clear BK117; clear HB; have HO_6 := n0_; have BK115 := n1_; have BK116 := n2_; have BK117 := n3_; have HB := n4_; clear n0_ n1_ n2_ n3_ n4_; (try clear hb); (try clear hb2); (try clear hk); (try clear hi); (try simp only [errW_none, errW_some]); have hnb32 := NB115_116.out; have hnc32 := NB116_115.out; have hnb33 := NB115_117.out; have hnc33 := NB117_115.out; have hcz34_0 : w31.cell? ⟨gb115, 0, none⟩ = some (.int .i64 a0_0) := (blk_cell BK115.out 0).trans rfl; have hcz34_1 : w31.cell? ⟨gb115, 1, none⟩ = some (.slice A0_1 l0_1.length c0_1) := (blk_cell BK115.out 1).trans rfl; have hfz34_0 := blk_frozen BK115.out 0; have hfz34_1 := blk_frozen BK115.out 1; have p127 : 0 ≤ (t124 : Int) := of_decide_eq_true (by first | (with_reducible assumption) | assumption); have q127 : t124 < (l0_1.length : Int) := of_decide_eq_true (by first | (with_reducible assumption) | assumption); obtain ⟨ad127, e127, hx127_0, hx127_1⟩ := at_T48 HR0_1.out t124 p127 q127; cases e127; replace hx127_0 := (HB.out.cell (World.block_lt_of_cell? w _ hx127_0)).trans hx127_0; replace hx127_1 := (HB.out.cell (World.block_lt_of_cell? w _ hx127_1)).trans hx127_1; replace p127 := eq_true p127; replace q127 := eq_true q127) | ((with_reducible refine gate_dst (N := 11) rfl ?_); refine box_event ?hg (N := 11) ?hd (cs := #[.string (⟨#[]⟩ : ByteArray), .int .i64 0]) (t := 48) ?hr ?_; (case hd => rfl); (case hg => rfl); (case hr => first | (go_simp; done) | (go_simp; rfl)); intro gb128 hg w35 hbox hb; have n0_ := asd (Kd.R_below HO_6.out hb); have n1_ := asd (blk_below (g := gb115) (o := .cells #[.int .i64 a0_0, .slice (some ad127) l0_1.length c0_1] 24 (0, 0)) BK115.out hb); have n2_ := asd (blk_below (g := gb116) (o := .cells #[.int .i64 0, .slice none 0 0] 24 (0, 0)) BK116.out hb); have n3_ := asd (blk_below (g := gb117) (o := .cells #[.int .i64 0, .slice none 0 0] 24 (0, 0)) BK117.out hb); have n4_ := asd (below_step (by repeat (first | (with_reducible first | exact HB.out | apply below_alloc | apply pw_below_drewN | apply below_drew1 | refine below_set ?_ GE115.out | refine below_set ?_ GE116.out | refine below_set ?_ GE117.out) | exact HB.out)) hb); have n5_ := asd (hbox); have n6_ := asd ((by rw [hg]; exact (below_size (by repeat (first | (with_reducible first | exact HB.out | apply below_alloc | apply pw_below_drewN | apply below_drew1 | refine below_set ?_ GE115.out | refine below_set ?_ GE116.out | refine below_set ?_ GE117.out) | exact HB.out))) : w.heap.size ≤ gb128)); have n7_ := asd ((by rw [hg]; exact (below_size (by repeat (first | (with_reducible first | exact HB.out | apply below_alloc | apply pw_below_drewN | apply below_drew1 | refine below_set ?_ GE115.out | refine below_set ?_ GE116.out | refine below_set ?_ GE117.out) | exact HB.out))) : w.heap.size ≤ gb128)); have n8_ := asd ((by rw [hg]; exact Nat.ne_of_lt (blk_lt (g := gb115) (o := .cells #[.int .i64 a0_0, .slice (some ad127) l0_1.length c0_1] 24 (0, 0)) BK115.out) : gb115 ≠ gb128)); have n9_ := asd ((by rw [hg]; exact Nat.ne_of_gt (blk_lt (g := gb115) (o := .cells #[.int .i64 a0_0, .slice (some ad127) l0_1.length c0_1] 24 (0, 0)) BK115.out) : gb128 ≠ gb115)); have n10_ := asd ((by rw [hg]; exact Nat.ne_of_lt (blk_lt (g := gb116) (o := .cells #[.int .i64 0, .slice none 0 0] 24 (0, 0)) BK116.out) : gb116 ≠ gb128)); have n11_ := asd ((by rw [hg]; exact Nat.ne_of_gt (blk_lt (g := gb116) (o := .cells #[.int .i64 0, .slice none 0 0] 24 (0, 0)) BK116.out) : gb128 ≠ gb116)); have n12_ := asd ((by rw [hg]; exact Nat.ne_of_lt (blk_lt (g := gb117) (o := .cells #[.int .i64 0, .slice none 0 0] 24 (0, 0)) BK117.out) : gb117 ≠ gb128)); have n13_ := asd ((by rw [hg]; exact Nat.ne_of_gt (blk_lt (g := gb117) (o := .cells #[.int .i64 0, .slice none 0 0] 24 (0, 0)) BK117.out) : gb128 ≠ gb117)); clear HO_6; clear BK115; clear BK116; clear BK117; clear HB; have HO_6 := n0_; have BK115 := n1_; have BK116 := n2_; have BK117 := n3_; have HB := n4_; have BK128 := n5_; have GW128 := n6_; have GE128 := n7_; have NB115_128 := n8_; have NB128_115 := n9_; have NB116_128 := n10_; have NB128_116 := n11_; have NB117_128 := n12_; have NB128_117 := n13_; clear n0_ n1_ n2_ n3_ n4_ n5_ n6_ n7_ n8_ n9_ n10_ n11_ n12_ n13_; clear hb hbox hg; have hnb36 := NB128_115.out; have hnc36 := NB115_128.out; have hnb37 := NB128_116.out; have hnc37 := NB116_128.out; have hnb38 := NB128_117.out; have hnc38 := NB117_128.out; have hcz39_0 : w35.cell? ⟨gb128, 0, none⟩ = some (.string (⟨#[]⟩ : ByteArray)) := (blk_cell BK128.out 0).trans rfl; have hcz39_1 : w35.cell? ⟨gb128, 1, none⟩ = some (.int .i64 0) := (blk_cell BK128.out 1).trans rfl; have hfz39_0 := blk_frozen BK128.out 0; have hfz39_1 := blk_frozen BK128.out 1))
                    have n0_ : Aside0 (Kd.R (Kd.int .i64) 3 ((w35.setCell ⟨gb128, 0, none⟩ (.string ((rd_T48 l0_1 t124).f0))).setCell ⟨gb128, 1, none⟩ (.int .i64 ((rd_T48 l0_1 t124).f1))) w.heap.size (fun _ => True) (.slice Ao30 x6_1.length co30) x6_1) := ⟨by (with_reducible repeat (first | apply Kd.R_alloc | apply Kd.R_drewN | apply Kd.R_drew)); exact Kd.R_mono (Kd.R_far (p := ⟨gb128, 1, none⟩) (Kd.R_far (p := ⟨gb128, 0, none⟩) (Kd.R_types HO_6.out BK128.out (by decide)) (fun _ hk => hk.2) (.string ((rd_T48 l0_1 t124).f0))) (fun _ hk => hk.2) (.int .i64 ((rd_T48 l0_1 t124).f1))) (fun _ hk => trivial)⟩
                    have n1_ : Aside0 (((w35.setCell ⟨gb128, 0, none⟩ (.string ((rd_T48 l0_1 t124).f0))).setCell ⟨gb128, 1, none⟩ (.int .i64 ((rd_T48 l0_1 t124).f1))).heap[gb115]? = some (.cells #[.int .i64 a0_0, .slice (some ad127) l0_1.length c0_1] 24 (0, 0))) := ⟨by (with_reducible repeat (first | refine blk_drewN ?_ _ | refine blk_drew ?_ | refine blk_alloc ?_ _)); refine blk_far ?_ NB115_128.out _; (with_reducible repeat (first | refine blk_drewN ?_ _ | refine blk_drew ?_ | refine blk_alloc ?_ _)); refine blk_far ?_ NB115_128.out _; (with_reducible repeat (first | refine blk_drewN ?_ _ | refine blk_drew ?_ | refine blk_alloc ?_ _)); exact BK115.out⟩
                    have n2_ : Aside0 (((w35.setCell ⟨gb128, 0, none⟩ (.string ((rd_T48 l0_1 t124).f0))).setCell ⟨gb128, 1, none⟩ (.int .i64 ((rd_T48 l0_1 t124).f1))).heap[gb116]? = some (.cells #[.int .i64 0, .slice none 0 0] 24 (0, 0))) := ⟨by (with_reducible repeat (first | refine blk_drewN ?_ _ | refine blk_drew ?_ | refine blk_alloc ?_ _)); refine blk_far ?_ NB116_128.out _; (with_reducible repeat (first | refine blk_drewN ?_ _ | refine blk_drew ?_ | refine blk_alloc ?_ _)); refine blk_far ?_ NB116_128.out _; (with_reducible repeat (first | refine blk_drewN ?_ _ | refine blk_drew ?_ | refine blk_alloc ?_ _)); exact BK116.out⟩
                    have n3_ : Aside0 (((w35.setCell ⟨gb128, 0, none⟩ (.string ((rd_T48 l0_1 t124).f0))).setCell ⟨gb128, 1, none⟩ (.int .i64 ((rd_T48 l0_1 t124).f1))).heap[gb117]? = some (.cells #[.int .i64 0, .slice none 0 0] 24 (0, 0))) := ⟨by (with_reducible repeat (first | refine blk_drewN ?_ _ | refine blk_drew ?_ | refine blk_alloc ?_ _)); refine blk_far ?_ NB117_128.out _; (with_reducible repeat (first | refine blk_drewN ?_ _ | refine blk_drew ?_ | refine blk_alloc ?_ _)); refine blk_far ?_ NB117_128.out _; (with_reducible repeat (first | refine blk_drewN ?_ _ | refine blk_drew ?_ | refine blk_alloc ?_ _)); exact BK117.out⟩
                    have n4_ : Aside0 (((w35.setCell ⟨gb128, 0, none⟩ (.string ((rd_T48 l0_1 t124).f0))).setCell ⟨gb128, 1, none⟩ (.int .i64 ((rd_T48 l0_1 t124).f1))).heap[gb128]? = some (.cells #[.string ((rd_T48 l0_1 t124).f0), .int .i64 ((rd_T48 l0_1 t124).f1)] 48 (0, 0))) := ⟨by (with_reducible repeat (first | refine blk_drewN ?_ _ | refine blk_drew ?_ | refine blk_alloc ?_ _)); refine blk_put (cs := #[.string ((rd_T48 l0_1 t124).f0), .int .i64 0]) ?_ 1 _ rfl; (with_reducible repeat (first | refine blk_drewN ?_ _ | refine blk_drew ?_ | refine blk_alloc ?_ _)); refine blk_put (cs := #[.string (⟨#[]⟩ : ByteArray), .int .i64 0]) ?_ 0 _ rfl; (with_reducible repeat (first | refine blk_drewN ?_ _ | refine blk_drew ?_ | refine blk_alloc ?_ _)); exact BK128.out⟩
                    have n5_ : Aside0 (Below w.heap.size w ((w35.setCell ⟨gb128, 0, none⟩ (.string ((rd_T48 l0_1 t124).f0))).setCell ⟨gb128, 1, none⟩ (.int .i64 ((rd_T48 l0_1 t124).f1)))) := ⟨by repeat (first | (with_reducible first | exact HB.out | apply below_alloc | apply pw_below_drewN | apply below_drew1 | refine below_set ?_ GE115.out | refine below_set ?_ GE116.out | refine below_set ?_ GE117.out | refine below_set ?_ GE128.out) | exact HB.out)⟩
                    (try clear HO_6)
                    (try clear BK115)
                    (try clear BK116)
                    (try clear BK117)
                    (try clear BK128)
                    (try clear HB)
                    generalize ((w35.setCell ⟨gb128, 0, none⟩ (.string ((rd_T48 l0_1 t124).f0))).setCell ⟨gb128, 1, none⟩ (.int .i64 ((rd_T48 l0_1 t124).f1))) = w40 at n0_ n1_ n2_ n3_ n4_ n5_ ⊢
                    have HO_6 := n0_
                    have BK115 := n1_
                    have BK116 := n2_
                    have BK117 := n3_
                    have BK128 := n4_
                    have HB := n5_
                    clear n0_ n1_ n2_ n3_ n4_ n5_
                    have n0_ := asd (Kd.R_drew HO_6.out)
                    have n1_ := asd (blk_drew BK115.out)
                    have n2_ := asd (blk_drew BK116.out)
                    have n3_ := asd (blk_drew BK117.out)
                    have n4_ := asd (blk_drew BK128.out)
                    have n5_ := asd (below_drew1 HB.out)
                    clear HO_6
                    clear BK115
                    clear BK116
                    clear BK117
                    clear BK128
                    clear HB
                    have HO_6 := n0_
                    have BK115 := n1_
                    have BK116 := n2_
                    have BK117 := n3_
                    have BK128 := n4_
                    have HB := n5_
                    clear n0_ n1_ n2_ n3_ n4_ n5_
                    have q42 : (t124 : Int) ≤ ((l0_1.length : Int) : Int) := of_decide_eq_true (by first | (with_reducible assumption) | assumption)
                    obtain ⟨i042, hi042, _, hsz42, _⟩ := info_parts info48
                    have hroom42 : l0_1.length ≤ c0_1 := HC0_1.out
                    have hC42 : Kd.C k48 _ (some ad127) l0_1.length l0_1 := HR0_1.out
                    have hcut42 := cut_to (P := Tryd.prog) 22 48 .i64 Tryd.underlying22 hi042 (some ad127) l0_1.length c0_1 t124 (of_decide_eq_true (by first | (with_reducible assumption) | assumption)) q42 hroom42
                    have hr42 := Kd.C_take (m := (t124 : Int).toNat) hC42 (by omega)
                    have hy42 : y129.length = (t124 : Int).toNat := (by rw [Ny129.out, List.length_take]; omega)
                    rw [← Ny129.out] at hr42
                    rw [← hy42] at hcut42
                    have HR132 := asd hr42
                    have HC132 := asd (show y129.length ≤ c0_1 from by omega)
                    clear hr42 hC42 hroom42 hi042 hsz42
                    have KY42 := asd hy42
                    clear hy42
                    replace q42 := eq_true q42
                    refine start_ (n := 10) (S := fun w' => w'.cell? ⟨gb115, 0, none⟩ = some (.int .i64 a0_0) ∧ w'.cell? ⟨gb115, 1, none⟩ = some (.slice (some ad127) l0_1.length c0_1)) (ds := []) #[false, false, false, false, false, false, false, false, false, false] (by kernel_rfl) rfl rfl ⟨(blk_cell BK115.out 0).trans rfl, (blk_cell BK115.out 1).trans rfl⟩ (fun hHeld => ?_); refine with_tabW branch_Cut.tab11 branch_Cut.bits11 (fun HT_ HW_ => ?_)
                    generalize w40.drew = w41 at HO_6 BK115 BK116 BK117 BK128 HB HR132 hHeld ⊢
                    refine pure_ (i := 0) (N := some 42) (v := ?_) (a' := ?_) #[true, false, false, false, false, false, false, false, false, false] rfl rfl (any_of HT_.out (by kernel_rfl)) (fun _ _ _ h => h) (Or.inl ⟨by rfl, ?_⟩) ?_ ?_
                    rotate_left
                    · intro w'
                      go_simp
                      with_reducible rfl
                    rotate_left
                    · simp only [Act.put, List.setIfInBounds_toArray, List.set_cons_zero, List.set_cons_succ, i64_w, i32_w]
                      rfl
                    refine pure_ (i := 2) (N := some 44) (v := ?_) (a' := ?_) #[true, false, true, false, false, false, false, false, false, false] rfl rfl (any_of HT_.out (by kernel_rfl)) (fun _ _ _ h => h) (Or.inl ⟨by rfl, ?_⟩) ?_ ?_
                    rotate_left
                    · intro w'
                      go_simp
                      with_reducible rfl
                    rotate_left
                    · simp only [Act.put, List.setIfInBounds_toArray, List.set_cons_zero, List.set_cons_succ, i64_w, i32_w]
                      rfl
                    refine pure_ (i := 4) (N := some 46) (v := ?_) (a' := ?_) #[true, false, true, false, true, false, false, false, false, false] rfl rfl (any_of HT_.out (by kernel_rfl)) (fun _ _ _ h => h) (Or.inl ⟨by rfl, ?_⟩) ?_ ?_
                    rotate_left
                    · intro w'
                      go_simp
                      with_reducible rfl
                    rotate_left
                    · simp only [Act.put, List.setIfInBounds_toArray, List.set_cons_zero, List.set_cons_succ, i64_w, i32_w]
                      rfl
                    refine take_ (i := 1) (N := some 43) (v := ?_) (a' := ?_) #[true, true, true, false, true, false, false, false, false, false] rfl rfl (take_ofW HT_.out HW_.out (by kernel_rfl)) (fun _ _ _ h => h) (Or.inl ⟨by rfl, ?_⟩) hHeld ?_ ?_
                    rotate_left
                    · rintro w' ⟨s0, s1⟩
                      go_simp
                      with_reducible rfl
                    rotate_left
                    · simp only [Act.put, List.setIfInBounds_toArray, List.set_cons_zero, List.set_cons_succ, i64_w, i32_w]
                      rfl
                    refine take_ (i := 3) (N := some 45) (v := ?_) (a' := ?_) #[true, true, true, true, true, false, false, false, false, false] rfl rfl (take_ofW HT_.out HW_.out (by kernel_rfl)) (fun _ _ _ h => h) (Or.inl ⟨by rfl, ?_⟩) hHeld ?_ ?_
                    rotate_left
                    · rintro w' ⟨s0, s1⟩
                      go_simp
                      with_reducible rfl
                    rotate_left
                    · simp only [Act.put, List.setIfInBounds_toArray, List.set_cons_zero, List.set_cons_succ, i64_w, i32_w]
                      rfl
                    refine pure_ (i := 5) (N := some 47) (v := ?_) (a' := ?_) #[true, true, true, true, true, true, false, false, false, false] rfl rfl (any_of HT_.out (by kernel_rfl)) (fun _ _ _ h => h) (Or.inl ⟨by rfl, ?_⟩) ?_ ?_
                    rotate_left
                    · intro w'
                      go_simp
                      with_reducible rfl
                    rotate_left
                    · simp only [Act.put, List.setIfInBounds_toArray, List.set_cons_zero, List.set_cons_succ, i64_w, i32_w]
                      rfl
                    refine join_ (σ := Value × Nat) 1 #[true, true, true, true, true, true, true, true, true, false] (fun s_ => [(48, s_.1), (12, .pointer (some ⟨s_.2, 0, none⟩)), (49, .agg #[.int .i64 a0_0, s_.1])]) (fun s_ w' => (w'.cell? ⟨gb115, 0, none⟩ = some (.int .i64 a0_0) ∧ w'.cell? ⟨gb115, 1, none⟩ = some (.slice (some ad127) l0_1.length c0_1)) ∧ (Kd.R k48 48 w' w.heap.size (fun k_ => k_ ≠ gb128) s_.1 t133) ∧ (Kd.R (Kd.int .i64) 3 w' w.heap.size (fun _ => True) (.slice Ao30 x6_1.length co30) x6_1) ∧ (w'.heap[gb115]? = some (.cells #[.int .i64 a0_0, .slice (some ad127) l0_1.length c0_1] 24 (0, 0))) ∧ (w'.heap[gb116]? = some (.cells #[.int .i64 0, .slice none 0 0] 24 (0, 0))) ∧ (w'.heap[gb117]? = some (.cells #[.int .i64 0, .slice none 0 0] 24 (0, 0))) ∧ (w'.heap[gb128]? = some (.cells #[.string ((rd_T48 l0_1 t124).f0), .int .i64 ((rd_T48 l0_1 t124).f1)] 48 (0, 0))) ∧ (w'.heap[s_.2]? = some (.cells #[.int .i64 0, .slice none 0 0] 24 (0, 0))) ∧ (w.heap.size ≤ s_.2) ∧ (w.heap.size ≤ s_.2) ∧ (gb115 ≠ s_.2) ∧ (s_.2 ≠ gb115) ∧ (gb116 ≠ s_.2) ∧ (s_.2 ≠ gb116) ∧ (gb117 ≠ s_.2) ∧ (s_.2 ≠ gb117) ∧ (gb128 ≠ s_.2) ∧ (s_.2 ≠ gb128) ∧ (Below w.heap.size w w')) ?_ ?_
                    rotate_left
                    · intro hCont
                      refine two_ (i := 6) (j := 8) (Ni := some 48) (Nj := some 12) #[true, true, true, true, true, true, true, false, false, false] #[true, true, true, true, true, true, false, false, true, false] rfl rfl rfl rfl (two_of HT_.out (by kernel_rfl)) (by decide) (by decide) (fun K hK => ?_) (fun K hK => ?_)
                      · skip
                        refine goes_ Tryd.func53 (by kernel_rfl) rfl #[.slice (some ad127) y129.length c0_1] (by rfl) rfl rfl (by (try simp only [List.map_toArray, List.map_cons, List.map_nil]); first | done | rfl | (simp only [List.length_drop, List.length_take]; rfl)) ?_
                        with_reducible refine (Clone_Link.calls _ _ y129 t133 _ ?side1 ?side2 A25.out).mono ?_
                        (case side1 => repeat (first | exact (Kd.C_below HR132.out HB.out) | (with_reducible refine Kd.C_alloc ?_ _) | (with_reducible refine Kd.C_drewN ?_ _) | (with_reducible refine Kd.C_drew ?_)))
                        (case side2 => exact HC132.out)
                        rintro e w43 ⟨v134, rfl, ho0, hb⟩
                        refine ⟨_, rfl, ?_⟩
                        have n0_ := asd (Kd.R_below HO_6.out hb)
                        have n1_ := asd (Kd.R_lower (Kd.R_newB ho0 (g := gb128) (o := .cells #[.string ((rd_T48 l0_1 t124).f0), .int .i64 ((rd_T48 l0_1 t124).f1)] 48 (0, 0)) BK128.out) (below_size (by repeat (first | (with_reducible first | exact HB.out | apply below_alloc | apply pw_below_drewN | apply below_drew1 | refine below_set ?_ GE115.out | refine below_set ?_ GE116.out | refine below_set ?_ GE117.out | refine below_set ?_ GE128.out) | exact HB.out))))
                        have n2_ := asd (blk_below (g := gb115) (o := .cells #[.int .i64 a0_0, .slice (some ad127) l0_1.length c0_1] 24 (0, 0)) BK115.out hb)
                        have n3_ := asd (blk_below (g := gb116) (o := .cells #[.int .i64 0, .slice none 0 0] 24 (0, 0)) BK116.out hb)
                        have n4_ := asd (blk_below (g := gb117) (o := .cells #[.int .i64 0, .slice none 0 0] 24 (0, 0)) BK117.out hb)
                        have n5_ := asd (blk_below (g := gb128) (o := .cells #[.string ((rd_T48 l0_1 t124).f0), .int .i64 ((rd_T48 l0_1 t124).f1)] 48 (0, 0)) BK128.out hb)
                        have n6_ := asd (below_step (by repeat (first | (with_reducible first | exact HB.out | apply below_alloc | apply pw_below_drewN | apply below_drew1 | refine below_set ?_ GE115.out | refine below_set ?_ GE116.out | refine below_set ?_ GE117.out | refine below_set ?_ GE128.out) | exact HB.out)) hb)
                        clear HO_6
                        clear BK115
                        clear BK116
                        clear BK117
                        clear BK128
                        clear HB
                        have HO_6 := n0_
                        have HO135 := n1_
                        have BK115 := n2_
                        have BK116 := n3_
                        have BK117 := n4_
                        have BK128 := n5_
                        have HB := n6_
                        clear n0_ n1_ n2_ n3_ n4_ n5_ n6_
                        (try clear hb)
                        (try clear hb2)
                        (try clear hk)
                        (try clear hi)
                        (try clear ho0)
                        obtain ⟨Ao44, co44, eo44⟩ := Kd.R_slice HO135.out
                        (first | subst eo44 | (injection eo44 with f1_ f2_ f3_; have f4_ := f1_.symm; have f5_ := f3_.symm; clear f1_ f2_ f3_; subst f4_; subst f5_))
                        refine hK.out _ _ ⟨(blk_cell BK115.out 0).trans rfl, (blk_cell BK115.out 1).trans rfl⟩ (fun hHeld => ?_)
                        clear hK K
                        refine norm_ (a' := ?_) ?_ ?_
                        rotate_left
                        · show Act.put _ (some 48) _ = _
                          simp only [Act.put, List.setIfInBounds_toArray, List.set_cons_zero, List.set_cons_succ, i64_w, i32_w]
                          rfl
                        refine pure_ (i := 7) (N := some 49) (v := ?_) (a' := ?_) #[true, true, true, true, true, true, true, true, false, false] rfl rfl (any_of HT_.out (by kernel_rfl)) (fun _ _ _ h => h) (Or.inl ⟨by rfl, ?_⟩) ?_ ?_
                        rotate_left
                        · intro w'
                          go_simp
                          with_reducible rfl
                        rotate_left
                        · simp only [Act.put, List.setIfInBounds_toArray, List.set_cons_zero, List.set_cons_succ, i64_w, i32_w]
                          rfl
                        refine one_ (i := 8) (N := some 12) #[true, true, true, true, true, true, true, true, true, false] rfl rfl (one_of HT_.out (by kernel_rfl)) (by decide) (fun K hK => ?_)
                        refine box_step ?hg (N := 12) ?hd (cs := #[.int .i64 0, .slice none 0 0]) (t := 24) ?hr ?_; (case hd => rfl); (case hg => rfl); (case hr => first | (go_simp; done) | (go_simp; rfl))
                        intro gb136 hg w45 hbox hb
                        have n0_ := asd (Kd.R_below HO_6.out hb)
                        have n1_ := asd (Kd.R_below HO135.out hb)
                        have n2_ := asd (blk_below (g := gb115) (o := .cells #[.int .i64 a0_0, .slice (some ad127) l0_1.length c0_1] 24 (0, 0)) BK115.out hb)
                        have n3_ := asd (blk_below (g := gb116) (o := .cells #[.int .i64 0, .slice none 0 0] 24 (0, 0)) BK116.out hb)
                        have n4_ := asd (blk_below (g := gb117) (o := .cells #[.int .i64 0, .slice none 0 0] 24 (0, 0)) BK117.out hb)
                        have n5_ := asd (blk_below (g := gb128) (o := .cells #[.string ((rd_T48 l0_1 t124).f0), .int .i64 ((rd_T48 l0_1 t124).f1)] 48 (0, 0)) BK128.out hb)
                        have n6_ := asd (below_step (by repeat (first | (with_reducible first | exact HB.out | apply below_alloc | apply pw_below_drewN | apply below_drew1 | refine below_set ?_ GE115.out | refine below_set ?_ GE116.out | refine below_set ?_ GE117.out | refine below_set ?_ GE128.out) | exact HB.out)) hb)
                        have n7_ := asd (hbox)
                        have n8_ := asd ((by rw [hg]; exact (below_size (by repeat (first | (with_reducible first | exact HB.out | apply below_alloc | apply pw_below_drewN | apply below_drew1 | refine below_set ?_ GE115.out | refine below_set ?_ GE116.out | refine below_set ?_ GE117.out | refine below_set ?_ GE128.out) | exact HB.out))) : w.heap.size ≤ gb136))
                        have n9_ := asd ((by rw [hg]; exact (below_size (by repeat (first | (with_reducible first | exact HB.out | apply below_alloc | apply pw_below_drewN | apply below_drew1 | refine below_set ?_ GE115.out | refine below_set ?_ GE116.out | refine below_set ?_ GE117.out | refine below_set ?_ GE128.out) | exact HB.out))) : w.heap.size ≤ gb136))
                        have n10_ := asd ((by rw [hg]; exact Nat.ne_of_lt (blk_lt (g := gb115) (o := .cells #[.int .i64 a0_0, .slice (some ad127) l0_1.length c0_1] 24 (0, 0)) BK115.out) : gb115 ≠ gb136))
                        have n11_ := asd ((by rw [hg]; exact Nat.ne_of_gt (blk_lt (g := gb115) (o := .cells #[.int .i64 a0_0, .slice (some ad127) l0_1.length c0_1] 24 (0, 0)) BK115.out) : gb136 ≠ gb115))
                        have n12_ := asd ((by rw [hg]; exact Nat.ne_of_lt (blk_lt (g := gb116) (o := .cells #[.int .i64 0, .slice none 0 0] 24 (0, 0)) BK116.out) : gb116 ≠ gb136))
                        have n13_ := asd ((by rw [hg]; exact Nat.ne_of_gt (blk_lt (g := gb116) (o := .cells #[.int .i64 0, .slice none 0 0] 24 (0, 0)) BK116.out) : gb136 ≠ gb116))
                        have n14_ := asd ((by rw [hg]; exact Nat.ne_of_lt (blk_lt (g := gb117) (o := .cells #[.int .i64 0, .slice none 0 0] 24 (0, 0)) BK117.out) : gb117 ≠ gb136))
                        have n15_ := asd ((by rw [hg]; exact Nat.ne_of_gt (blk_lt (g := gb117) (o := .cells #[.int .i64 0, .slice none 0 0] 24 (0, 0)) BK117.out) : gb136 ≠ gb117))
                        have n16_ := asd ((by rw [hg]; exact Nat.ne_of_lt (blk_lt (g := gb128) (o := .cells #[.string ((rd_T48 l0_1 t124).f0), .int .i64 ((rd_T48 l0_1 t124).f1)] 48 (0, 0)) BK128.out) : gb128 ≠ gb136))
                        have n17_ := asd ((by rw [hg]; exact Nat.ne_of_gt (blk_lt (g := gb128) (o := .cells #[.string ((rd_T48 l0_1 t124).f0), .int .i64 ((rd_T48 l0_1 t124).f1)] 48 (0, 0)) BK128.out) : gb136 ≠ gb128))
                        clear HO_6
                        clear HO135
                        clear BK115
                        clear BK116
                        clear BK117
                        clear BK128
                        clear HB
                        have HO_6 := n0_
                        have HO135 := n1_
                        have BK115 := n2_
                        have BK116 := n3_
                        have BK117 := n4_
                        have BK128 := n5_
                        have HB := n6_
                        have BK136 := n7_
                        have GW136 := n8_
                        have GE136 := n9_
                        have NB115_136 := n10_
                        have NB136_115 := n11_
                        have NB116_136 := n12_
                        have NB136_116 := n13_
                        have NB117_136 := n14_
                        have NB136_117 := n15_
                        have NB128_136 := n16_
                        have NB136_128 := n17_
                        clear n0_ n1_ n2_ n3_ n4_ n5_ n6_ n7_ n8_ n9_ n10_ n11_ n12_ n13_ n14_ n15_ n16_ n17_
                        clear hb hbox hg
                        refine hK.out _ _ ⟨(blk_cell BK115.out 0).trans rfl, (blk_cell BK115.out 1).trans rfl⟩ (fun hHeld => ?_)
                        clear hK K
                        refine norm_ (a' := ?_) ?_ ?_
                        rotate_left
                        · show Act.put _ (some 12) _ = _
                          simp only [Act.put, List.setIfInBounds_toArray, List.set_cons_zero, List.set_cons_succ, i64_w, i32_w]
                          rfl
                        exact norm_ (by simp only [putAll, Act.put, List.setIfInBounds_toArray, List.set_cons_zero, List.set_cons_succ]) (hCont (.slice Ao44 t133.length co44, gb136) _ ⟨hHeld, (by (with_reducible repeat (first | apply Kd.R_alloc | apply Kd.R_drewN | apply Kd.R_drew)); exact Kd.R_mono HO135.out (fun _ hk => hk.2)), HO_6.out, BK115.out, BK116.out, BK117.out, BK128.out, BK136.out, GW136.out, GE136.out, NB115_136.out, NB136_115.out, NB116_136.out, NB136_116.out, NB117_136.out, NB136_117.out, NB128_136.out, NB136_128.out, (by repeat (first | (with_reducible first | exact HB.out | apply below_alloc | apply pw_below_drewN | apply below_drew1 | refine below_set ?_ GE115.out | refine below_set ?_ GE116.out | refine below_set ?_ GE117.out | refine below_set ?_ GE128.out | refine below_set ?_ GE136.out) | exact HB.out))⟩)
                      · skip
                        refine box_step ?hg (N := 12) ?hd (cs := #[.int .i64 0, .slice none 0 0]) (t := 24) ?hr ?_; (case hd => rfl); (case hg => rfl); (case hr => first | (go_simp; done) | (go_simp; rfl))
                        intro gb136 hg w43 hbox hb
                        have n0_ := asd (Kd.R_below HO_6.out hb)
                        have n1_ := asd (blk_below (g := gb115) (o := .cells #[.int .i64 a0_0, .slice (some ad127) l0_1.length c0_1] 24 (0, 0)) BK115.out hb)
                        have n2_ := asd (blk_below (g := gb116) (o := .cells #[.int .i64 0, .slice none 0 0] 24 (0, 0)) BK116.out hb)
                        have n3_ := asd (blk_below (g := gb117) (o := .cells #[.int .i64 0, .slice none 0 0] 24 (0, 0)) BK117.out hb)
                        have n4_ := asd (blk_below (g := gb128) (o := .cells #[.string ((rd_T48 l0_1 t124).f0), .int .i64 ((rd_T48 l0_1 t124).f1)] 48 (0, 0)) BK128.out hb)
                        have n5_ := asd (below_step (by repeat (first | (with_reducible first | exact HB.out | apply below_alloc | apply pw_below_drewN | apply below_drew1 | refine below_set ?_ GE115.out | refine below_set ?_ GE116.out | refine below_set ?_ GE117.out | refine below_set ?_ GE128.out) | exact HB.out)) hb)
                        have n6_ := asd (hbox)
                        have n7_ := asd ((by rw [hg]; exact (below_size (by repeat (first | (with_reducible first | exact HB.out | apply below_alloc | apply pw_below_drewN | apply below_drew1 | refine below_set ?_ GE115.out | refine below_set ?_ GE116.out | refine below_set ?_ GE117.out | refine below_set ?_ GE128.out) | exact HB.out))) : w.heap.size ≤ gb136))
                        have n8_ := asd ((by rw [hg]; exact (below_size (by repeat (first | (with_reducible first | exact HB.out | apply below_alloc | apply pw_below_drewN | apply below_drew1 | refine below_set ?_ GE115.out | refine below_set ?_ GE116.out | refine below_set ?_ GE117.out | refine below_set ?_ GE128.out) | exact HB.out))) : w.heap.size ≤ gb136))
                        have n9_ := asd ((by rw [hg]; exact Nat.ne_of_lt (blk_lt (g := gb115) (o := .cells #[.int .i64 a0_0, .slice (some ad127) l0_1.length c0_1] 24 (0, 0)) BK115.out) : gb115 ≠ gb136))
                        have n10_ := asd ((by rw [hg]; exact Nat.ne_of_gt (blk_lt (g := gb115) (o := .cells #[.int .i64 a0_0, .slice (some ad127) l0_1.length c0_1] 24 (0, 0)) BK115.out) : gb136 ≠ gb115))
                        have n11_ := asd ((by rw [hg]; exact Nat.ne_of_lt (blk_lt (g := gb116) (o := .cells #[.int .i64 0, .slice none 0 0] 24 (0, 0)) BK116.out) : gb116 ≠ gb136))
                        have n12_ := asd ((by rw [hg]; exact Nat.ne_of_gt (blk_lt (g := gb116) (o := .cells #[.int .i64 0, .slice none 0 0] 24 (0, 0)) BK116.out) : gb136 ≠ gb116))
                        have n13_ := asd ((by rw [hg]; exact Nat.ne_of_lt (blk_lt (g := gb117) (o := .cells #[.int .i64 0, .slice none 0 0] 24 (0, 0)) BK117.out) : gb117 ≠ gb136))
                        have n14_ := asd ((by rw [hg]; exact Nat.ne_of_gt (blk_lt (g := gb117) (o := .cells #[.int .i64 0, .slice none 0 0] 24 (0, 0)) BK117.out) : gb136 ≠ gb117))
                        have n15_ := asd ((by rw [hg]; exact Nat.ne_of_lt (blk_lt (g := gb128) (o := .cells #[.string ((rd_T48 l0_1 t124).f0), .int .i64 ((rd_T48 l0_1 t124).f1)] 48 (0, 0)) BK128.out) : gb128 ≠ gb136))
                        have n16_ := asd ((by rw [hg]; exact Nat.ne_of_gt (blk_lt (g := gb128) (o := .cells #[.string ((rd_T48 l0_1 t124).f0), .int .i64 ((rd_T48 l0_1 t124).f1)] 48 (0, 0)) BK128.out) : gb136 ≠ gb128))
                        clear HO_6
                        clear BK115
                        clear BK116
                        clear BK117
                        clear BK128
                        clear HB
                        have HO_6 := n0_
                        have BK115 := n1_
                        have BK116 := n2_
                        have BK117 := n3_
                        have BK128 := n4_
                        have HB := n5_
                        have BK136 := n6_
                        have GW136 := n7_
                        have GE136 := n8_
                        have NB115_136 := n9_
                        have NB136_115 := n10_
                        have NB116_136 := n11_
                        have NB136_116 := n12_
                        have NB117_136 := n13_
                        have NB136_117 := n14_
                        have NB128_136 := n15_
                        have NB136_128 := n16_
                        clear n0_ n1_ n2_ n3_ n4_ n5_ n6_ n7_ n8_ n9_ n10_ n11_ n12_ n13_ n14_ n15_ n16_
                        clear hb hbox hg
                        refine hK.out _ _ ⟨(blk_cell BK115.out 0).trans rfl, (blk_cell BK115.out 1).trans rfl⟩ (fun hHeld => ?_)
                        clear hK K
                        refine norm_ (a' := ?_) ?_ ?_
                        rotate_left
                        · show Act.put _ (some 12) _ = _
                          simp only [Act.put, List.setIfInBounds_toArray, List.set_cons_zero, List.set_cons_succ, i64_w, i32_w]
                          rfl
                        refine one_ (i := 6) (N := some 48) #[true, true, true, true, true, true, true, false, true, false] rfl rfl (one_of HT_.out (by kernel_rfl)) (by decide) (fun K hK => ?_)
                        refine goes_ Tryd.func53 (by kernel_rfl) rfl #[.slice (some ad127) y129.length c0_1] (by rfl) rfl rfl (by (try simp only [List.map_toArray, List.map_cons, List.map_nil]); first | done | rfl | (simp only [List.length_drop, List.length_take]; rfl)) ?_
                        with_reducible refine (Clone_Link.calls _ _ y129 t133 _ ?side1 ?side2 A25.out).mono ?_
                        (case side1 => repeat (first | exact (Kd.C_below HR132.out HB.out) | (with_reducible refine Kd.C_alloc ?_ _) | (with_reducible refine Kd.C_drewN ?_ _) | (with_reducible refine Kd.C_drew ?_)))
                        (case side2 => exact HC132.out)
                        rintro e w44 ⟨v134, rfl, ho0, hb⟩
                        refine ⟨_, rfl, ?_⟩
                        have n0_ := asd (Kd.R_below HO_6.out hb)
                        have n1_ := asd (Kd.R_lower (Kd.R_newB ho0 (g := gb128) (o := .cells #[.string ((rd_T48 l0_1 t124).f0), .int .i64 ((rd_T48 l0_1 t124).f1)] 48 (0, 0)) BK128.out) (below_size (by repeat (first | (with_reducible first | exact HB.out | apply below_alloc | apply pw_below_drewN | apply below_drew1 | refine below_set ?_ GE115.out | refine below_set ?_ GE116.out | refine below_set ?_ GE117.out | refine below_set ?_ GE128.out | refine below_set ?_ GE136.out) | exact HB.out))))
                        have n2_ := asd (blk_below (g := gb115) (o := .cells #[.int .i64 a0_0, .slice (some ad127) l0_1.length c0_1] 24 (0, 0)) BK115.out hb)
                        have n3_ := asd (blk_below (g := gb116) (o := .cells #[.int .i64 0, .slice none 0 0] 24 (0, 0)) BK116.out hb)
                        have n4_ := asd (blk_below (g := gb117) (o := .cells #[.int .i64 0, .slice none 0 0] 24 (0, 0)) BK117.out hb)
                        have n5_ := asd (blk_below (g := gb128) (o := .cells #[.string ((rd_T48 l0_1 t124).f0), .int .i64 ((rd_T48 l0_1 t124).f1)] 48 (0, 0)) BK128.out hb)
                        have n6_ := asd (blk_below (g := gb136) (o := .cells #[.int .i64 0, .slice none 0 0] 24 (0, 0)) BK136.out hb)
                        have n7_ := asd (below_step (by repeat (first | (with_reducible first | exact HB.out | apply below_alloc | apply pw_below_drewN | apply below_drew1 | refine below_set ?_ GE115.out | refine below_set ?_ GE116.out | refine below_set ?_ GE117.out | refine below_set ?_ GE128.out | refine below_set ?_ GE136.out) | exact HB.out)) hb)
                        clear HO_6
                        clear BK115
                        clear BK116
                        clear BK117
                        clear BK128
                        clear BK136
                        clear HB
                        have HO_6 := n0_
                        have HO135 := n1_
                        have BK115 := n2_
                        have BK116 := n3_
                        have BK117 := n4_
                        have BK128 := n5_
                        have BK136 := n6_
                        have HB := n7_
                        clear n0_ n1_ n2_ n3_ n4_ n5_ n6_ n7_
                        (try clear hb)
                        (try clear hb2)
                        (try clear hk)
                        (try clear hi)
                        (try clear ho0)
                        obtain ⟨Ao45, co45, eo45⟩ := Kd.R_slice HO135.out
                        (first | subst eo45 | (injection eo45 with f1_ f2_ f3_; have f4_ := f1_.symm; have f5_ := f3_.symm; clear f1_ f2_ f3_; subst f4_; subst f5_))
                        refine hK.out _ _ ⟨(blk_cell BK115.out 0).trans rfl, (blk_cell BK115.out 1).trans rfl⟩ (fun hHeld => ?_)
                        clear hK K
                        refine norm_ (a' := ?_) ?_ ?_
                        rotate_left
                        · show Act.put _ (some 48) _ = _
                          simp only [Act.put, List.setIfInBounds_toArray, List.set_cons_zero, List.set_cons_succ, i64_w, i32_w]
                          rfl
                        refine pure_ (i := 7) (N := some 49) (v := ?_) (a' := ?_) #[true, true, true, true, true, true, true, true, true, false] rfl rfl (any_of HT_.out (by kernel_rfl)) (fun _ _ _ h => h) (Or.inl ⟨by rfl, ?_⟩) ?_ ?_
                        rotate_left
                        · intro w'
                          go_simp
                          with_reducible rfl
                        rotate_left
                        · simp only [Act.put, List.setIfInBounds_toArray, List.set_cons_zero, List.set_cons_succ, i64_w, i32_w]
                          rfl
                        exact norm_ (by simp only [putAll, Act.put, List.setIfInBounds_toArray, List.set_cons_zero, List.set_cons_succ]) (hCont (.slice Ao45 t133.length co45, gb136) _ ⟨hHeld, (by (with_reducible repeat (first | apply Kd.R_alloc | apply Kd.R_drewN | apply Kd.R_drew)); exact Kd.R_mono HO135.out (fun _ hk => hk.2)), HO_6.out, BK115.out, BK116.out, BK117.out, BK128.out, BK136.out, GW136.out, GE136.out, NB115_136.out, NB136_115.out, NB116_136.out, NB136_116.out, NB117_136.out, NB136_117.out, NB128_136.out, NB136_128.out, (by repeat (first | (with_reducible first | exact HB.out | apply below_alloc | apply pw_below_drewN | apply below_drew1 | refine below_set ?_ GE115.out | refine below_set ?_ GE116.out | refine below_set ?_ GE117.out | refine below_set ?_ GE128.out | refine below_set ?_ GE136.out) | exact HB.out))⟩)
                    rintro ⟨v134, gb136⟩ w46 ⟨hS_, h0_, h1_, h2_, h3_, h4_, h5_, h6_, h7_, h8_, h9_, h10_, h11_, h12_, h13_, h14_, h15_, h16_, h17_⟩
                    have n0_ : Aside0 (Kd.R k48 48 w46 w.heap.size (fun k_ => k_ ≠ gb128) v134 t133) := ⟨h0_⟩
                    have n1_ : Aside0 (Kd.R (Kd.int .i64) 3 w46 w.heap.size (fun _ => True) (.slice Ao30 x6_1.length co30) x6_1) := ⟨h1_⟩
                    have n2_ : Aside0 (w46.heap[gb115]? = some (.cells #[.int .i64 a0_0, .slice (some ad127) l0_1.length c0_1] 24 (0, 0))) := ⟨h2_⟩
                    have n3_ : Aside0 (w46.heap[gb116]? = some (.cells #[.int .i64 0, .slice none 0 0] 24 (0, 0))) := ⟨h3_⟩
                    have n4_ : Aside0 (w46.heap[gb117]? = some (.cells #[.int .i64 0, .slice none 0 0] 24 (0, 0))) := ⟨h4_⟩
                    have n5_ : Aside0 (w46.heap[gb128]? = some (.cells #[.string ((rd_T48 l0_1 t124).f0), .int .i64 ((rd_T48 l0_1 t124).f1)] 48 (0, 0))) := ⟨h5_⟩
                    have n6_ : Aside0 (w46.heap[gb136]? = some (.cells #[.int .i64 0, .slice none 0 0] 24 (0, 0))) := ⟨h6_⟩
                    have n7_ : Aside0 (w.heap.size ≤ gb136) := ⟨h7_⟩
                    have n8_ : Aside0 (w.heap.size ≤ gb136) := ⟨h8_⟩
                    have n9_ : Aside0 (gb115 ≠ gb136) := ⟨h9_⟩
                    have n10_ : Aside0 (gb136 ≠ gb115) := ⟨h10_⟩
                    have n11_ : Aside0 (gb116 ≠ gb136) := ⟨h11_⟩
                    have n12_ : Aside0 (gb136 ≠ gb116) := ⟨h12_⟩
                    have n13_ : Aside0 (gb117 ≠ gb136) := ⟨h13_⟩
                    have n14_ : Aside0 (gb136 ≠ gb117) := ⟨h14_⟩
                    have n15_ : Aside0 (gb128 ≠ gb136) := ⟨h15_⟩
                    have n16_ : Aside0 (gb136 ≠ gb128) := ⟨h16_⟩
                    have n17_ : Aside0 (Below w.heap.size w w46) := ⟨h17_⟩
                    clear HO_6
                    clear BK115
                    clear BK116
                    clear BK117
                    clear BK128
                    clear HB
                    clear h0_ h1_ h2_ h3_ h4_ h5_ h6_ h7_ h8_ h9_ h10_ h11_ h12_ h13_ h14_ h15_ h16_ h17_
                    have HO135 := n0_
                    have HO_6 := n1_
                    have BK115 := n2_
                    have BK116 := n3_
                    have BK117 := n4_
                    have BK128 := n5_
                    have BK136 := n6_
                    have GW136 := n7_
                    have GE136 := n8_
                    have NB115_136 := n9_
                    have NB136_115 := n10_
                    have NB116_136 := n11_
                    have NB136_116 := n12_
                    have NB117_136 := n13_
                    have NB136_117 := n14_
                    have NB128_136 := n15_
                    have NB136_128 := n16_
                    have HB := n17_
                    clear n0_ n1_ n2_ n3_ n4_ n5_ n6_ n7_ n8_ n9_ n10_ n11_ n12_ n13_ n14_ n15_ n16_ n17_
                    have hHeld : w46.cell? ⟨gb115, 0, none⟩ = some (.int .i64 a0_0) ∧ w46.cell? ⟨gb115, 1, none⟩ = some (.slice (some ad127) l0_1.length c0_1) := hS_
                    obtain ⟨Ao47, co47, eo47⟩ := Kd.R_slice HO135.out
                    (first | subst eo47 | (injection eo47 with f1_ f2_ f3_; have f4_ := f1_.symm; have f5_ := f3_.symm; clear f1_ f2_ f3_; subst f4_; subst f5_))
                    refine norm_ (a' := ?_) ?_ ?_
                    rotate_left
                    · simp only [putAll, Act.put, List.setIfInBounds_toArray, List.set_cons_zero, List.set_cons_succ]
                      rfl
                    refine one_ (i := 9) (N := none) #[true, true, true, true, true, true, true, true, true, true] rfl rfl (one_of HT_.out (by kernel_rfl)) (by decide) (fun K hK => ?_)
                    have hs48 : w46.cell? ⟨gb136, 0, none⟩ = some (.int .i64 0) := (blk_cell BK136.out 0).trans rfl
                    have hfs48 := blk_frozen BK136.out 0
                    have hns48_0 := NB115_136.out
                    have hns48_1 := NB116_136.out
                    have hns48_2 := NB117_136.out
                    have hns48_3 := NB128_136.out
                    have hms48_0 := NB136_115.out
                    have hms48_1 := NB136_116.out
                    have hms48_2 := NB136_117.out
                    have hms48_3 := NB136_128.out
                    have hs49 : w46.cell? ⟨gb136, 1, none⟩ = some (.slice none 0 0) := (blk_cell BK136.out 1).trans rfl
                    have hfs49 := blk_frozen BK136.out 1
                    have hns49_0 := NB115_136.out
                    have hns49_1 := NB116_136.out
                    have hns49_2 := NB117_136.out
                    have hns49_3 := NB128_136.out
                    have hms49_0 := NB136_115.out
                    have hms49_1 := NB136_116.out
                    have hms49_2 := NB136_117.out
                    have hms49_3 := NB136_128.out
                    refine skip_ (w1 := ?_) (by rfl) rfl ?_ ?_
                    rotate_left
                    · go_simp
                      rfl
                    refine hK.out _ _ ⟨((cell_far (p := ⟨gb136, _, none⟩) NB115_136.out _).trans (((cell_far (p := ⟨gb136, _, none⟩) NB115_136.out _).trans (hHeld.1)))), ((cell_far (p := ⟨gb136, _, none⟩) NB115_136.out _).trans (((cell_far (p := ⟨gb136, _, none⟩) NB115_136.out _).trans (hHeld.2))))⟩ (fun hHeld => ?_)
                    clear hK K
                    refine done_ (done_of HT_.out (by kernel_rfl)) ?_
                    try go_wp2
                    have n0_ : Aside0 (Kd.R (Kd.int .i64) 3 ((w46.setCell ⟨gb136, 0, none⟩ (.int .i64 a0_0)).setCell ⟨gb136, 1, none⟩ (.slice Ao47 t133.length co47)) w.heap.size (fun _ => True) (.slice Ao30 x6_1.length co30) x6_1) := ⟨by (with_reducible repeat (first | apply Kd.R_alloc | apply Kd.R_drewN | apply Kd.R_drew)); exact Kd.R_mono (Kd.R_far (p := ⟨gb136, 1, none⟩) (Kd.R_far (p := ⟨gb136, 0, none⟩) (Kd.R_types HO_6.out BK136.out (by decide)) (fun _ hk => hk.2) (.int .i64 a0_0)) (fun _ hk => hk.2) (.slice Ao47 t133.length co47)) (fun _ hk => trivial)⟩
                    have n1_ : Aside0 (Kd.R k48 48 ((w46.setCell ⟨gb136, 0, none⟩ (.int .i64 a0_0)).setCell ⟨gb136, 1, none⟩ (.slice Ao47 t133.length co47)) w.heap.size (fun k_ => k_ ≠ gb128) (.slice Ao47 t133.length co47) t133) := ⟨by (with_reducible repeat (first | apply Kd.R_alloc | apply Kd.R_drewN | apply Kd.R_drew)); exact Kd.R_mono (Kd.R_far (p := ⟨gb136, 1, none⟩) (Kd.R_far (p := ⟨gb136, 0, none⟩) (Kd.R_types HO135.out BK136.out (by decide)) (fun _ hk => hk.2) (.int .i64 a0_0)) (fun _ hk => hk.2) (.slice Ao47 t133.length co47)) (fun _ hk => hk.1)⟩
                    have n2_ : Aside0 (((w46.setCell ⟨gb136, 0, none⟩ (.int .i64 a0_0)).setCell ⟨gb136, 1, none⟩ (.slice Ao47 t133.length co47)).heap[gb115]? = some (.cells #[.int .i64 a0_0, .slice (some ad127) l0_1.length c0_1] 24 (0, 0))) := ⟨by (with_reducible repeat (first | refine blk_drewN ?_ _ | refine blk_drew ?_ | refine blk_alloc ?_ _)); refine blk_far ?_ NB115_136.out _; (with_reducible repeat (first | refine blk_drewN ?_ _ | refine blk_drew ?_ | refine blk_alloc ?_ _)); refine blk_far ?_ NB115_136.out _; (with_reducible repeat (first | refine blk_drewN ?_ _ | refine blk_drew ?_ | refine blk_alloc ?_ _)); exact BK115.out⟩
                    have n3_ : Aside0 (((w46.setCell ⟨gb136, 0, none⟩ (.int .i64 a0_0)).setCell ⟨gb136, 1, none⟩ (.slice Ao47 t133.length co47)).heap[gb116]? = some (.cells #[.int .i64 0, .slice none 0 0] 24 (0, 0))) := ⟨by (with_reducible repeat (first | refine blk_drewN ?_ _ | refine blk_drew ?_ | refine blk_alloc ?_ _)); refine blk_far ?_ NB116_136.out _; (with_reducible repeat (first | refine blk_drewN ?_ _ | refine blk_drew ?_ | refine blk_alloc ?_ _)); refine blk_far ?_ NB116_136.out _; (with_reducible repeat (first | refine blk_drewN ?_ _ | refine blk_drew ?_ | refine blk_alloc ?_ _)); exact BK116.out⟩
                    have n4_ : Aside0 (((w46.setCell ⟨gb136, 0, none⟩ (.int .i64 a0_0)).setCell ⟨gb136, 1, none⟩ (.slice Ao47 t133.length co47)).heap[gb117]? = some (.cells #[.int .i64 0, .slice none 0 0] 24 (0, 0))) := ⟨by (with_reducible repeat (first | refine blk_drewN ?_ _ | refine blk_drew ?_ | refine blk_alloc ?_ _)); refine blk_far ?_ NB117_136.out _; (with_reducible repeat (first | refine blk_drewN ?_ _ | refine blk_drew ?_ | refine blk_alloc ?_ _)); refine blk_far ?_ NB117_136.out _; (with_reducible repeat (first | refine blk_drewN ?_ _ | refine blk_drew ?_ | refine blk_alloc ?_ _)); exact BK117.out⟩
                    have n5_ : Aside0 (((w46.setCell ⟨gb136, 0, none⟩ (.int .i64 a0_0)).setCell ⟨gb136, 1, none⟩ (.slice Ao47 t133.length co47)).heap[gb128]? = some (.cells #[.string ((rd_T48 l0_1 t124).f0), .int .i64 ((rd_T48 l0_1 t124).f1)] 48 (0, 0))) := ⟨by (with_reducible repeat (first | refine blk_drewN ?_ _ | refine blk_drew ?_ | refine blk_alloc ?_ _)); refine blk_far ?_ NB128_136.out _; (with_reducible repeat (first | refine blk_drewN ?_ _ | refine blk_drew ?_ | refine blk_alloc ?_ _)); refine blk_far ?_ NB128_136.out _; (with_reducible repeat (first | refine blk_drewN ?_ _ | refine blk_drew ?_ | refine blk_alloc ?_ _)); exact BK128.out⟩
                    have n6_ : Aside0 (((w46.setCell ⟨gb136, 0, none⟩ (.int .i64 a0_0)).setCell ⟨gb136, 1, none⟩ (.slice Ao47 t133.length co47)).heap[gb136]? = some (.cells #[.int .i64 a0_0, .slice Ao47 t133.length co47] 24 (0, 0))) := ⟨by (with_reducible repeat (first | refine blk_drewN ?_ _ | refine blk_drew ?_ | refine blk_alloc ?_ _)); refine blk_put (cs := #[.int .i64 a0_0, .slice none 0 0]) ?_ 1 _ rfl; (with_reducible repeat (first | refine blk_drewN ?_ _ | refine blk_drew ?_ | refine blk_alloc ?_ _)); refine blk_put (cs := #[.int .i64 0, .slice none 0 0]) ?_ 0 _ rfl; (with_reducible repeat (first | refine blk_drewN ?_ _ | refine blk_drew ?_ | refine blk_alloc ?_ _)); exact BK136.out⟩
                    have n7_ : Aside0 (Below w.heap.size w ((w46.setCell ⟨gb136, 0, none⟩ (.int .i64 a0_0)).setCell ⟨gb136, 1, none⟩ (.slice Ao47 t133.length co47))) := ⟨by repeat (first | (with_reducible first | exact HB.out | apply below_alloc | apply pw_below_drewN | apply below_drew1 | refine below_set ?_ GE115.out | refine below_set ?_ GE116.out | refine below_set ?_ GE117.out | refine below_set ?_ GE128.out | refine below_set ?_ GE136.out) | exact HB.out)⟩
                    (try clear HO_6)
                    (try clear HO135)
                    (try clear BK115)
                    (try clear BK116)
                    (try clear BK117)
                    (try clear BK128)
                    (try clear BK136)
                    (try clear HB)
                    generalize ((w46.setCell ⟨gb136, 0, none⟩ (.int .i64 a0_0)).setCell ⟨gb136, 1, none⟩ (.slice Ao47 t133.length co47)) = w50 at n0_ n1_ n2_ n3_ n4_ n5_ n6_ n7_ ⊢
                    have HO_6 := n0_
                    have HO135 := n1_
                    have BK115 := n2_
                    have BK116 := n3_
                    have BK117 := n4_
                    have BK128 := n5_
                    have BK136 := n6_
                    have HB := n7_
                    clear n0_ n1_ n2_ n3_ n4_ n5_ n6_ n7_
                    have n0_ := asd (Kd.R_drew HO_6.out)
                    have n1_ := asd (Kd.R_drew HO135.out)
                    have n2_ := asd (blk_drew BK115.out)
                    have n3_ := asd (blk_drew BK116.out)
                    have n4_ := asd (blk_drew BK117.out)
                    have n5_ := asd (blk_drew BK128.out)
                    have n6_ := asd (blk_drew BK136.out)
                    have n7_ := asd (below_drew1 HB.out)
                    clear HO_6
                    clear HO135
                    clear BK115
                    clear BK116
                    clear BK117
                    clear BK128
                    clear BK136
                    clear HB
                    have HO_6 := n0_
                    have HO135 := n1_
                    have BK115 := n2_
                    have BK116 := n3_
                    have BK117 := n4_
                    have BK128 := n5_
                    have BK136 := n6_
                    have HB := n7_
                    clear n0_ n1_ n2_ n3_ n4_ n5_ n6_ n7_
                    have q52 : ((ji26) : Int) ≤ ((l0_1.length : Int) : Int) := of_decide_eq_true (by first | (with_reducible assumption) | assumption)
                    obtain ⟨i052, hi052, _, hsz52, _⟩ := info_parts info48
                    have hroom52 : l0_1.length ≤ c0_1 := HC0_1.out
                    have hC52 : Kd.C k48 _ (some ad127) l0_1.length l0_1 := HR0_1.out
                    have q052 : (0 : Int) ≤ ((ji26) : Int) := of_decide_eq_true (by first | (with_reducible assumption) | assumption)
                    have hcut52 := cut_from (P := Tryd.prog) 22 48 .i64 Tryd.underlying22 hi052 2 hsz52 (some ad127) l0_1.length c0_1 (ji26) q052 q52
                    have hr52 := Kd.C_drop (m := ((ji26) : Int).toNat) (c := c0_1) hC52 (by omega) hroom52
                    obtain ⟨A52, hA52⟩ : ∃ A1, A1 = (if c0_1 = ((ji26) : Int).toNat then (some ad127) else ((some ad127) : Option Addr).map (·.add (((ji26) : Int).toNat * 2))) := ⟨_, rfl⟩
                    obtain ⟨c52, hc52⟩ : ∃ c1, c1 = c0_1 - ((ji26) : Int).toNat := ⟨_, rfl⟩
                    have hy52 : y137.length = l0_1.length - ((ji26) : Int).toNat := (by rw [Ny137.out, List.length_drop] <;> omega)
                    rw [show (l0_1).drop ((ji26) : Int).toNat = y137 from Ny137.out.symm] at hr52
                    replace hr52 : Kd.C k48 _ A52 y137.length y137 := (by rw [hA52]; exact hr52)
                    rw [← hy52, ← hA52, ← hc52] at hcut52
                    have HR140 := asd hr52
                    have HC140 := asd (show y137.length ≤ c52 from by rw [hy52, hc52]; exact Nat.sub_le_sub_right hroom52 _)
                    clear hr52 hC52 hroom52 hi052 hsz52 hc52
                    have KY52 := asd hy52
                    have KA52 := asd hA52
                    clear hy52 hA52
                    replace q52 := eq_true q52
                    refine start_ (n := 11) (S := fun w' => w'.cell? ⟨gb128, 0, none⟩ = some (.string ((rd_T48 l0_1 t124).f0)) ∧ w'.cell? ⟨gb128, 1, none⟩ = some (.int .i64 ((rd_T48 l0_1 t124).f1)) ∧ w'.cell? ⟨gb115, 0, none⟩ = some (.int .i64 a0_0) ∧ w'.cell? ⟨gb115, 1, none⟩ = some (.slice (some ad127) l0_1.length c0_1)) (ds := []) #[false, false, false, false, false, false, false, false, false, false, false] (by kernel_rfl) rfl rfl ⟨(blk_cell BK128.out 0).trans rfl, (blk_cell BK128.out 1).trans rfl, (blk_cell BK115.out 0).trans rfl, (blk_cell BK115.out 1).trans rfl⟩ (fun hHeld => ?_); refine with_tabW branch_Cut.tab12 branch_Cut.bits12 (fun HT_ HW_ => ?_)
                    generalize w50.drew = w51 at HO_6 HO135 BK115 BK116 BK117 BK128 BK136 HB HR140 hHeld ⊢
                    refine pure_ (i := 0) (N := some 50) (v := ?_) (a' := ?_) #[true, false, false, false, false, false, false, false, false, false, false] rfl rfl (any_of HT_.out (by kernel_rfl)) (fun _ _ _ h => h) (Or.inl ⟨by rfl, ?_⟩) ?_ ?_
                    rotate_left
                    · intro w'
                      go_simp
                      with_reducible rfl
                    rotate_left
                    · simp only [Act.put, List.setIfInBounds_toArray, List.set_cons_zero, List.set_cons_succ, i64_w, i32_w]
                      rfl
                    refine pure_ (i := 2) (N := some 52) (v := ?_) (a' := ?_) #[true, false, true, false, false, false, false, false, false, false, false] rfl rfl (any_of HT_.out (by kernel_rfl)) (fun _ _ _ h => h) (Or.inl ⟨by rfl, ?_⟩) ?_ ?_
                    rotate_left
                    · intro w'
                      go_simp
                      with_reducible rfl
                    rotate_left
                    · simp only [Act.put, List.setIfInBounds_toArray, List.set_cons_zero, List.set_cons_succ, i64_w, i32_w]
                      rfl
                    refine pure_ (i := 4) (N := some 54) (v := ?_) (a' := ?_) #[true, false, true, false, true, false, false, false, false, false, false] rfl rfl (any_of HT_.out (by kernel_rfl)) (fun _ _ _ h => h) (Or.inl ⟨by rfl, ?_⟩) ?_ ?_
                    rotate_left
                    · intro w'
                      go_simp
                      with_reducible rfl
                    rotate_left
                    · simp only [Act.put, List.setIfInBounds_toArray, List.set_cons_zero, List.set_cons_succ, i64_w, i32_w]
                      rfl
                    refine pure_ (i := 5) (N := some 55) (v := ?_) (a' := ?_) #[true, false, true, false, true, true, false, false, false, false, false] rfl rfl (any_of HT_.out (by kernel_rfl)) (fun _ _ _ h => h) (Or.inl ⟨by rfl, ?_⟩) ?_ ?_
                    rotate_left
                    · intro w'
                      go_simp
                      with_reducible rfl
                    rotate_left
                    · simp only [Act.put, List.setIfInBounds_toArray, List.set_cons_zero, List.set_cons_succ, i64_w, i32_w]
                      rfl
                    refine take_ (i := 1) (N := some 51) (v := ?_) (a' := ?_) #[true, true, true, false, true, true, false, false, false, false, false] rfl rfl (take_ofW HT_.out HW_.out (by kernel_rfl)) (fun _ _ _ h => h) (Or.inl ⟨by rfl, ?_⟩) hHeld ?_ ?_
                    rotate_left
                    · rintro w' ⟨s0, s1, s2, s3⟩
                      go_simp
                      with_reducible rfl
                    rotate_left
                    · simp only [Act.put, List.setIfInBounds_toArray, List.set_cons_zero, List.set_cons_succ, i64_w, i32_w]
                      rfl
                    refine take_ (i := 3) (N := some 53) (v := ?_) (a' := ?_) #[true, true, true, true, true, true, false, false, false, false, false] rfl rfl (take_ofW HT_.out HW_.out (by kernel_rfl)) (fun _ _ _ h => h) (Or.inl ⟨by rfl, ?_⟩) hHeld ?_ ?_
                    rotate_left
                    · rintro w' ⟨s0, s1, s2, s3⟩
                      go_simp
                      with_reducible rfl
                    rotate_left
                    · simp only [Act.put, List.setIfInBounds_toArray, List.set_cons_zero, List.set_cons_succ, i64_w, i32_w]
                      rfl
                    refine pure_ (i := 6) (N := some 56) (v := ?_) (a' := ?_) #[true, true, true, true, true, true, true, false, false, false, false] rfl rfl (any_of HT_.out (by kernel_rfl)) (fun _ _ _ h => h) (Or.inl ⟨by rfl, ?_⟩) ?_ ?_
                    rotate_left
                    · intro w'
                      go_simp
                      with_reducible rfl
                    rotate_left
                    · simp only [Act.put, List.setIfInBounds_toArray, List.set_cons_zero, List.set_cons_succ, i64_w, i32_w]
                      rfl
                    refine join_ (σ := Value × Nat) 1 #[true, true, true, true, true, true, true, true, true, true, false] (fun s_ => [(57, s_.1), (13, .pointer (some ⟨s_.2, 0, none⟩)), (58, .agg #[.int .i64 ((rd_T48 l0_1 t124).f1), s_.1])]) (fun s_ w' => (w'.cell? ⟨gb128, 0, none⟩ = some (.string ((rd_T48 l0_1 t124).f0)) ∧ w'.cell? ⟨gb128, 1, none⟩ = some (.int .i64 ((rd_T48 l0_1 t124).f1)) ∧ w'.cell? ⟨gb115, 0, none⟩ = some (.int .i64 a0_0) ∧ w'.cell? ⟨gb115, 1, none⟩ = some (.slice (some ad127) l0_1.length c0_1)) ∧ (Kd.R k48 48 w' w.heap.size (fun k_ => some k_ ≠ (s_.1 : Value).ownBlock ∧ k_ ≠ gb128) (.slice Ao47 t133.length co47) t133) ∧ (Kd.R k48 48 w' w.heap.size (fun k_ => some k_ ≠ (.slice Ao47 t133.length co47 : Value).ownBlock ∧ k_ ≠ gb128) s_.1 t141) ∧ (Kd.R (Kd.int .i64) 3 w' w.heap.size (fun _ => True) (.slice Ao30 x6_1.length co30) x6_1) ∧ (w'.heap[gb115]? = some (.cells #[.int .i64 a0_0, .slice (some ad127) l0_1.length c0_1] 24 (0, 0))) ∧ (w'.heap[gb116]? = some (.cells #[.int .i64 0, .slice none 0 0] 24 (0, 0))) ∧ (w'.heap[gb117]? = some (.cells #[.int .i64 0, .slice none 0 0] 24 (0, 0))) ∧ (w'.heap[gb128]? = some (.cells #[.string ((rd_T48 l0_1 t124).f0), .int .i64 ((rd_T48 l0_1 t124).f1)] 48 (0, 0))) ∧ (w'.heap[gb136]? = some (.cells #[.int .i64 a0_0, .slice Ao47 t133.length co47] 24 (0, 0))) ∧ (w'.heap[s_.2]? = some (.cells #[.int .i64 0, .slice none 0 0] 24 (0, 0))) ∧ (w.heap.size ≤ s_.2) ∧ (w.heap.size ≤ s_.2) ∧ (gb115 ≠ s_.2) ∧ (s_.2 ≠ gb115) ∧ (gb116 ≠ s_.2) ∧ (s_.2 ≠ gb116) ∧ (gb117 ≠ s_.2) ∧ (s_.2 ≠ gb117) ∧ (gb128 ≠ s_.2) ∧ (s_.2 ≠ gb128) ∧ (gb136 ≠ s_.2) ∧ (s_.2 ≠ gb136) ∧ (Below w.heap.size w w')) ?_ ?_
                    rotate_left
                    · intro hCont
                      refine two_ (i := 7) (j := 9) (Ni := some 57) (Nj := some 13) #[true, true, true, true, true, true, true, true, false, false, false] #[true, true, true, true, true, true, true, false, false, true, false] rfl rfl rfl rfl (two_of HT_.out (by kernel_rfl)) (by decide) (by decide) (fun K hK => ?_) (fun K hK => ?_)
                      · skip
                        refine goes_ Tryd.func53 (by kernel_rfl) rfl #[.slice A52 y137.length c52] (by rfl) rfl rfl (by (try simp only [List.map_toArray, List.map_cons, List.map_nil]); first | done | rfl | (simp only [List.length_drop, List.length_take]; rfl)) ?_
                        with_reducible refine (Clone_Link.calls _ _ y137 t141 _ ?side1 ?side2 A29.out).mono ?_
                        (case side1 => repeat (first | exact (Kd.C_below HR140.out HB.out) | (with_reducible refine Kd.C_alloc ?_ _) | (with_reducible refine Kd.C_drewN ?_ _) | (with_reducible refine Kd.C_drew ?_)))
                        (case side2 => exact HC140.out)
                        rintro e w53 ⟨v142, rfl, ho0, hb⟩
                        refine ⟨_, rfl, ?_⟩
                        have n0_ := asd (Kd.R_below HO_6.out hb)
                        have n1_ := asd (Kd.R_elder' HO135.out (Kd.R_base ho0) hb)
                        have n2_ := asd (Kd.R_lower (Kd.R_newB (Kd.R_new' ho0 (Kd.R_lt HO135.out)) (g := gb128) (o := .cells #[.string ((rd_T48 l0_1 t124).f0), .int .i64 ((rd_T48 l0_1 t124).f1)] 48 (0, 0)) BK128.out) (below_size (by repeat (first | (with_reducible first | exact HB.out | apply below_alloc | apply pw_below_drewN | apply below_drew1 | refine below_set ?_ GE115.out | refine below_set ?_ GE116.out | refine below_set ?_ GE117.out | refine below_set ?_ GE128.out | refine below_set ?_ GE136.out) | exact HB.out))))
                        have n3_ := asd (blk_below (g := gb115) (o := .cells #[.int .i64 a0_0, .slice (some ad127) l0_1.length c0_1] 24 (0, 0)) BK115.out hb)
                        have n4_ := asd (blk_below (g := gb116) (o := .cells #[.int .i64 0, .slice none 0 0] 24 (0, 0)) BK116.out hb)
                        have n5_ := asd (blk_below (g := gb117) (o := .cells #[.int .i64 0, .slice none 0 0] 24 (0, 0)) BK117.out hb)
                        have n6_ := asd (blk_below (g := gb128) (o := .cells #[.string ((rd_T48 l0_1 t124).f0), .int .i64 ((rd_T48 l0_1 t124).f1)] 48 (0, 0)) BK128.out hb)
                        have n7_ := asd (blk_below (g := gb136) (o := .cells #[.int .i64 a0_0, .slice Ao47 t133.length co47] 24 (0, 0)) BK136.out hb)
                        have n8_ := asd (below_step (by repeat (first | (with_reducible first | exact HB.out | apply below_alloc | apply pw_below_drewN | apply below_drew1 | refine below_set ?_ GE115.out | refine below_set ?_ GE116.out | refine below_set ?_ GE117.out | refine below_set ?_ GE128.out | refine below_set ?_ GE136.out) | exact HB.out)) hb)
                        clear HO_6
                        clear HO135
                        clear BK115
                        clear BK116
                        clear BK117
                        clear BK128
                        clear BK136
                        clear HB
                        have HO_6 := n0_
                        have HO135 := n1_
                        have HO143 := n2_
                        have BK115 := n3_
                        have BK116 := n4_
                        have BK117 := n5_
                        have BK128 := n6_
                        have BK136 := n7_
                        have HB := n8_
                        clear n0_ n1_ n2_ n3_ n4_ n5_ n6_ n7_ n8_
                        (try clear hb)
                        (try clear hb2)
                        (try clear hk)
                        (try clear hi)
                        (try clear ho0)
                        obtain ⟨Ao54, co54, eo54⟩ := Kd.R_slice HO143.out
                        (first | subst eo54 | (injection eo54 with f1_ f2_ f3_; have f4_ := f1_.symm; have f5_ := f3_.symm; clear f1_ f2_ f3_; subst f4_; subst f5_))
                        refine hK.out _ _ ⟨(blk_cell BK128.out 0).trans rfl, (blk_cell BK128.out 1).trans rfl, (blk_cell BK115.out 0).trans rfl, (blk_cell BK115.out 1).trans rfl⟩ (fun hHeld => ?_)
                        clear hK K
                        refine norm_ (a' := ?_) ?_ ?_
                        rotate_left
                        · show Act.put _ (some 57) _ = _
                          simp only [Act.put, List.setIfInBounds_toArray, List.set_cons_zero, List.set_cons_succ, i64_w, i32_w]
                          rfl
                        refine pure_ (i := 8) (N := some 58) (v := ?_) (a' := ?_) #[true, true, true, true, true, true, true, true, true, false, false] rfl rfl (any_of HT_.out (by kernel_rfl)) (fun _ _ _ h => h) (Or.inl ⟨by rfl, ?_⟩) ?_ ?_
                        rotate_left
                        · intro w'
                          go_simp
                          with_reducible rfl
                        rotate_left
                        · simp only [Act.put, List.setIfInBounds_toArray, List.set_cons_zero, List.set_cons_succ, i64_w, i32_w]
                          rfl
                        refine one_ (i := 9) (N := some 13) #[true, true, true, true, true, true, true, true, true, true, false] rfl rfl (one_of HT_.out (by kernel_rfl)) (by decide) (fun K hK => ?_)
                        refine box_step ?hg (N := 13) ?hd (cs := #[.int .i64 0, .slice none 0 0]) (t := 24) ?hr ?_; (case hd => rfl); (case hg => rfl); (case hr => first | (go_simp; done) | (go_simp; rfl))
                        intro gb144 hg w55 hbox hb
                        have n0_ := asd (Kd.R_below HO_6.out hb)
                        have n1_ := asd (Kd.R_below HO135.out hb)
                        have n2_ := asd (Kd.R_below HO143.out hb)
                        have n3_ := asd (blk_below (g := gb115) (o := .cells #[.int .i64 a0_0, .slice (some ad127) l0_1.length c0_1] 24 (0, 0)) BK115.out hb)
                        have n4_ := asd (blk_below (g := gb116) (o := .cells #[.int .i64 0, .slice none 0 0] 24 (0, 0)) BK116.out hb)
                        have n5_ := asd (blk_below (g := gb117) (o := .cells #[.int .i64 0, .slice none 0 0] 24 (0, 0)) BK117.out hb)
                        have n6_ := asd (blk_below (g := gb128) (o := .cells #[.string ((rd_T48 l0_1 t124).f0), .int .i64 ((rd_T48 l0_1 t124).f1)] 48 (0, 0)) BK128.out hb)
                        have n7_ := asd (blk_below (g := gb136) (o := .cells #[.int .i64 a0_0, .slice Ao47 t133.length co47] 24 (0, 0)) BK136.out hb)
                        have n8_ := asd (below_step (by repeat (first | (with_reducible first | exact HB.out | apply below_alloc | apply pw_below_drewN | apply below_drew1 | refine below_set ?_ GE115.out | refine below_set ?_ GE116.out | refine below_set ?_ GE117.out | refine below_set ?_ GE128.out | refine below_set ?_ GE136.out) | exact HB.out)) hb)
                        have n9_ := asd (hbox)
                        have n10_ := asd ((by rw [hg]; exact (below_size (by repeat (first | (with_reducible first | exact HB.out | apply below_alloc | apply pw_below_drewN | apply below_drew1 | refine below_set ?_ GE115.out | refine below_set ?_ GE116.out | refine below_set ?_ GE117.out | refine below_set ?_ GE128.out | refine below_set ?_ GE136.out) | exact HB.out))) : w.heap.size ≤ gb144))
                        have n11_ := asd ((by rw [hg]; exact (below_size (by repeat (first | (with_reducible first | exact HB.out | apply below_alloc | apply pw_below_drewN | apply below_drew1 | refine below_set ?_ GE115.out | refine below_set ?_ GE116.out | refine below_set ?_ GE117.out | refine below_set ?_ GE128.out | refine below_set ?_ GE136.out) | exact HB.out))) : w.heap.size ≤ gb144))
                        have n12_ := asd ((by rw [hg]; exact Nat.ne_of_lt (blk_lt (g := gb115) (o := .cells #[.int .i64 a0_0, .slice (some ad127) l0_1.length c0_1] 24 (0, 0)) BK115.out) : gb115 ≠ gb144))
                        have n13_ := asd ((by rw [hg]; exact Nat.ne_of_gt (blk_lt (g := gb115) (o := .cells #[.int .i64 a0_0, .slice (some ad127) l0_1.length c0_1] 24 (0, 0)) BK115.out) : gb144 ≠ gb115))
                        have n14_ := asd ((by rw [hg]; exact Nat.ne_of_lt (blk_lt (g := gb116) (o := .cells #[.int .i64 0, .slice none 0 0] 24 (0, 0)) BK116.out) : gb116 ≠ gb144))
                        have n15_ := asd ((by rw [hg]; exact Nat.ne_of_gt (blk_lt (g := gb116) (o := .cells #[.int .i64 0, .slice none 0 0] 24 (0, 0)) BK116.out) : gb144 ≠ gb116))
                        have n16_ := asd ((by rw [hg]; exact Nat.ne_of_lt (blk_lt (g := gb117) (o := .cells #[.int .i64 0, .slice none 0 0] 24 (0, 0)) BK117.out) : gb117 ≠ gb144))
                        have n17_ := asd ((by rw [hg]; exact Nat.ne_of_gt (blk_lt (g := gb117) (o := .cells #[.int .i64 0, .slice none 0 0] 24 (0, 0)) BK117.out) : gb144 ≠ gb117))
                        have n18_ := asd ((by rw [hg]; exact Nat.ne_of_lt (blk_lt (g := gb128) (o := .cells #[.string ((rd_T48 l0_1 t124).f0), .int .i64 ((rd_T48 l0_1 t124).f1)] 48 (0, 0)) BK128.out) : gb128 ≠ gb144))
                        have n19_ := asd ((by rw [hg]; exact Nat.ne_of_gt (blk_lt (g := gb128) (o := .cells #[.string ((rd_T48 l0_1 t124).f0), .int .i64 ((rd_T48 l0_1 t124).f1)] 48 (0, 0)) BK128.out) : gb144 ≠ gb128))
                        have n20_ := asd ((by rw [hg]; exact Nat.ne_of_lt (blk_lt (g := gb136) (o := .cells #[.int .i64 a0_0, .slice Ao47 t133.length co47] 24 (0, 0)) BK136.out) : gb136 ≠ gb144))
                        have n21_ := asd ((by rw [hg]; exact Nat.ne_of_gt (blk_lt (g := gb136) (o := .cells #[.int .i64 a0_0, .slice Ao47 t133.length co47] 24 (0, 0)) BK136.out) : gb144 ≠ gb136))
                        clear HO_6
                        clear HO135
                        clear HO143
                        clear BK115
                        clear BK116
                        clear BK117
                        clear BK128
                        clear BK136
                        clear HB
                        have HO_6 := n0_
                        have HO135 := n1_
                        have HO143 := n2_
                        have BK115 := n3_
                        have BK116 := n4_
                        have BK117 := n5_
                        have BK128 := n6_
                        have BK136 := n7_
                        have HB := n8_
                        have BK144 := n9_
                        have GW144 := n10_
                        have GE144 := n11_
                        have NB115_144 := n12_
                        have NB144_115 := n13_
                        have NB116_144 := n14_
                        have NB144_116 := n15_
                        have NB117_144 := n16_
                        have NB144_117 := n17_
                        have NB128_144 := n18_
                        have NB144_128 := n19_
                        have NB136_144 := n20_
                        have NB144_136 := n21_
                        clear n0_ n1_ n2_ n3_ n4_ n5_ n6_ n7_ n8_ n9_ n10_ n11_ n12_ n13_ n14_ n15_ n16_ n17_ n18_ n19_ n20_ n21_
                        clear hb hbox hg
                        refine hK.out _ _ ⟨(blk_cell BK128.out 0).trans rfl, (blk_cell BK128.out 1).trans rfl, (blk_cell BK115.out 0).trans rfl, (blk_cell BK115.out 1).trans rfl⟩ (fun hHeld => ?_)
                        clear hK K
                        refine norm_ (a' := ?_) ?_ ?_
                        rotate_left
                        · show Act.put _ (some 13) _ = _
                          simp only [Act.put, List.setIfInBounds_toArray, List.set_cons_zero, List.set_cons_succ, i64_w, i32_w]
                          rfl
                        exact norm_ (by simp only [putAll, Act.put, List.setIfInBounds_toArray, List.set_cons_zero, List.set_cons_succ]) (hCont (.slice Ao54 t141.length co54, gb144) _ ⟨hHeld, (by (with_reducible repeat (first | apply Kd.R_alloc | apply Kd.R_drewN | apply Kd.R_drew)); exact Kd.R_mono HO135.out (fun _ hk => ⟨hk.2, hk.1⟩)), (by (with_reducible repeat (first | apply Kd.R_alloc | apply Kd.R_drewN | apply Kd.R_drew)); exact Kd.R_mono HO143.out (fun _ hk => ⟨hk.1.2, hk.2⟩)), HO_6.out, BK115.out, BK116.out, BK117.out, BK128.out, BK136.out, BK144.out, GW144.out, GE144.out, NB115_144.out, NB144_115.out, NB116_144.out, NB144_116.out, NB117_144.out, NB144_117.out, NB128_144.out, NB144_128.out, NB136_144.out, NB144_136.out, (by repeat (first | (with_reducible first | exact HB.out | apply below_alloc | apply pw_below_drewN | apply below_drew1 | refine below_set ?_ GE115.out | refine below_set ?_ GE116.out | refine below_set ?_ GE117.out | refine below_set ?_ GE128.out | refine below_set ?_ GE136.out | refine below_set ?_ GE144.out) | exact HB.out))⟩)
                      · skip
                        refine box_step ?hg (N := 13) ?hd (cs := #[.int .i64 0, .slice none 0 0]) (t := 24) ?hr ?_; (case hd => rfl); (case hg => rfl); (case hr => first | (go_simp; done) | (go_simp; rfl))
                        intro gb144 hg w53 hbox hb
                        have n0_ := asd (Kd.R_below HO_6.out hb)
                        have n1_ := asd (Kd.R_below HO135.out hb)
                        have n2_ := asd (blk_below (g := gb115) (o := .cells #[.int .i64 a0_0, .slice (some ad127) l0_1.length c0_1] 24 (0, 0)) BK115.out hb)
                        have n3_ := asd (blk_below (g := gb116) (o := .cells #[.int .i64 0, .slice none 0 0] 24 (0, 0)) BK116.out hb)
                        have n4_ := asd (blk_below (g := gb117) (o := .cells #[.int .i64 0, .slice none 0 0] 24 (0, 0)) BK117.out hb)
                        have n5_ := asd (blk_below (g := gb128) (o := .cells #[.string ((rd_T48 l0_1 t124).f0), .int .i64 ((rd_T48 l0_1 t124).f1)] 48 (0, 0)) BK128.out hb)
                        have n6_ := asd (blk_below (g := gb136) (o := .cells #[.int .i64 a0_0, .slice Ao47 t133.length co47] 24 (0, 0)) BK136.out hb)
                        have n7_ := asd (below_step (by repeat (first | (with_reducible first | exact HB.out | apply below_alloc | apply pw_below_drewN | apply below_drew1 | refine below_set ?_ GE115.out | refine below_set ?_ GE116.out | refine below_set ?_ GE117.out | refine below_set ?_ GE128.out | refine below_set ?_ GE136.out) | exact HB.out)) hb)
                        have n8_ := asd (hbox)
                        have n9_ := asd ((by rw [hg]; exact (below_size (by repeat (first | (with_reducible first | exact HB.out | apply below_alloc | apply pw_below_drewN | apply below_drew1 | refine below_set ?_ GE115.out | refine below_set ?_ GE116.out | refine below_set ?_ GE117.out | refine below_set ?_ GE128.out | refine below_set ?_ GE136.out) | exact HB.out))) : w.heap.size ≤ gb144))
                        have n10_ := asd ((by rw [hg]; exact (below_size (by repeat (first | (with_reducible first | exact HB.out | apply below_alloc | apply pw_below_drewN | apply below_drew1 | refine below_set ?_ GE115.out | refine below_set ?_ GE116.out | refine below_set ?_ GE117.out | refine below_set ?_ GE128.out | refine below_set ?_ GE136.out) | exact HB.out))) : w.heap.size ≤ gb144))
                        have n11_ := asd ((by rw [hg]; exact Nat.ne_of_lt (blk_lt (g := gb115) (o := .cells #[.int .i64 a0_0, .slice (some ad127) l0_1.length c0_1] 24 (0, 0)) BK115.out) : gb115 ≠ gb144))
                        have n12_ := asd ((by rw [hg]; exact Nat.ne_of_gt (blk_lt (g := gb115) (o := .cells #[.int .i64 a0_0, .slice (some ad127) l0_1.length c0_1] 24 (0, 0)) BK115.out) : gb144 ≠ gb115))
                        have n13_ := asd ((by rw [hg]; exact Nat.ne_of_lt (blk_lt (g := gb116) (o := .cells #[.int .i64 0, .slice none 0 0] 24 (0, 0)) BK116.out) : gb116 ≠ gb144))
                        have n14_ := asd ((by rw [hg]; exact Nat.ne_of_gt (blk_lt (g := gb116) (o := .cells #[.int .i64 0, .slice none 0 0] 24 (0, 0)) BK116.out) : gb144 ≠ gb116))
                        have n15_ := asd ((by rw [hg]; exact Nat.ne_of_lt (blk_lt (g := gb117) (o := .cells #[.int .i64 0, .slice none 0 0] 24 (0, 0)) BK117.out) : gb117 ≠ gb144))
                        have n16_ := asd ((by rw [hg]; exact Nat.ne_of_gt (blk_lt (g := gb117) (o := .cells #[.int .i64 0, .slice none 0 0] 24 (0, 0)) BK117.out) : gb144 ≠ gb117))
                        have n17_ := asd ((by rw [hg]; exact Nat.ne_of_lt (blk_lt (g := gb128) (o := .cells #[.string ((rd_T48 l0_1 t124).f0), .int .i64 ((rd_T48 l0_1 t124).f1)] 48 (0, 0)) BK128.out) : gb128 ≠ gb144))
                        have n18_ := asd ((by rw [hg]; exact Nat.ne_of_gt (blk_lt (g := gb128) (o := .cells #[.string ((rd_T48 l0_1 t124).f0), .int .i64 ((rd_T48 l0_1 t124).f1)] 48 (0, 0)) BK128.out) : gb144 ≠ gb128))
                        have n19_ := asd ((by rw [hg]; exact Nat.ne_of_lt (blk_lt (g := gb136) (o := .cells #[.int .i64 a0_0, .slice Ao47 t133.length co47] 24 (0, 0)) BK136.out) : gb136 ≠ gb144))
                        have n20_ := asd ((by rw [hg]; exact Nat.ne_of_gt (blk_lt (g := gb136) (o := .cells #[.int .i64 a0_0, .slice Ao47 t133.length co47] 24 (0, 0)) BK136.out) : gb144 ≠ gb136))
                        clear HO_6
                        clear HO135
                        clear BK115
                        clear BK116
                        clear BK117
                        clear BK128
                        clear BK136
                        clear HB
                        have HO_6 := n0_
                        have HO135 := n1_
                        have BK115 := n2_
                        have BK116 := n3_
                        have BK117 := n4_
                        have BK128 := n5_
                        have BK136 := n6_
                        have HB := n7_
                        have BK144 := n8_
                        have GW144 := n9_
                        have GE144 := n10_
                        have NB115_144 := n11_
                        have NB144_115 := n12_
                        have NB116_144 := n13_
                        have NB144_116 := n14_
                        have NB117_144 := n15_
                        have NB144_117 := n16_
                        have NB128_144 := n17_
                        have NB144_128 := n18_
                        have NB136_144 := n19_
                        have NB144_136 := n20_
                        clear n0_ n1_ n2_ n3_ n4_ n5_ n6_ n7_ n8_ n9_ n10_ n11_ n12_ n13_ n14_ n15_ n16_ n17_ n18_ n19_ n20_
                        clear hb hbox hg
                        refine hK.out _ _ ⟨(blk_cell BK128.out 0).trans rfl, (blk_cell BK128.out 1).trans rfl, (blk_cell BK115.out 0).trans rfl, (blk_cell BK115.out 1).trans rfl⟩ (fun hHeld => ?_)
                        clear hK K
                        refine norm_ (a' := ?_) ?_ ?_
                        rotate_left
                        · show Act.put _ (some 13) _ = _
                          simp only [Act.put, List.setIfInBounds_toArray, List.set_cons_zero, List.set_cons_succ, i64_w, i32_w]
                          rfl
                        refine one_ (i := 7) (N := some 57) #[true, true, true, true, true, true, true, true, false, true, false] rfl rfl (one_of HT_.out (by kernel_rfl)) (by decide) (fun K hK => ?_)
                        refine goes_ Tryd.func53 (by kernel_rfl) rfl #[.slice A52 y137.length c52] (by rfl) rfl rfl (by (try simp only [List.map_toArray, List.map_cons, List.map_nil]); first | done | rfl | (simp only [List.length_drop, List.length_take]; rfl)) ?_
                        with_reducible refine (Clone_Link.calls _ _ y137 t141 _ ?side1 ?side2 A29.out).mono ?_
                        (case side1 => repeat (first | exact (Kd.C_below HR140.out HB.out) | (with_reducible refine Kd.C_alloc ?_ _) | (with_reducible refine Kd.C_drewN ?_ _) | (with_reducible refine Kd.C_drew ?_)))
                        (case side2 => exact HC140.out)
                        rintro e w54 ⟨v142, rfl, ho0, hb⟩
                        refine ⟨_, rfl, ?_⟩
                        have n0_ := asd (Kd.R_below HO_6.out hb)
                        have n1_ := asd (Kd.R_elder' HO135.out (Kd.R_base ho0) hb)
                        have n2_ := asd (Kd.R_lower (Kd.R_newB (Kd.R_new' ho0 (Kd.R_lt HO135.out)) (g := gb128) (o := .cells #[.string ((rd_T48 l0_1 t124).f0), .int .i64 ((rd_T48 l0_1 t124).f1)] 48 (0, 0)) BK128.out) (below_size (by repeat (first | (with_reducible first | exact HB.out | apply below_alloc | apply pw_below_drewN | apply below_drew1 | refine below_set ?_ GE115.out | refine below_set ?_ GE116.out | refine below_set ?_ GE117.out | refine below_set ?_ GE128.out | refine below_set ?_ GE136.out | refine below_set ?_ GE144.out) | exact HB.out))))
                        have n3_ := asd (blk_below (g := gb115) (o := .cells #[.int .i64 a0_0, .slice (some ad127) l0_1.length c0_1] 24 (0, 0)) BK115.out hb)
                        have n4_ := asd (blk_below (g := gb116) (o := .cells #[.int .i64 0, .slice none 0 0] 24 (0, 0)) BK116.out hb)
                        have n5_ := asd (blk_below (g := gb117) (o := .cells #[.int .i64 0, .slice none 0 0] 24 (0, 0)) BK117.out hb)
                        have n6_ := asd (blk_below (g := gb128) (o := .cells #[.string ((rd_T48 l0_1 t124).f0), .int .i64 ((rd_T48 l0_1 t124).f1)] 48 (0, 0)) BK128.out hb)
                        have n7_ := asd (blk_below (g := gb136) (o := .cells #[.int .i64 a0_0, .slice Ao47 t133.length co47] 24 (0, 0)) BK136.out hb)
                        have n8_ := asd (blk_below (g := gb144) (o := .cells #[.int .i64 0, .slice none 0 0] 24 (0, 0)) BK144.out hb)
                        have n9_ := asd (below_step (by repeat (first | (with_reducible first | exact HB.out | apply below_alloc | apply pw_below_drewN | apply below_drew1 | refine below_set ?_ GE115.out | refine below_set ?_ GE116.out | refine below_set ?_ GE117.out | refine below_set ?_ GE128.out | refine below_set ?_ GE136.out | refine below_set ?_ GE144.out) | exact HB.out)) hb)
                        clear HO_6
                        clear HO135
                        clear BK115
                        clear BK116
                        clear BK117
                        clear BK128
                        clear BK136
                        clear BK144
                        clear HB
                        have HO_6 := n0_
                        have HO135 := n1_
                        have HO143 := n2_
                        have BK115 := n3_
                        have BK116 := n4_
                        have BK117 := n5_
                        have BK128 := n6_
                        have BK136 := n7_
                        have BK144 := n8_
                        have HB := n9_
                        clear n0_ n1_ n2_ n3_ n4_ n5_ n6_ n7_ n8_ n9_
                        (try clear hb)
                        (try clear hb2)
                        (try clear hk)
                        (try clear hi)
                        (try clear ho0)
                        obtain ⟨Ao55, co55, eo55⟩ := Kd.R_slice HO143.out
                        (first | subst eo55 | (injection eo55 with f1_ f2_ f3_; have f4_ := f1_.symm; have f5_ := f3_.symm; clear f1_ f2_ f3_; subst f4_; subst f5_))
                        refine hK.out _ _ ⟨(blk_cell BK128.out 0).trans rfl, (blk_cell BK128.out 1).trans rfl, (blk_cell BK115.out 0).trans rfl, (blk_cell BK115.out 1).trans rfl⟩ (fun hHeld => ?_)
                        clear hK K
                        refine norm_ (a' := ?_) ?_ ?_
                        rotate_left
                        · show Act.put _ (some 57) _ = _
                          simp only [Act.put, List.setIfInBounds_toArray, List.set_cons_zero, List.set_cons_succ, i64_w, i32_w]
                          rfl
                        refine pure_ (i := 8) (N := some 58) (v := ?_) (a' := ?_) #[true, true, true, true, true, true, true, true, true, true, false] rfl rfl (any_of HT_.out (by kernel_rfl)) (fun _ _ _ h => h) (Or.inl ⟨by rfl, ?_⟩) ?_ ?_
                        rotate_left
                        · intro w'
                          go_simp
                          with_reducible rfl
                        rotate_left
                        · simp only [Act.put, List.setIfInBounds_toArray, List.set_cons_zero, List.set_cons_succ, i64_w, i32_w]
                          rfl
                        exact norm_ (by simp only [putAll, Act.put, List.setIfInBounds_toArray, List.set_cons_zero, List.set_cons_succ]) (hCont (.slice Ao55 t141.length co55, gb144) _ ⟨hHeld, (by (with_reducible repeat (first | apply Kd.R_alloc | apply Kd.R_drewN | apply Kd.R_drew)); exact Kd.R_mono HO135.out (fun _ hk => ⟨hk.2, hk.1⟩)), (by (with_reducible repeat (first | apply Kd.R_alloc | apply Kd.R_drewN | apply Kd.R_drew)); exact Kd.R_mono HO143.out (fun _ hk => ⟨hk.1.2, hk.2⟩)), HO_6.out, BK115.out, BK116.out, BK117.out, BK128.out, BK136.out, BK144.out, GW144.out, GE144.out, NB115_144.out, NB144_115.out, NB116_144.out, NB144_116.out, NB117_144.out, NB144_117.out, NB128_144.out, NB144_128.out, NB136_144.out, NB144_136.out, (by repeat (first | (with_reducible first | exact HB.out | apply below_alloc | apply pw_below_drewN | apply below_drew1 | refine below_set ?_ GE115.out | refine below_set ?_ GE116.out | refine below_set ?_ GE117.out | refine below_set ?_ GE128.out | refine below_set ?_ GE136.out | refine below_set ?_ GE144.out) | exact HB.out))⟩)
                    rintro ⟨v142, gb144⟩ w56 ⟨hS_, h0_, h1_, h2_, h3_, h4_, h5_, h6_, h7_, h8_, h9_, h10_, h11_, h12_, h13_, h14_, h15_, h16_, h17_, h18_, h19_, h20_, h21_⟩
                    have n0_ : Aside0 (Kd.R k48 48 w56 w.heap.size (fun k_ => some k_ ≠ (v142 : Value).ownBlock ∧ k_ ≠ gb128) (.slice Ao47 t133.length co47) t133) := ⟨h0_⟩
                    have n1_ : Aside0 (Kd.R k48 48 w56 w.heap.size (fun k_ => some k_ ≠ (.slice Ao47 t133.length co47 : Value).ownBlock ∧ k_ ≠ gb128) v142 t141) := ⟨h1_⟩
                    have n2_ : Aside0 (Kd.R (Kd.int .i64) 3 w56 w.heap.size (fun _ => True) (.slice Ao30 x6_1.length co30) x6_1) := ⟨h2_⟩
                    have n3_ : Aside0 (w56.heap[gb115]? = some (.cells #[.int .i64 a0_0, .slice (some ad127) l0_1.length c0_1] 24 (0, 0))) := ⟨h3_⟩
                    have n4_ : Aside0 (w56.heap[gb116]? = some (.cells #[.int .i64 0, .slice none 0 0] 24 (0, 0))) := ⟨h4_⟩
                    have n5_ : Aside0 (w56.heap[gb117]? = some (.cells #[.int .i64 0, .slice none 0 0] 24 (0, 0))) := ⟨h5_⟩
                    have n6_ : Aside0 (w56.heap[gb128]? = some (.cells #[.string ((rd_T48 l0_1 t124).f0), .int .i64 ((rd_T48 l0_1 t124).f1)] 48 (0, 0))) := ⟨h6_⟩
                    have n7_ : Aside0 (w56.heap[gb136]? = some (.cells #[.int .i64 a0_0, .slice Ao47 t133.length co47] 24 (0, 0))) := ⟨h7_⟩
                    have n8_ : Aside0 (w56.heap[gb144]? = some (.cells #[.int .i64 0, .slice none 0 0] 24 (0, 0))) := ⟨h8_⟩
                    have n9_ : Aside0 (w.heap.size ≤ gb144) := ⟨h9_⟩
                    have n10_ : Aside0 (w.heap.size ≤ gb144) := ⟨h10_⟩
                    have n11_ : Aside0 (gb115 ≠ gb144) := ⟨h11_⟩
                    have n12_ : Aside0 (gb144 ≠ gb115) := ⟨h12_⟩
                    have n13_ : Aside0 (gb116 ≠ gb144) := ⟨h13_⟩
                    have n14_ : Aside0 (gb144 ≠ gb116) := ⟨h14_⟩
                    have n15_ : Aside0 (gb117 ≠ gb144) := ⟨h15_⟩
                    have n16_ : Aside0 (gb144 ≠ gb117) := ⟨h16_⟩
                    have n17_ : Aside0 (gb128 ≠ gb144) := ⟨h17_⟩
                    have n18_ : Aside0 (gb144 ≠ gb128) := ⟨h18_⟩
                    have n19_ : Aside0 (gb136 ≠ gb144) := ⟨h19_⟩
                    have n20_ : Aside0 (gb144 ≠ gb136) := ⟨h20_⟩
                    have n21_ : Aside0 (Below w.heap.size w w56) := ⟨h21_⟩
                    clear HO_6
                    clear HO135
                    clear BK115
                    clear BK116
                    clear BK117
                    clear BK128
                    clear BK136
                    clear HB
                    clear h0_ h1_ h2_ h3_ h4_ h5_ h6_ h7_ h8_ h9_ h10_ h11_ h12_ h13_ h14_ h15_ h16_ h17_ h18_ h19_ h20_ h21_
                    have HO135 := n0_
                    have HO143 := n1_
                    have HO_6 := n2_
                    have BK115 := n3_
                    have BK116 := n4_
                    have BK117 := n5_
                    have BK128 := n6_
                    have BK136 := n7_
                    have BK144 := n8_
                    have GW144 := n9_
                    have GE144 := n10_
                    have NB115_144 := n11_
                    have NB144_115 := n12_
                    have NB116_144 := n13_
                    have NB144_116 := n14_
                    have NB117_144 := n15_
                    have NB144_117 := n16_
                    have NB128_144 := n17_
                    have NB144_128 := n18_
                    have NB136_144 := n19_
                    have NB144_136 := n20_
                    have HB := n21_
                    clear n0_ n1_ n2_ n3_ n4_ n5_ n6_ n7_ n8_ n9_ n10_ n11_ n12_ n13_ n14_ n15_ n16_ n17_ n18_ n19_ n20_ n21_
                    have hHeld : w56.cell? ⟨gb128, 0, none⟩ = some (.string ((rd_T48 l0_1 t124).f0)) ∧ w56.cell? ⟨gb128, 1, none⟩ = some (.int .i64 ((rd_T48 l0_1 t124).f1)) ∧ w56.cell? ⟨gb115, 0, none⟩ = some (.int .i64 a0_0) ∧ w56.cell? ⟨gb115, 1, none⟩ = some (.slice (some ad127) l0_1.length c0_1) := hS_
                    obtain ⟨Ao57, co57, eo57⟩ := Kd.R_slice HO143.out
                    (first | subst eo57 | (injection eo57 with f1_ f2_ f3_; have f4_ := f1_.symm; have f5_ := f3_.symm; clear f1_ f2_ f3_; subst f4_; subst f5_))
                    refine norm_ (a' := ?_) ?_ ?_
                    rotate_left
                    · simp only [putAll, Act.put, List.setIfInBounds_toArray, List.set_cons_zero, List.set_cons_succ]
                      rfl
                    refine one_ (i := 10) (N := none) #[true, true, true, true, true, true, true, true, true, true, true] rfl rfl (one_of HT_.out (by kernel_rfl)) (by decide) (fun K hK => ?_)
                    have hs58 : w56.cell? ⟨gb144, 0, none⟩ = some (.int .i64 0) := (blk_cell BK144.out 0).trans rfl
                    have hfs58 := blk_frozen BK144.out 0
                    have hns58_0 := NB115_144.out
                    have hns58_1 := NB116_144.out
                    have hns58_2 := NB117_144.out
                    have hns58_3 := NB128_144.out
                    have hns58_4 := NB136_144.out
                    have hms58_0 := NB144_115.out
                    have hms58_1 := NB144_116.out
                    have hms58_2 := NB144_117.out
                    have hms58_3 := NB144_128.out
                    have hms58_4 := NB144_136.out
                    have hs59 : w56.cell? ⟨gb144, 1, none⟩ = some (.slice none 0 0) := (blk_cell BK144.out 1).trans rfl
                    have hfs59 := blk_frozen BK144.out 1
                    have hns59_0 := NB115_144.out
                    have hns59_1 := NB116_144.out
                    have hns59_2 := NB117_144.out
                    have hns59_3 := NB128_144.out
                    have hns59_4 := NB136_144.out
                    have hms59_0 := NB144_115.out
                    have hms59_1 := NB144_116.out
                    have hms59_2 := NB144_117.out
                    have hms59_3 := NB144_128.out
                    have hms59_4 := NB144_136.out
                    refine skip_ (w1 := ?_) (by rfl) rfl ?_ ?_
                    rotate_left
                    · go_simp
                      rfl
                    refine hK.out _ _ ⟨((cell_far (p := ⟨gb144, _, none⟩) NB128_144.out _).trans (((cell_far (p := ⟨gb144, _, none⟩) NB128_144.out _).trans (hHeld.1)))), ((cell_far (p := ⟨gb144, _, none⟩) NB128_144.out _).trans (((cell_far (p := ⟨gb144, _, none⟩) NB128_144.out _).trans (hHeld.2.1)))), ((cell_far (p := ⟨gb144, _, none⟩) NB115_144.out _).trans (((cell_far (p := ⟨gb144, _, none⟩) NB115_144.out _).trans (hHeld.2.2.1)))), ((cell_far (p := ⟨gb144, _, none⟩) NB115_144.out _).trans (((cell_far (p := ⟨gb144, _, none⟩) NB115_144.out _).trans (hHeld.2.2.2))))⟩ (fun hHeld => ?_)
                    clear hK K
                    refine done_ (done_of HT_.out (by kernel_rfl)) ?_
                    try go_wp2
                    have n0_ : Aside0 (Kd.R (Kd.int .i64) 3 ((w56.setCell ⟨gb144, 0, none⟩ (.int .i64 ((rd_T48 l0_1 t124).f1))).setCell ⟨gb144, 1, none⟩ (.slice Ao57 t141.length co57)) w.heap.size (fun _ => True) (.slice Ao30 x6_1.length co30) x6_1) := ⟨by (with_reducible repeat (first | apply Kd.R_alloc | apply Kd.R_drewN | apply Kd.R_drew)); exact Kd.R_mono (Kd.R_far (p := ⟨gb144, 1, none⟩) (Kd.R_far (p := ⟨gb144, 0, none⟩) (Kd.R_types HO_6.out BK144.out (by decide)) (fun _ hk => hk.2) (.int .i64 ((rd_T48 l0_1 t124).f1))) (fun _ hk => hk.2) (.slice Ao57 t141.length co57)) (fun _ hk => trivial)⟩
                    have n1_ : Aside0 (Kd.R k48 48 ((w56.setCell ⟨gb144, 0, none⟩ (.int .i64 ((rd_T48 l0_1 t124).f1))).setCell ⟨gb144, 1, none⟩ (.slice Ao57 t141.length co57)) w.heap.size (fun k_ => some k_ ≠ (.slice Ao57 t141.length co57 : Value).ownBlock ∧ k_ ≠ gb128) (.slice Ao47 t133.length co47) t133) := ⟨by (with_reducible repeat (first | apply Kd.R_alloc | apply Kd.R_drewN | apply Kd.R_drew)); exact Kd.R_mono (Kd.R_far (p := ⟨gb144, 1, none⟩) (Kd.R_far (p := ⟨gb144, 0, none⟩) (Kd.R_types HO135.out BK144.out (by decide)) (fun _ hk => hk.2) (.int .i64 ((rd_T48 l0_1 t124).f1))) (fun _ hk => hk.2) (.slice Ao57 t141.length co57)) (fun _ hk => ⟨hk.1.1, hk.1.2⟩)⟩
                    have n2_ : Aside0 (Kd.R k48 48 ((w56.setCell ⟨gb144, 0, none⟩ (.int .i64 ((rd_T48 l0_1 t124).f1))).setCell ⟨gb144, 1, none⟩ (.slice Ao57 t141.length co57)) w.heap.size (fun k_ => some k_ ≠ (.slice Ao47 t133.length co47 : Value).ownBlock ∧ k_ ≠ gb128) (.slice Ao57 t141.length co57) t141) := ⟨by (with_reducible repeat (first | apply Kd.R_alloc | apply Kd.R_drewN | apply Kd.R_drew)); exact Kd.R_mono (Kd.R_far (p := ⟨gb144, 1, none⟩) (Kd.R_far (p := ⟨gb144, 0, none⟩) (Kd.R_types HO143.out BK144.out (by decide)) (fun _ hk => hk.2) (.int .i64 ((rd_T48 l0_1 t124).f1))) (fun _ hk => hk.2) (.slice Ao57 t141.length co57)) (fun _ hk => ⟨hk.1.1, hk.1.2⟩)⟩
                    have n3_ : Aside0 (((w56.setCell ⟨gb144, 0, none⟩ (.int .i64 ((rd_T48 l0_1 t124).f1))).setCell ⟨gb144, 1, none⟩ (.slice Ao57 t141.length co57)).heap[gb115]? = some (.cells #[.int .i64 a0_0, .slice (some ad127) l0_1.length c0_1] 24 (0, 0))) := ⟨by (with_reducible repeat (first | refine blk_drewN ?_ _ | refine blk_drew ?_ | refine blk_alloc ?_ _)); refine blk_far ?_ NB115_144.out _; (with_reducible repeat (first | refine blk_drewN ?_ _ | refine blk_drew ?_ | refine blk_alloc ?_ _)); refine blk_far ?_ NB115_144.out _; (with_reducible repeat (first | refine blk_drewN ?_ _ | refine blk_drew ?_ | refine blk_alloc ?_ _)); exact BK115.out⟩
                    have n4_ : Aside0 (((w56.setCell ⟨gb144, 0, none⟩ (.int .i64 ((rd_T48 l0_1 t124).f1))).setCell ⟨gb144, 1, none⟩ (.slice Ao57 t141.length co57)).heap[gb116]? = some (.cells #[.int .i64 0, .slice none 0 0] 24 (0, 0))) := ⟨by (with_reducible repeat (first | refine blk_drewN ?_ _ | refine blk_drew ?_ | refine blk_alloc ?_ _)); refine blk_far ?_ NB116_144.out _; (with_reducible repeat (first | refine blk_drewN ?_ _ | refine blk_drew ?_ | refine blk_alloc ?_ _)); refine blk_far ?_ NB116_144.out _; (with_reducible repeat (first | refine blk_drewN ?_ _ | refine blk_drew ?_ | refine blk_alloc ?_ _)); exact BK116.out⟩
                    have n5_ : Aside0 (((w56.setCell ⟨gb144, 0, none⟩ (.int .i64 ((rd_T48 l0_1 t124).f1))).setCell ⟨gb144, 1, none⟩ (.slice Ao57 t141.length co57)).heap[gb117]? = some (.cells #[.int .i64 0, .slice none 0 0] 24 (0, 0))) := ⟨by (with_reducible repeat (first | refine blk_drewN ?_ _ | refine blk_drew ?_ | refine blk_alloc ?_ _)); refine blk_far ?_ NB117_144.out _; (with_reducible repeat (first | refine blk_drewN ?_ _ | refine blk_drew ?_ | refine blk_alloc ?_ _)); refine blk_far ?_ NB117_144.out _; (with_reducible repeat (first | refine blk_drewN ?_ _ | refine blk_drew ?_ | refine blk_alloc ?_ _)); exact BK117.out⟩
                    have n6_ : Aside0 (((w56.setCell ⟨gb144, 0, none⟩ (.int .i64 ((rd_T48 l0_1 t124).f1))).setCell ⟨gb144, 1, none⟩ (.slice Ao57 t141.length co57)).heap[gb128]? = some (.cells #[.string ((rd_T48 l0_1 t124).f0), .int .i64 ((rd_T48 l0_1 t124).f1)] 48 (0, 0))) := ⟨by (with_reducible repeat (first | refine blk_drewN ?_ _ | refine blk_drew ?_ | refine blk_alloc ?_ _)); refine blk_far ?_ NB128_144.out _; (with_reducible repeat (first | refine blk_drewN ?_ _ | refine blk_drew ?_ | refine blk_alloc ?_ _)); refine blk_far ?_ NB128_144.out _; (with_reducible repeat (first | refine blk_drewN ?_ _ | refine blk_drew ?_ | refine blk_alloc ?_ _)); exact BK128.out⟩
                    have n7_ : Aside0 (((w56.setCell ⟨gb144, 0, none⟩ (.int .i64 ((rd_T48 l0_1 t124).f1))).setCell ⟨gb144, 1, none⟩ (.slice Ao57 t141.length co57)).heap[gb136]? = some (.cells #[.int .i64 a0_0, .slice Ao47 t133.length co47] 24 (0, 0))) := ⟨by (with_reducible repeat (first | refine blk_drewN ?_ _ | refine blk_drew ?_ | refine blk_alloc ?_ _)); refine blk_far ?_ NB136_144.out _; (with_reducible repeat (first | refine blk_drewN ?_ _ | refine blk_drew ?_ | refine blk_alloc ?_ _)); refine blk_far ?_ NB136_144.out _; (with_reducible repeat (first | refine blk_drewN ?_ _ | refine blk_drew ?_ | refine blk_alloc ?_ _)); exact BK136.out⟩
                    have n8_ : Aside0 (((w56.setCell ⟨gb144, 0, none⟩ (.int .i64 ((rd_T48 l0_1 t124).f1))).setCell ⟨gb144, 1, none⟩ (.slice Ao57 t141.length co57)).heap[gb144]? = some (.cells #[.int .i64 ((rd_T48 l0_1 t124).f1), .slice Ao57 t141.length co57] 24 (0, 0))) := ⟨by (with_reducible repeat (first | refine blk_drewN ?_ _ | refine blk_drew ?_ | refine blk_alloc ?_ _)); refine blk_put (cs := #[.int .i64 ((rd_T48 l0_1 t124).f1), .slice none 0 0]) ?_ 1 _ rfl; (with_reducible repeat (first | refine blk_drewN ?_ _ | refine blk_drew ?_ | refine blk_alloc ?_ _)); refine blk_put (cs := #[.int .i64 0, .slice none 0 0]) ?_ 0 _ rfl; (with_reducible repeat (first | refine blk_drewN ?_ _ | refine blk_drew ?_ | refine blk_alloc ?_ _)); exact BK144.out⟩
                    have n9_ : Aside0 (Below w.heap.size w ((w56.setCell ⟨gb144, 0, none⟩ (.int .i64 ((rd_T48 l0_1 t124).f1))).setCell ⟨gb144, 1, none⟩ (.slice Ao57 t141.length co57))) := ⟨by repeat (first | (with_reducible first | exact HB.out | apply below_alloc | apply pw_below_drewN | apply below_drew1 | refine below_set ?_ GE115.out | refine below_set ?_ GE116.out | refine below_set ?_ GE117.out | refine below_set ?_ GE128.out | refine below_set ?_ GE136.out | refine below_set ?_ GE144.out) | exact HB.out)⟩
                    (try clear HO_6)
                    (try clear HO135)
                    (try clear HO143)
                    (try clear BK115)
                    (try clear BK116)
                    (try clear BK117)
                    (try clear BK128)
                    (try clear BK136)
                    (try clear BK144)
                    (try clear HB)
                    generalize ((w56.setCell ⟨gb144, 0, none⟩ (.int .i64 ((rd_T48 l0_1 t124).f1))).setCell ⟨gb144, 1, none⟩ (.slice Ao57 t141.length co57)) = w60 at n0_ n1_ n2_ n3_ n4_ n5_ n6_ n7_ n8_ n9_ ⊢
                    have HO_6 := n0_
                    have HO135 := n1_
                    have HO143 := n2_
                    have BK115 := n3_
                    have BK116 := n4_
                    have BK117 := n5_
                    have BK128 := n6_
                    have BK136 := n7_
                    have BK144 := n8_
                    have HB := n9_
                    clear n0_ n1_ n2_ n3_ n4_ n5_ n6_ n7_ n8_ n9_
                    have n0_ := asd (Kd.R_drew HO_6.out)
                    have n1_ := asd (Kd.R_drew HO135.out)
                    have n2_ := asd (Kd.R_drew HO143.out)
                    have n3_ := asd (blk_drew BK115.out)
                    have n4_ := asd (blk_drew BK116.out)
                    have n5_ := asd (blk_drew BK117.out)
                    have n6_ := asd (blk_drew BK128.out)
                    have n7_ := asd (blk_drew BK136.out)
                    have n8_ := asd (blk_drew BK144.out)
                    have n9_ := asd (below_drew1 HB.out)
                    clear HO_6
                    clear HO135
                    clear HO143
                    clear BK115
                    clear BK116
                    clear BK117
                    clear BK128
                    clear BK136
                    clear BK144
                    clear HB
                    have HO_6 := n0_
                    have HO135 := n1_
                    have HO143 := n2_
                    have BK115 := n3_
                    have BK116 := n4_
                    have BK117 := n5_
                    have BK128 := n6_
                    have BK136 := n7_
                    have BK144 := n8_
                    have HB := n9_
                    clear n0_ n1_ n2_ n3_ n4_ n5_ n6_ n7_ n8_ n9_
                    refine start_ (n := 8) (S := fun w' => w'.cell? ⟨gb136, 0, none⟩ = some (.int .i64 a0_0) ∧ w'.cell? ⟨gb136, 1, none⟩ = some (.slice Ao47 t133.length co47) ∧ w'.cell? ⟨gb128, 0, none⟩ = some (.string ((rd_T48 l0_1 t124).f0)) ∧ w'.cell? ⟨gb128, 1, none⟩ = some (.int .i64 ((rd_T48 l0_1 t124).f1)) ∧ w'.cell? ⟨gb144, 0, none⟩ = some (.int .i64 ((rd_T48 l0_1 t124).f1)) ∧ w'.cell? ⟨gb144, 1, none⟩ = some (.slice Ao57 t141.length co57)) (ds := []) #[false, false, false, false, false, false, false, false] (by kernel_rfl) rfl rfl ⟨(blk_cell BK136.out 0).trans rfl, (blk_cell BK136.out 1).trans rfl, (blk_cell BK128.out 0).trans rfl, (blk_cell BK128.out 1).trans rfl, (blk_cell BK144.out 0).trans rfl, (blk_cell BK144.out 1).trans rfl⟩ (fun hHeld => ?_); refine with_tabW branch_Cut.tab13 branch_Cut.bits13 (fun HT_ HW_ => ?_)
                    generalize w60.drew = w61 at HO_6 HO135 HO143 BK115 BK116 BK117 BK128 BK136 BK144 HB hHeld ⊢
                    refine pure_ (i := 1) (N := some 60) (v := ?_) (a' := ?_) #[false, true, false, false, false, false, false, false] rfl rfl (any_of HT_.out (by kernel_rfl)) (fun _ _ _ h => h) (Or.inl ⟨by rfl, ?_⟩) ?_ ?_
                    rotate_left
                    · intro w'
                      go_simp
                      with_reducible rfl
                    rotate_left
                    · simp only [Act.put, List.setIfInBounds_toArray, List.set_cons_zero, List.set_cons_succ, i64_w, i32_w]
                      rfl
                    refine take_ (i := 0) (N := some 59) (v := ?_) (a' := ?_) #[true, true, false, false, false, false, false, false] rfl rfl (take_ofW HT_.out HW_.out (by kernel_rfl)) (fun _ _ _ h => h) (Or.inl ⟨by rfl, ?_⟩) hHeld ?_ ?_
                    rotate_left
                    · rintro w' ⟨s0, s1, s2, s3, s4, s5⟩
                      go_simp
                      with_reducible rfl
                    rotate_left
                    · simp only [Act.put, List.setIfInBounds_toArray, List.set_cons_zero, List.set_cons_succ, i64_w, i32_w]
                      rfl
                    refine take_ (i := 2) (N := some 61) (v := ?_) (a' := ?_) #[true, true, true, false, false, false, false, false] rfl rfl (take_ofW HT_.out HW_.out (by kernel_rfl)) (fun _ _ _ h => h) (Or.inl ⟨by rfl, ?_⟩) hHeld ?_ ?_
                    rotate_left
                    · rintro w' ⟨s0, s1, s2, s3, s4, s5⟩
                      go_simp
                      with_reducible rfl
                    rotate_left
                    · simp only [Act.put, List.setIfInBounds_toArray, List.set_cons_zero, List.set_cons_succ, i64_w, i32_w]
                      rfl
                    refine take_ (i := 3) (N := some 62) (v := ?_) (a' := ?_) #[true, true, true, true, false, false, false, false] rfl rfl (take_ofW HT_.out HW_.out (by kernel_rfl)) (fun _ _ _ h => h) (Or.inl ⟨by rfl, ?_⟩) hHeld ?_ ?_
                    rotate_left
                    · rintro w' ⟨s0, s1, s2, s3, s4, s5⟩
                      go_simp
                      with_reducible rfl
                    rotate_left
                    · simp only [Act.put, List.setIfInBounds_toArray, List.set_cons_zero, List.set_cons_succ, i64_w, i32_w]
                      rfl
                    refine one_ (i := 4) (N := none) #[true, true, true, true, true, false, false, false] rfl rfl (one_of HT_.out (by kernel_rfl)) (by decide) (fun K hK => ?_)
                    have hs62 : w61.cell? ⟨gb116, 0, none⟩ = some (.int .i64 0) := (blk_cell BK116.out 0).trans rfl
                    have hfs62 := blk_frozen BK116.out 0
                    have hns62_0 := NB115_116.out
                    have hns62_2 := NB117_116.out
                    have hns62_3 := NB128_116.out
                    have hns62_4 := NB136_116.out
                    have hns62_5 := NB144_116.out
                    have hms62_0 := NB116_115.out
                    have hms62_2 := NB116_117.out
                    have hms62_3 := NB116_128.out
                    have hms62_4 := NB116_136.out
                    have hms62_5 := NB116_144.out
                    have hs63 : w61.cell? ⟨gb116, 1, none⟩ = some (.slice none 0 0) := (blk_cell BK116.out 1).trans rfl
                    have hfs63 := blk_frozen BK116.out 1
                    have hns63_0 := NB115_116.out
                    have hns63_2 := NB117_116.out
                    have hns63_3 := NB128_116.out
                    have hns63_4 := NB136_116.out
                    have hns63_5 := NB144_116.out
                    have hms63_0 := NB116_115.out
                    have hms63_2 := NB116_117.out
                    have hms63_3 := NB116_128.out
                    have hms63_4 := NB116_136.out
                    have hms63_5 := NB116_144.out
                    refine skip_ (w1 := ?_) (by rfl) rfl ?_ ?_
                    rotate_left
                    · go_simp
                      rfl
                    refine hK.out _ _ ⟨((cell_far (p := ⟨gb116, _, none⟩) NB136_116.out _).trans (((cell_far (p := ⟨gb116, _, none⟩) NB136_116.out _).trans (hHeld.1)))), ((cell_far (p := ⟨gb116, _, none⟩) NB136_116.out _).trans (((cell_far (p := ⟨gb116, _, none⟩) NB136_116.out _).trans (hHeld.2.1)))), ((cell_far (p := ⟨gb116, _, none⟩) NB128_116.out _).trans (((cell_far (p := ⟨gb116, _, none⟩) NB128_116.out _).trans (hHeld.2.2.1)))), ((cell_far (p := ⟨gb116, _, none⟩) NB128_116.out _).trans (((cell_far (p := ⟨gb116, _, none⟩) NB128_116.out _).trans (hHeld.2.2.2.1)))), ((cell_far (p := ⟨gb116, _, none⟩) NB144_116.out _).trans (((cell_far (p := ⟨gb116, _, none⟩) NB144_116.out _).trans (hHeld.2.2.2.2.1)))), ((cell_far (p := ⟨gb116, _, none⟩) NB144_116.out _).trans (((cell_far (p := ⟨gb116, _, none⟩) NB144_116.out _).trans (hHeld.2.2.2.2.2))))⟩ (fun hHeld => ?_)
                    clear hK K
                    refine pure_ (i := 5) (N := some 3) (v := ?_) (a' := ?_) #[true, true, true, true, true, true, false, false] rfl rfl (any_of HT_.out (by kernel_rfl)) (fun _ _ _ h => h) (Or.inl ⟨by rfl, ?_⟩) ?_ ?_
                    rotate_left
                    · intro w'
                      go_simp
                      with_reducible rfl
                    rotate_left
                    · simp only [Act.put, List.setIfInBounds_toArray, List.set_cons_zero, List.set_cons_succ, i64_w, i32_w]
                      rfl
                    refine one_ (i := 6) (N := none) #[true, true, true, true, true, true, true, false] rfl rfl (one_of HT_.out (by kernel_rfl)) (by decide) (fun K hK => ?_)
                    have hs64 : w61.cell? ⟨gb117, 0, none⟩ = some (.int .i64 0) := (blk_cell BK117.out 0).trans rfl
                    have hfs64 := blk_frozen BK117.out 0
                    have hns64_0 := NB115_117.out
                    have hns64_1 := NB116_117.out
                    have hns64_3 := NB128_117.out
                    have hns64_4 := NB136_117.out
                    have hns64_5 := NB144_117.out
                    have hms64_0 := NB117_115.out
                    have hms64_1 := NB117_116.out
                    have hms64_3 := NB117_128.out
                    have hms64_4 := NB117_136.out
                    have hms64_5 := NB117_144.out
                    have hs65 : w61.cell? ⟨gb117, 1, none⟩ = some (.slice none 0 0) := (blk_cell BK117.out 1).trans rfl
                    have hfs65 := blk_frozen BK117.out 1
                    have hns65_0 := NB115_117.out
                    have hns65_1 := NB116_117.out
                    have hns65_3 := NB128_117.out
                    have hns65_4 := NB136_117.out
                    have hns65_5 := NB144_117.out
                    have hms65_0 := NB117_115.out
                    have hms65_1 := NB117_116.out
                    have hms65_3 := NB117_128.out
                    have hms65_4 := NB117_136.out
                    have hms65_5 := NB117_144.out
                    refine skip_ (w1 := ?_) (by rfl) rfl ?_ ?_
                    rotate_left
                    · go_simp
                      rfl
                    refine hK.out _ _ ⟨((cell_far (p := ⟨gb117, _, none⟩) NB136_117.out _).trans (((cell_far (p := ⟨gb117, _, none⟩) NB136_117.out _).trans (hHeld.1)))), ((cell_far (p := ⟨gb117, _, none⟩) NB136_117.out _).trans (((cell_far (p := ⟨gb117, _, none⟩) NB136_117.out _).trans (hHeld.2.1)))), ((cell_far (p := ⟨gb117, _, none⟩) NB128_117.out _).trans (((cell_far (p := ⟨gb117, _, none⟩) NB128_117.out _).trans (hHeld.2.2.1)))), ((cell_far (p := ⟨gb117, _, none⟩) NB128_117.out _).trans (((cell_far (p := ⟨gb117, _, none⟩) NB128_117.out _).trans (hHeld.2.2.2.1)))), ((cell_far (p := ⟨gb117, _, none⟩) NB144_117.out _).trans (((cell_far (p := ⟨gb117, _, none⟩) NB144_117.out _).trans (hHeld.2.2.2.2.1)))), ((cell_far (p := ⟨gb117, _, none⟩) NB144_117.out _).trans (((cell_far (p := ⟨gb117, _, none⟩) NB144_117.out _).trans (hHeld.2.2.2.2.2))))⟩ (fun hHeld => ?_)
                    clear hK K
                    refine pure_ (i := 7) (N := some 5) (v := ?_) (a' := ?_) #[true, true, true, true, true, true, true, true] rfl rfl (any_of HT_.out (by kernel_rfl)) (fun _ _ _ h => h) (Or.inl ⟨by rfl, ?_⟩) ?_ ?_
                    rotate_left
                    · intro w'
                      go_simp
                      with_reducible rfl
                    rotate_left
                    · simp only [Act.put, List.setIfInBounds_toArray, List.set_cons_zero, List.set_cons_succ, i64_w, i32_w]
                      rfl
                    refine done_ (done_of HT_.out (by kernel_rfl)) ?_
                    try go_wp2
                    refine bodyPost_ret (results_list (rs := [.cell 2 24, .tmp 3, .cell 4 24, .tmp 5]) rfl (by simp) (.cell gb116 24 #[.int .i64 a0_0, .slice Ao47 t133.length co47] (0, 0) _ rfl (by (with_reducible repeat (first | refine blk_drewN ?_ _ | refine blk_drew ?_ | refine blk_alloc ?_ _)); refine blk_far ?_ NB116_117.out _; (with_reducible repeat (first | refine blk_drewN ?_ _ | refine blk_drew ?_ | refine blk_alloc ?_ _)); refine blk_far ?_ NB116_117.out _; (with_reducible repeat (first | refine blk_drewN ?_ _ | refine blk_drew ?_ | refine blk_alloc ?_ _)); refine blk_put (cs := #[.int .i64 a0_0, .slice none 0 0]) ?_ 1 _ rfl; (with_reducible repeat (first | refine blk_drewN ?_ _ | refine blk_drew ?_ | refine blk_alloc ?_ _)); refine blk_put (cs := #[.int .i64 0, .slice none 0 0]) ?_ 0 _ rfl; (with_reducible repeat (first | refine blk_drewN ?_ _ | refine blk_drew ?_ | refine blk_alloc ?_ _)); exact BK116.out) Tryd.underlying24 rfl (by kernel_rfl) (.tmp (.cell gb117 24 #[.int .i64 ((rd_T48 l0_1 t124).f1), .slice Ao57 t141.length co57] (0, 0) _ rfl (by (with_reducible repeat (first | refine blk_drewN ?_ _ | refine blk_drew ?_ | refine blk_alloc ?_ _)); refine blk_put (cs := #[.int .i64 ((rd_T48 l0_1 t124).f1), .slice none 0 0]) ?_ 1 _ rfl; (with_reducible repeat (first | refine blk_drewN ?_ _ | refine blk_drew ?_ | refine blk_alloc ?_ _)); refine blk_put (cs := #[.int .i64 0, .slice none 0 0]) ?_ 0 _ rfl; (with_reducible repeat (first | refine blk_drewN ?_ _ | refine blk_drew ?_ | refine blk_alloc ?_ _)); refine blk_far ?_ NB117_116.out _; (with_reducible repeat (first | refine blk_drewN ?_ _ | refine blk_drew ?_ | refine blk_alloc ?_ _)); refine blk_far ?_ NB117_116.out _; (with_reducible repeat (first | refine blk_drewN ?_ _ | refine blk_drew ?_ | refine blk_alloc ?_ _)); exact BK117.out) Tryd.underlying24 rfl (by kernel_rfl) (.tmp .nil))))) rfl ?_
                    exact ⟨_, _, by first | rfl | (simp [errW_none, errW_some] <;> rfl) | (simp only [← hji26]; first | rfl | (simp [errW_none, errW_some] <;> rfl)) | (simp [*, errW_none, errW_some] <;> rfl), by (with_reducible repeat (first | apply Kd.R_alloc | apply Kd.R_drewN | apply Kd.R_drew)); exact Kd.R_mono (Kd.R_far (p := ⟨gb117, 1, none⟩) (Kd.R_far (p := ⟨gb117, 0, none⟩) (Kd.R_far (p := ⟨gb116, 1, none⟩) (Kd.R_far (p := ⟨gb116, 0, none⟩) (Kd.R_types (Kd.R_types HO135.out BK116.out (by decide)) BK117.out (by decide)) (fun _ hk => hk.1.2) (.int .i64 a0_0)) (fun _ hk => hk.1.2) (.slice Ao47 t133.length co47)) (fun _ hk => hk.2) (.int .i64 ((rd_T48 l0_1 t124).f1))) (fun _ hk => hk.2) (.slice Ao57 t141.length co57)) (fun _ hk => hk.1.1.1), by (with_reducible repeat (first | apply Kd.R_alloc | apply Kd.R_drewN | apply Kd.R_drew)); exact Kd.R_mono (Kd.R_far (p := ⟨gb117, 1, none⟩) (Kd.R_far (p := ⟨gb117, 0, none⟩) (Kd.R_far (p := ⟨gb116, 1, none⟩) (Kd.R_far (p := ⟨gb116, 0, none⟩) (Kd.R_types (Kd.R_types HO143.out BK116.out (by decide)) BK117.out (by decide)) (fun _ hk => hk.1.2) (.int .i64 a0_0)) (fun _ hk => hk.1.2) (.slice Ao47 t133.length co47)) (fun _ hk => hk.2) (.int .i64 ((rd_T48 l0_1 t124).f1))) (fun _ hk => hk.2) (.slice Ao57 t141.length co57)) (fun _ hk => hk.1.1.1), by repeat (first | (with_reducible first | exact HB.out | apply below_alloc | apply pw_below_drewN | apply below_drew1 | refine below_set ?_ GE115.out | refine below_set ?_ GE116.out | refine below_set ?_ GE117.out | refine below_set ?_ GE128.out | refine below_set ?_ GE136.out | refine below_set ?_ GE144.out) | exact HB.out)⟩
                  · rw [if_neg c28] at H
                    exact absurd H (by simp)
                · rw [if_neg c27] at H
                  exact absurd H (by simp)
              · rw [if_neg c24] at H
                exact absurd H (by simp)
            · rw [if_neg c22] at H
              exact absurd H (by simp)
          · rw [if_neg c21] at H
            exact absurd H (by simp)
        · have H1 : (some (0, ([] : List (S48)), (⟨#[]⟩ : ByteArray), 0, ([] : List (S48)), some q126)) = some (r1, r2, r3, r4, r5, r6) := by rw [if_neg (show ¬ (some q126).isNone = true by simp)] at H; exact H
          clear H
          have H := H1
          clear H1
          try simp only [errW_none, errW_some]
          simp only [Option.some.injEq, Prod.mk.injEq] at H
          obtain ⟨rfl, rfl, rfl, rfl, rfl, rfl⟩ := H
          obtain ⟨Ao66, co66, eo66⟩ := Kd.R_slice HO_6.out
          subst eo66
          go_wp2_with (first | ((with_reducible refine gate_callee (f := 52) rfl ?_); refine goesL_ (some 29) rfl rfl Tryd.func52 (by kernel_rfl) rfl #[.slice Ao66 x6_1.length co66] rfl (by (try simp only [List.map_toArray, List.map_cons, List.map_nil]); first | done | rfl | (simp only [List.length_drop, List.length_take]; rfl)) ?_; (with_reducible refine (cells_Pivot.calls (B_ := B_) _ _ x6_1 t124 (some q126) _ ?side3 ?side1 ?side2 A20.out).mono ?_); (case side1 => repeat (first | exact (Kd.R_reads' HO_6.out).2.2 | (with_reducible refine Kd.C_alloc ?_ _) | (with_reducible refine Kd.C_drewN ?_ _) | (with_reducible refine Kd.C_drew ?_))); (case side2 => exact (Kd.R_reads' HO_6.out).2.1); (case side3 => exact Sen.sub (Sen.below HE.out (by repeat (first | (with_reducible first | exact HB.out | apply below_alloc | apply pw_below_drewN | apply below_drew1 | refine below_set ?_ GE115.out | refine below_set ?_ GE116.out | refine below_set ?_ GE117.out) | exact HB.out))) (by decide)); rintro e w67 ⟨rfl, hb⟩; refine ⟨_, rfl, ?_⟩; have n0_ := asd (Kd.R_below HO_6.out hb); have n1_ := asd (blk_below (g := gb115) (o := .cells #[.int .i64 a0_0, .slice A0_1 l0_1.length c0_1] 24 (0, 0)) BK115.out hb); have n2_ := asd (blk_below (g := gb116) (o := .cells #[.int .i64 0, .slice none 0 0] 24 (0, 0)) BK116.out hb); have n3_ := asd (blk_below (g := gb117) (o := .cells #[.int .i64 0, .slice none 0 0] 24 (0, 0)) BK117.out hb); have n4_ := asd (below_step (by repeat (first | (with_reducible first | exact HB.out | apply below_alloc | apply pw_below_drewN | apply below_drew1 | refine below_set ?_ GE115.out | refine below_set ?_ GE116.out | refine below_set ?_ GE117.out) | exact HB.out)) hb); clear HO_6; clear BK115; clear BK116; clear BK117; clear HB; have HO_6 := n0_; have BK115 := n1_; have BK116 := n2_; have BK117 := n3_; have HB := n4_; clear n0_ n1_ n2_ n3_ n4_; (try clear hb); (try clear hb2); (try clear hk); (try clear hi); (try simp only [errW_none, errW_some]); have hnb68 := NB116_115.out; have hnc68 := NB115_116.out; have hnb69 := NB116_117.out; have hnc69 := NB117_116.out; have hcz70_0 : w67.cell? ⟨gb116, 0, none⟩ = some (.int .i64 0) := (blk_cell BK116.out 0).trans rfl; have hcz70_1 : w67.cell? ⟨gb116, 1, none⟩ = some (.slice none 0 0) := (blk_cell BK116.out 1).trans rfl; have hfz70_0 := blk_frozen BK116.out 0; have hfz70_1 := blk_frozen BK116.out 1; have hnb71 := NB117_115.out; have hnc71 := NB115_117.out; have hcz72_0 : w67.cell? ⟨gb117, 0, none⟩ = some (.int .i64 0) := (blk_cell BK117.out 0).trans rfl; have hcz72_1 : w67.cell? ⟨gb117, 1, none⟩ = some (.slice none 0 0) := (blk_cell BK117.out 1).trans rfl; have hfz72_0 := blk_frozen BK117.out 0; have hfz72_1 := blk_frozen BK117.out 1))
          refine bodyPost_ret (results_list (rs := [.cell 2 24, .tmp 3, .cell 4 24, .tmp 5]) rfl (by simp) (.cell gb116 24 #[.int .i64 0, .slice none 0 0] (0, 0) _ rfl (by (with_reducible repeat (first | refine blk_drewN ?_ _ | refine blk_drew ?_ | refine blk_alloc ?_ _)); refine blk_far ?_ NB116_117.out _; (with_reducible repeat (first | refine blk_drewN ?_ _ | refine blk_drew ?_ | refine blk_alloc ?_ _)); refine blk_far ?_ NB116_117.out _; (with_reducible repeat (first | refine blk_drewN ?_ _ | refine blk_drew ?_ | refine blk_alloc ?_ _)); refine blk_put (cs := #[.int .i64 0, .slice none 0 0]) ?_ 1 _ rfl; (with_reducible repeat (first | refine blk_drewN ?_ _ | refine blk_drew ?_ | refine blk_alloc ?_ _)); refine blk_put (cs := #[.int .i64 0, .slice none 0 0]) ?_ 0 _ rfl; (with_reducible repeat (first | refine blk_drewN ?_ _ | refine blk_drew ?_ | refine blk_alloc ?_ _)); exact BK116.out) Tryd.underlying24 rfl (by kernel_rfl) (.tmp (.cell gb117 24 #[.int .i64 0, .slice none 0 0] (0, 0) _ rfl (by (with_reducible repeat (first | refine blk_drewN ?_ _ | refine blk_drew ?_ | refine blk_alloc ?_ _)); refine blk_put (cs := #[.int .i64 0, .slice none 0 0]) ?_ 1 _ rfl; (with_reducible repeat (first | refine blk_drewN ?_ _ | refine blk_drew ?_ | refine blk_alloc ?_ _)); refine blk_put (cs := #[.int .i64 0, .slice none 0 0]) ?_ 0 _ rfl; (with_reducible repeat (first | refine blk_drewN ?_ _ | refine blk_drew ?_ | refine blk_alloc ?_ _)); refine blk_far ?_ NB117_116.out _; (with_reducible repeat (first | refine blk_drewN ?_ _ | refine blk_drew ?_ | refine blk_alloc ?_ _)); refine blk_far ?_ NB117_116.out _; (with_reducible repeat (first | refine blk_drewN ?_ _ | refine blk_drew ?_ | refine blk_alloc ?_ _)); exact BK117.out) Tryd.underlying24 rfl (by kernel_rfl) (.tmp .nil))))) rfl ?_
          exact ⟨_, _, by first | rfl | (simp [errW_none, errW_some] <;> rfl) | (simp [*, errW_none, errW_some] <;> rfl), by first | exact Kd.R_nil _ _ _ _ _ | exact Kd.N_nil _ _ _ _ _ | exact Kd.V_nil _ _ _ _ _ | exact Kd.Q_nil _ _ _ _ _ | exact Kd.S_nil _ _ _ _ _, by first | exact Kd.R_nil _ _ _ _ _ | exact Kd.N_nil _ _ _ _ _ | exact Kd.V_nil _ _ _ _ _ | exact Kd.Q_nil _ _ _ _ _ | exact Kd.S_nil _ _ _ _ _, by repeat (first | (with_reducible first | exact HB.out | apply below_alloc | apply pw_below_drewN | apply below_drew1 | refine below_set ?_ GE115.out | refine below_set ?_ GE116.out | refine below_set ?_ GE117.out) | exact HB.out)⟩

end Go.Proofs.YtocggojbafediaaDoor.Ref
