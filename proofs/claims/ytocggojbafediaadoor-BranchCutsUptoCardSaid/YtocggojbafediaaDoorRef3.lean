/- Written by a program of this session, a turned print: functions of the program, of the document and of the statements, each as a plain Lean function, and that the call comes to it. -/
import Derived.Test.YtocggojbafediaaDoorRef0
import Derived.Test.YtocggojbafediaaDoorRef2
namespace Go.Proofs.YtocggojbafediaaDoor.Ref
open Go.RowKit Go.Proofs.YtocggojbafediaaDoorW.PrintWords Go.Proofs.YtocggojbafediaaDoorW.PrintLast Go.Proofs.YtocggojbafediaaDoorW.PrintMore
attribute [local go_sem] str_leq_ str_geq_ str_gtr_ max2_int min2_int max_two min_two max_three min_three max_four min_four   -- for this text's walks alone
set_option linter.unusedVariables false
set_option linter.unusedSimpArgs false

/-! ### copseref8_Cut: function 17 -/
def copseref8_Cut.l0 : Nat → List Int → Int → Int → List (S48) → Option (Int × (List (S48)) × ByteArray × Int × (List (S48)) × Int)
  | 0, _, _, _, _ => none
  | k + 1, x6, x7, x161000, x161001 => if x7 < (x161001.length : Int) then (if 0 ≤ x7 then (if x6.length < 17592186044416 then (copseref8_Cut.l0 k (x6 ++ [wrap64 (7 + (((rd_T48 x161001 x7).f0).size : Int))]) (wrap64 (x7 + 1)) x161000 x161001) else (none)) else (none)) else ((copseref6_Pivot.f k x6).bind fun bt167 => (if bt167.2 = 0 then ((copseref8_some.f k x161001 0 bt167.1).bind fun t169 => (if 0 ≤ bt167.1 then (if bt167.1 < (x161001.length : Int) then ((copseref8_some.f k x161001 (wrap64 (bt167.1 + 1)) (x161001.length : Int)).bind fun t174 => (some (x161000, t169, (rd_T48 x161001 bt167.1).f0, (rd_T48 x161001 bt167.1).f1, t174, 0))) else (none)) else (none))) else (some (0, ([] : List (S48)), (⟨#[]⟩ : ByteArray), 0, ([] : List (S48)), bt167.2))))
def copseref8_Cut.f (k : Nat) (a0_0 : Int) (l0_1 : List (S48)) : Option (Int × (List (S48)) × ByteArray × Int × (List (S48)) × Int) := copseref8_Cut.l0 k ([] : List Int) 0 a0_0 l0_1
def copseref8_Cut.T9 : Bool × List (List Nat × List Nat) := (true, [([], []), ([0], [0]), ([], []), ([2], [2]), ([], []), ([3, 4], [3, 4]), ([1, 5], [1, 5]), ([], []), ([7, 6, 5, 0, 1, 2, 3, 4, 5, 6, 7], [6, 7])])
def copseref8_Cut.B9 : List Nat := [0, 1, 0, 4, 0, 28, 63, 0, 255]
theorem copseref8_Cut.tab9 : rtab .any (opsOf Tryd.f17 9) = copseref8_Cut.T9 := by kernel_rfl
theorem copseref8_Cut.bits9 : waitsOk copseref8_Cut.T9.2 copseref8_Cut.B9 = true := by kernel_rfl
def copseref8_Cut.T10 : Bool × List (List Nat × List Nat) := (true, [([], []), ([0], [0]), ([], []), ([1, 2], [1, 2]), ([3], [3]), ([4], [4]), ([], []), ([6], [6]), ([], []), ([8], [8]), ([], []), ([10], [10]), ([11], [11]), ([7, 9, 12], [7, 9, 12]), ([5, 13], [5, 13]), ([], []), ([15, 14, 13, 0, 1, 2, 3, 4, 5, 6, 7, 8, 9, 10, 11, 12, 13, 14, 15], [14, 15])])
def copseref8_Cut.B10 : List Nat := [0, 1, 0, 7, 15, 31, 0, 64, 0, 256, 0, 1024, 3072, 8128, 16383, 0, 65535]
theorem copseref8_Cut.tab10 : rtab .any (opsOf Tryd.f17 10) = copseref8_Cut.T10 := by kernel_rfl
theorem copseref8_Cut.bits10 : waitsOk copseref8_Cut.T10.2 copseref8_Cut.B10 = true := by kernel_rfl
def copseref8_Cut.T11 : Bool × List (List Nat × List Nat) := (true, [([], []), ([], []), ([1], [1]), ([], []), ([2, 3], [2, 3]), ([4], [4]), ([5], [5]), ([], []), ([0, 0], [0]), ([6, 8, 0, 1, 2, 3, 4, 5, 6, 8], [6]), ([7, 9, 0, 1, 2, 3, 4, 5, 6, 7, 8, 9], [7]), ([10, 0, 1, 2, 3, 4, 5, 6, 7, 8, 9, 10], [])])
def copseref8_Cut.B11 : List Nat := [0, 0, 2, 0, 14, 30, 62, 0, 1, 383, 1023, 2047]
theorem copseref8_Cut.tab11 : rtab .any (opsOf Tryd.f17 11) = copseref8_Cut.T11 := by kernel_rfl
theorem copseref8_Cut.bits11 : waitsOk copseref8_Cut.T11.2 copseref8_Cut.B11 = true := by kernel_rfl
set_option maxHeartbeats 8000000 in
set_option maxRecDepth 100000 in
theorem copseref8_Cut.calls (k : Nat) (a0_0 : Int) (A0_1 : Option Addr) (c0_1 : Nat) (l0_1 : List (S48)) (r1 : Int) (r2 : List (S48)) (r3 : ByteArray) (r4 : Int) (r5 : List (S48)) (r6 : Int) (w : World) (hr0_1 : Kd.C k48 w A0_1 l0_1.length l0_1) (hc0_1 : l0_1.length ≤ c0_1) (h : copseref8_Cut.f k a0_0 l0_1 = some (r1, r2, r3, r4, r5, r6)) :
    Calls Tryd.prog 17 #[.agg #[.int .i64 a0_0, .slice A0_1 l0_1.length c0_1]] w fun e w' => ∃ v1_ v4_ : Value, e = .returned (.tuple #[.agg #[.int .i64 r1, v1_], .string r3, .agg #[.int .i64 r4, v4_], .int .i64 r6]) ∧ Kd.R k48 48 w' w.heap.size (fun k_ => some k_ ≠ (v4_ : Value).ownBlock) v1_ r2 ∧ Kd.R k48 48 w' w.heap.size (fun k_ => some k_ ≠ (v1_ : Value).ownBlock) v4_ r5 ∧ Below w.heap.size w w' := by
  have hu24 := Tryd.underlying24
  have HR0_1 := asd hr0_1
  have HC0_1 := asd hc0_1
  clear hr0_1 hc0_1
  have HB := asd (Below.refl w.heap.size w)
  have H : (copseref8_Cut.l0 k ([] : List Int) 0 a0_0 l0_1) = some (r1, r2, r3, r4, r5, r6) := h
  clear h
  have H' := asd H
  clear H
  go_enter Tryd.func17, Tryd.ntmps17
  go_wp2_with (first | ((with_reducible refine gate_dst (N := 1) rfl ?_); refine box_event ?hg (N := 1) ?hd (cs := #[.int .i64 a0_0, .slice A0_1 l0_1.length c0_1]) (t := 24) ?hr ?_; (case hd => rfl); (case hg => rfl); (case hr => first | (go_simp; done) | (go_simp; rfl)); intro gb160 hg w2 hbox hb; have n0_ := asd (below_step (by repeat (first | (with_reducible first | exact HB.out | apply below_alloc | apply pw_below_drewN | apply below_drew1) | exact HB.out)) hb); have n1_ := asd (hbox); have n2_ := asd ((by rw [hg]; exact (below_size (by repeat (first | (with_reducible first | exact HB.out | apply below_alloc | apply pw_below_drewN | apply below_drew1) | exact HB.out))) : w.heap.size ≤ gb160)); have n3_ := asd ((by rw [hg]; exact (below_size (by repeat (first | (with_reducible first | exact HB.out | apply below_alloc | apply pw_below_drewN | apply below_drew1) | exact HB.out))) : w.heap.size ≤ gb160)); clear HB; have HB := n0_; have BK160 := n1_; have GW160 := n2_; have GE160 := n3_; clear n0_ n1_ n2_ n3_; clear hb hbox hg) | ((with_reducible refine gate_dst (N := 2) rfl ?_); refine box_event ?hg (N := 2) ?hd (cs := #[.int .i64 0, .slice none 0 0]) (t := 24) ?hr ?_; (case hd => rfl); (case hg => rfl); (case hr => first | (go_simp; done) | (go_simp; rfl)); intro gb161 hg w3 hbox hb; have n0_ := asd (blk_below (g := gb160) (o := .cells #[.int .i64 a0_0, .slice A0_1 l0_1.length c0_1] 24 (0, 0)) BK160.out hb); have n1_ := asd (below_step (by repeat (first | (with_reducible first | exact HB.out | apply below_alloc | apply pw_below_drewN | apply below_drew1 | refine below_set ?_ GE160.out) | exact HB.out)) hb); have n2_ := asd (hbox); have n3_ := asd ((by rw [hg]; exact (below_size (by repeat (first | (with_reducible first | exact HB.out | apply below_alloc | apply pw_below_drewN | apply below_drew1 | refine below_set ?_ GE160.out) | exact HB.out))) : w.heap.size ≤ gb161)); have n4_ := asd ((by rw [hg]; exact (below_size (by repeat (first | (with_reducible first | exact HB.out | apply below_alloc | apply pw_below_drewN | apply below_drew1 | refine below_set ?_ GE160.out) | exact HB.out))) : w.heap.size ≤ gb161)); have n5_ := asd ((by rw [hg]; exact Nat.ne_of_lt (blk_lt (g := gb160) (o := .cells #[.int .i64 a0_0, .slice A0_1 l0_1.length c0_1] 24 (0, 0)) BK160.out) : gb160 ≠ gb161)); have n6_ := asd ((by rw [hg]; exact Nat.ne_of_gt (blk_lt (g := gb160) (o := .cells #[.int .i64 a0_0, .slice A0_1 l0_1.length c0_1] 24 (0, 0)) BK160.out) : gb161 ≠ gb160)); clear BK160; clear HB; have BK160 := n0_; have HB := n1_; have BK161 := n2_; have GW161 := n3_; have GE161 := n4_; have NB160_161 := n5_; have NB161_160 := n6_; clear n0_ n1_ n2_ n3_ n4_ n5_ n6_; clear hb hbox hg) | ((with_reducible refine gate_dst (N := 4) rfl ?_); refine box_event ?hg (N := 4) ?hd (cs := #[.int .i64 0, .slice none 0 0]) (t := 24) ?hr ?_; (case hd => rfl); (case hg => rfl); (case hr => first | (go_simp; done) | (go_simp; rfl)); intro gb162 hg w4 hbox hb; have n0_ := asd (blk_below (g := gb160) (o := .cells #[.int .i64 a0_0, .slice A0_1 l0_1.length c0_1] 24 (0, 0)) BK160.out hb); have n1_ := asd (blk_below (g := gb161) (o := .cells #[.int .i64 0, .slice none 0 0] 24 (0, 0)) BK161.out hb); have n2_ := asd (below_step (by repeat (first | (with_reducible first | exact HB.out | apply below_alloc | apply pw_below_drewN | apply below_drew1 | refine below_set ?_ GE160.out | refine below_set ?_ GE161.out) | exact HB.out)) hb); have n3_ := asd (hbox); have n4_ := asd ((by rw [hg]; exact (below_size (by repeat (first | (with_reducible first | exact HB.out | apply below_alloc | apply pw_below_drewN | apply below_drew1 | refine below_set ?_ GE160.out | refine below_set ?_ GE161.out) | exact HB.out))) : w.heap.size ≤ gb162)); have n5_ := asd ((by rw [hg]; exact (below_size (by repeat (first | (with_reducible first | exact HB.out | apply below_alloc | apply pw_below_drewN | apply below_drew1 | refine below_set ?_ GE160.out | refine below_set ?_ GE161.out) | exact HB.out))) : w.heap.size ≤ gb162)); have n6_ := asd ((by rw [hg]; exact Nat.ne_of_lt (blk_lt (g := gb160) (o := .cells #[.int .i64 a0_0, .slice A0_1 l0_1.length c0_1] 24 (0, 0)) BK160.out) : gb160 ≠ gb162)); have n7_ := asd ((by rw [hg]; exact Nat.ne_of_gt (blk_lt (g := gb160) (o := .cells #[.int .i64 a0_0, .slice A0_1 l0_1.length c0_1] 24 (0, 0)) BK160.out) : gb162 ≠ gb160)); have n8_ := asd ((by rw [hg]; exact Nat.ne_of_lt (blk_lt (g := gb161) (o := .cells #[.int .i64 0, .slice none 0 0] 24 (0, 0)) BK161.out) : gb161 ≠ gb162)); have n9_ := asd ((by rw [hg]; exact Nat.ne_of_gt (blk_lt (g := gb161) (o := .cells #[.int .i64 0, .slice none 0 0] 24 (0, 0)) BK161.out) : gb162 ≠ gb161)); clear BK160; clear BK161; clear HB; have BK160 := n0_; have BK161 := n1_; have HB := n2_; have BK162 := n3_; have GW162 := n4_; have GE162 := n5_; have NB160_162 := n6_; have NB162_160 := n7_; have NB161_162 := n8_; have NB162_161 := n9_; clear n0_ n1_ n2_ n3_ n4_ n5_ n6_ n7_ n8_ n9_; clear hb hbox hg))
  go_loopg [6, 7] k (fun kq v6 v7 w' => ∃ (x6_1 : List Int) (x7_1 : Int), v7 = .int .i64 x7_1 ∧ Aside0 (copseref8_Cut.l0 kq x6_1 x7_1 a0_0 l0_1 = some (r1, r2, r3, r4, r5, r6)) ∧ Aside0 (kq ≤ k) ∧ Aside0 (Kd.R (Kd.int .i64) 3 w' w.heap.size (fun _ => True) v6 x6_1) ∧ Aside0 (w'.heap[gb160]? = some (.cells #[.int .i64 a0_0, (.slice A0_1 l0_1.length c0_1)] 24 (0, 0))) ∧ Aside0 (w'.heap[gb161]? = some (.cells #[.int .i64 0, (.slice none 0 0)] 24 (0, 0))) ∧ Aside0 (w'.heap[gb162]? = some (.cells #[.int .i64 0, (.slice none 0 0)] 24 (0, 0))) ∧ Aside0 (Below w.heap.size w w'))
  case atStart => exact ⟨(([] : List Int)), (0), (by first | rfl | (simp; done) | (simp [*]; done)), H', ⟨Nat.le_refl _⟩, ⟨by first | exact Kd.R_nil _ _ _ _ _ | exact Kd.N_nil _ _ _ _ _ | exact Kd.V_nil _ _ _ _ _ | exact Kd.Q_nil _ _ _ _ _ | exact Kd.S_nil _ _ _ _ _⟩, ⟨by (with_reducible repeat (first | refine blk_drewN ?_ _ | refine blk_drew ?_ | refine blk_alloc ?_ _)); exact BK160.out⟩, ⟨by (with_reducible repeat (first | refine blk_drewN ?_ _ | refine blk_drew ?_ | refine blk_alloc ?_ _)); exact BK161.out⟩, ⟨by (with_reducible repeat (first | refine blk_drewN ?_ _ | refine blk_drew ?_ | refine blk_alloc ?_ _)); exact BK162.out⟩, ⟨by repeat (first | (with_reducible first | exact HB.out | apply below_alloc | apply pw_below_drewN | apply below_drew1 | refine below_set ?_ GE160.out | refine below_set ?_ GE161.out | refine below_set ?_ GE162.out) | exact HB.out)⟩⟩
  case round =>
    clear H'
    try clear c1
    try clear p2
    obtain ⟨x6_1, x7_1, rfl, HA, HK1, HO_6, BK160, BK161, BK162, HB⟩ := hrel
    cases gk with
    | zero => exact absurd HA.out (by simp [copseref8_Cut.l0])
    | succ k1 =>
      have H := HA.out
      clear HA
      simp only [copseref8_Cut.l0] at H
      by_cases c5 : x7_1 < (l0_1.length : Int)
      · rw [if_pos c5] at H
        have c5b0 : decide (x7_1 < (l0_1.length : Int)) = true := decide_eq_true c5
        clear c5
        by_cases c6 : 0 ≤ x7_1
        · rw [if_pos c6] at H
          have c6b0 : decide (0 ≤ x7_1) = true := decide_eq_true c6
          clear c6
          by_cases c7 : x6_1.length < 17592186044416
          · rw [if_pos c7] at H
            have LMc7 := asd c7
            clear c7
            obtain ⟨y164, hy164⟩ : ∃ y_ : List Int, y_ = (x6_1 ++ [wrap64 (7 + (((rd_T48 l0_1 x7_1).f0).size : Int))]) := ⟨_, rfl⟩
            replace H : (copseref8_Cut.l0 k1 y164 (wrap64 (x7_1 + 1)) a0_0 l0_1) = some (r1, r2, r3, r4, r5, r6) := by first | (rw [hy164]; with_reducible exact H) | (have H2_ := (Option.bind_some _ _).symm.trans H; rw [hy164]; with_reducible exact H2_) | (have H2_ := (Option.bind_some _ _).symm.trans H; with_reducible exact H2_) | with_reducible exact H | (rw [hy164]; exact H) | exact H
            have Ny164 := asd hy164
            clear hy164
            have H' := asd H
            clear H
            have hnb8 := NB160_161.out
            have hnc8 := NB161_160.out
            have hnb9 := NB160_162.out
            have hnc9 := NB162_160.out
            have hcz10_0 : wr.cell? ⟨gb160, 0, none⟩ = some (.int .i64 a0_0) := (blk_cell BK160.out 0).trans rfl
            have hcz10_1 : wr.cell? ⟨gb160, 1, none⟩ = some (.slice A0_1 l0_1.length c0_1) := (blk_cell BK160.out 1).trans rfl
            have hfz10_0 := blk_frozen BK160.out 0
            have hfz10_1 := blk_frozen BK160.out 1
            have p163 : 0 ≤ (x7_1 : Int) := of_decide_eq_true (by first | (with_reducible assumption) | assumption)
            have q163 : x7_1 < (l0_1.length : Int) := of_decide_eq_true (by first | (with_reducible assumption) | assumption)
            obtain ⟨ad163, e163, hx163_0, hx163_1⟩ := at_T48 HR0_1.out x7_1 p163 q163
            cases e163
            replace hx163_0 := (HB.out.cell (World.block_lt_of_cell? w _ hx163_0)).trans hx163_0
            replace hx163_1 := (HB.out.cell (World.block_lt_of_cell? w _ hx163_1)).trans hx163_1
            replace p163 := eq_true p163
            replace q163 := eq_true q163
            go_wp2_with (first | ((with_reducible refine gate_builtin (b := .append) (xs := #[.tmp 19, .tmp 28]) rfl ?_); at_builtin; refine Kd.R_append (Kd.int .i64) (w0 := w) w.heap.size rfl (.tmp 19) (.tmp 28) 86 3 (.int .i64 0) 8 rfl Tryd.underlying86 info3 rfl (by decide) (by omega) u6 x6_1 (wrap64 (7 + (((rd_T48 l0_1 x7_1).f0).size : Int))) [.int .i64 (wrap64 (7 + (((rd_T48 l0_1 x7_1).f0).size : Int)))] (fun _ => True) (fun _ => False) rfl rfl ?aP (fun _ hk => hk.elim) ?aF ?aO ?aB ?aS ?aL ?_; (case aP => exact rfl); (case aB => exact (by repeat (first | (with_reducible first | exact HB.out | apply below_alloc | apply pw_below_drewN | apply below_drew1 | refine below_set ?_ GE160.out | refine below_set ?_ GE161.out | refine below_set ?_ GE162.out) | exact HB.out))); (case aF => exact (fun _ _ => trivial)); (case aO => exact HO_6.out); (case aS => exact (below_size (by repeat (first | (with_reducible first | exact HB.out | apply below_alloc | apply pw_below_drewN | apply below_drew1 | refine below_set ?_ GE160.out | refine below_set ?_ GE161.out | refine below_set ?_ GE162.out) | exact HB.out)))); (case aL => have := LMc7.out; omega); intro v165 w11 ho hb hg hat; rw [← Ny164.out] at ho; have n0_ := asd (blk_grown (g := gb160) (o := .cells #[.int .i64 a0_0, .slice (some ad163) l0_1.length c0_1] 24 (0, 0)) BK160.out hg (Kd.R_ne HO_6.out BK160.out (by decide))); have n1_ := asd (blk_grown (g := gb161) (o := .cells #[.int .i64 0, .slice none 0 0] 24 (0, 0)) BK161.out hg (Kd.R_ne HO_6.out BK161.out (by decide))); have n2_ := asd (blk_grown (g := gb162) (o := .cells #[.int .i64 0, .slice none 0 0] 24 (0, 0)) BK162.out hg (Kd.R_ne HO_6.out BK162.out (by decide))); have n3_ := asd (hb); have n4_ := asd (ho); clear BK160; clear BK161; clear BK162; clear HB; clear HO_6; have BK160 := n0_; have BK161 := n1_; have BK162 := n2_; have HB := n3_; have HO166 := n4_; clear n0_ n1_ n2_ n3_ n4_; clear ho hb hg hat))
            go_roundg k1
            case measure => have := HK1.out; omega
            case rel => exact ⟨(y164), (wrap64 (x7_1 + 1)), (by first | rfl | (simp; done) | (simp [*]; done)), H', ⟨by have := HK1.out; omega⟩, ⟨by (with_reducible repeat (first | apply Kd.R_alloc | apply Kd.R_drewN | apply Kd.R_drew)); exact HO166.out⟩, ⟨by (with_reducible repeat (first | refine blk_drewN ?_ _ | refine blk_drew ?_ | refine blk_alloc ?_ _)); exact BK160.out⟩, ⟨by (with_reducible repeat (first | refine blk_drewN ?_ _ | refine blk_drew ?_ | refine blk_alloc ?_ _)); exact BK161.out⟩, ⟨by (with_reducible repeat (first | refine blk_drewN ?_ _ | refine blk_drew ?_ | refine blk_alloc ?_ _)); exact BK162.out⟩, ⟨by repeat (first | (with_reducible first | exact HB.out | apply below_alloc | apply pw_below_drewN | apply below_drew1 | refine below_set ?_ GE160.out | refine below_set ?_ GE161.out | refine below_set ?_ GE162.out) | exact HB.out)⟩⟩
          · rw [if_neg c7] at H
            exact absurd H (by simp)
        · rw [if_neg c6] at H
          exact absurd H (by simp)
      · rw [if_neg c5] at H
        have c5b0 : decide (x7_1 < (l0_1.length : Int)) = false := decide_eq_false c5
        clear c5
        replace H := Option.bind_eq_some_iff.mp H
        obtain ⟨⟨t167, t168⟩, A120, H⟩ := H
        replace H : (if t168 = 0 then ((copseref8_some.f k1 l0_1 0 t167).bind fun t169 => (if 0 ≤ t167 then (if t167 < (l0_1.length : Int) then ((copseref8_some.f k1 l0_1 (wrap64 (t167 + 1)) (l0_1.length : Int)).bind fun t174 => (some (a0_0, t169, (rd_T48 l0_1 t167).f0, (rd_T48 l0_1 t167).f1, t174, 0))) else (none)) else (none))) else (some (0, ([] : List (S48)), (⟨#[]⟩ : ByteArray), 0, ([] : List (S48)), t168))) = some (r1, r2, r3, r4, r5, r6) := H
        have A12 := asd A120
        clear A120
        by_cases c13 : t168 = 0
        · rw [if_pos c13] at H
          have c13b0 : (t168 == 0) = true := beq_iff_eq.mpr c13
          have c13b1 : (t168 != 0) = false := bne_eq_false_iff_eq.mpr c13
          clear c13
          replace H := Option.bind_eq_some_iff.mp H
          obtain ⟨t169, A140, H⟩ := H
          replace H : (if 0 ≤ t167 then (if t167 < (l0_1.length : Int) then ((copseref8_some.f k1 l0_1 (wrap64 (t167 + 1)) (l0_1.length : Int)).bind fun t174 => (some (a0_0, t169, (rd_T48 l0_1 t167).f0, (rd_T48 l0_1 t167).f1, t174, 0))) else (none)) else (none)) = some (r1, r2, r3, r4, r5, r6) := H
          have A14 := asd A140
          clear A140
          by_cases c15 : 0 ≤ t167
          · rw [if_pos c15] at H
            have c15b0 : decide (0 ≤ t167) = true := decide_eq_true c15
            clear c15
            by_cases c16 : t167 < (l0_1.length : Int)
            · rw [if_pos c16] at H
              have c16b0 : decide (t167 < (l0_1.length : Int)) = true := decide_eq_true c16
              clear c16
              replace H := Option.bind_eq_some_iff.mp H
              obtain ⟨t174, A170, H⟩ := H
              replace H : (some (a0_0, t169, (rd_T48 l0_1 t167).f0, (rd_T48 l0_1 t167).f1, t174, 0)) = some (r1, r2, r3, r4, r5, r6) := H
              have A17 := asd A170
              clear A170
              simp only [Option.some.injEq, Prod.mk.injEq] at H
              obtain ⟨rfl, rfl, rfl, rfl, rfl, rfl⟩ := H
              have hnb18 := NB160_161.out
              have hnc18 := NB161_160.out
              have hnb19 := NB160_162.out
              have hnc19 := NB162_160.out
              have hcz20_0 : wr.cell? ⟨gb160, 0, none⟩ = some (.int .i64 a0_0) := (blk_cell BK160.out 0).trans rfl
              have hcz20_1 : wr.cell? ⟨gb160, 1, none⟩ = some (.slice A0_1 l0_1.length c0_1) := (blk_cell BK160.out 1).trans rfl
              have hfz20_0 := blk_frozen BK160.out 0
              have hfz20_1 := blk_frozen BK160.out 1
              obtain ⟨Ao21, co21, eo21⟩ := Kd.R_slice HO_6.out
              subst eo21
              try go_wp2_with (first | ((with_reducible refine gate_callee (f := 54) rfl ?_); refine goesL_ (some 32) rfl rfl Tryd.func54 (by kernel_rfl) rfl #[.slice Ao21 x6_1.length co21] rfl (by (try simp only [List.map_toArray, List.map_cons, List.map_nil]); first | done | rfl | (simp only [List.length_drop, List.length_take]; rfl)) ?_; (with_reducible refine (copseref6_Pivot.calls k1 _ _ x6_1 t167 t168 _ ?side1 ?side2 A12.out).mono ?_); (case side1 => repeat (first | exact (Kd.R_reads' HO_6.out).2.2 | (with_reducible refine Kd.C_alloc ?_ _) | (with_reducible refine Kd.C_drewN ?_ _) | (with_reducible refine Kd.C_drew ?_))); (case side2 => exact (Kd.R_reads' HO_6.out).2.1); rintro e w' ⟨rfl, ⟨nd, rfl⟩⟩; refine ⟨_, rfl, ?_⟩; (try (rw [drewN_self wr]; generalize hq_ : World.drewN wr _ = wr; have n0_ : Aside0 (Kd.R (Kd.int .i64) 3 wr w.heap.size (fun _ => True) (.slice Ao21 x6_1.length co21) x6_1) := ⟨by rw [← hq_]; exact HO_6.out⟩; have n1_ : Aside0 (wr.heap[gb160]? = some (.cells #[.int .i64 a0_0, .slice A0_1 l0_1.length c0_1] 24 (0, 0))) := ⟨by rw [← hq_]; exact BK160.out⟩; have n2_ : Aside0 (wr.heap[gb161]? = some (.cells #[.int .i64 0, .slice none 0 0] 24 (0, 0))) := ⟨by rw [← hq_]; exact BK161.out⟩; have n3_ : Aside0 (wr.heap[gb162]? = some (.cells #[.int .i64 0, .slice none 0 0] 24 (0, 0))) := ⟨by rw [← hq_]; exact BK162.out⟩; have n4_ : Aside0 (Below w.heap.size w wr) := ⟨by rw [← hq_]; exact (by repeat (first | (with_reducible first | exact HB.out | apply below_alloc | apply pw_below_drewN | apply below_drew1 | refine below_set ?_ GE160.out | refine below_set ?_ GE161.out | refine below_set ?_ GE162.out) | exact HB.out))⟩; clear HO_6 BK160 BK161 BK162 HB hq_; have HO_6 := n0_; have BK160 := n1_; have BK161 := n2_; have BK162 := n3_; have HB := n4_; clear n0_ n1_ n2_ n3_ n4_))))
              have n0_ := asd (Kd.R_drew HO_6.out)
              have n1_ := asd (blk_drew BK160.out)
              have n2_ := asd (blk_drew BK161.out)
              have n3_ := asd (blk_drew BK162.out)
              have n4_ := asd (below_drew1 HB.out)
              clear HO_6
              clear BK160
              clear BK161
              clear BK162
              clear HB
              have HO_6 := n0_
              have BK160 := n1_
              have BK161 := n2_
              have BK162 := n3_
              have HB := n4_
              clear n0_ n1_ n2_ n3_ n4_
              refine start_ (n := 9) (S := fun w' => w'.cell? ⟨gb160, 0, none⟩ = some (.int .i64 a0_0) ∧ w'.cell? ⟨gb160, 1, none⟩ = some (.slice A0_1 l0_1.length c0_1)) (ds := []) #[false, false, false, false, false, false, false, false, false] (by kernel_rfl) rfl rfl ⟨(blk_cell BK160.out 0).trans rfl, (blk_cell BK160.out 1).trans rfl⟩ (fun hHeld => ?_); refine with_tabW copseref8_Cut.tab9 copseref8_Cut.bits9 (fun HT_ HW_ => ?_)
              generalize wr.drew = w22 at HO_6 BK160 BK161 BK162 HB hHeld ⊢
              refine pure_ (i := 0) (N := some 40) (v := ?_) (a' := ?_) #[true, false, false, false, false, false, false, false, false] rfl rfl (any_of HT_.out (by kernel_rfl)) (fun _ _ _ h => h) (Or.inl ⟨by rfl, ?_⟩) ?_ ?_
              rotate_left
              · intro w'
                go_simp
                with_reducible rfl
              rotate_left
              · simp only [Act.put, List.setIfInBounds_toArray, List.set_cons_zero, List.set_cons_succ, i64_w, i32_w]
                rfl
              refine pure_ (i := 2) (N := some 42) (v := ?_) (a' := ?_) #[true, false, true, false, false, false, false, false, false] rfl rfl (any_of HT_.out (by kernel_rfl)) (fun _ _ _ h => h) (Or.inl ⟨by rfl, ?_⟩) ?_ ?_
              rotate_left
              · intro w'
                go_simp
                with_reducible rfl
              rotate_left
              · simp only [Act.put, List.setIfInBounds_toArray, List.set_cons_zero, List.set_cons_succ, i64_w, i32_w]
                rfl
              refine pure_ (i := 4) (N := some 44) (v := ?_) (a' := ?_) #[true, false, true, false, true, false, false, false, false] rfl rfl (any_of HT_.out (by kernel_rfl)) (fun _ _ _ h => h) (Or.inl ⟨by rfl, ?_⟩) ?_ ?_
              rotate_left
              · intro w'
                go_simp
                with_reducible rfl
              rotate_left
              · simp only [Act.put, List.setIfInBounds_toArray, List.set_cons_zero, List.set_cons_succ, i64_w, i32_w]
                rfl
              refine take_ (i := 1) (N := some 41) (v := ?_) (a' := ?_) #[true, true, true, false, true, false, false, false, false] rfl rfl (take_ofW HT_.out HW_.out (by kernel_rfl)) (fun _ _ _ h => h) (Or.inl ⟨by rfl, ?_⟩) hHeld ?_ ?_
              rotate_left
              · rintro w' ⟨s0, s1⟩
                go_simp
                with_reducible rfl
              rotate_left
              · simp only [Act.put, List.setIfInBounds_toArray, List.set_cons_zero, List.set_cons_succ, i64_w, i32_w]
                rfl
              refine take_ (i := 3) (N := some 43) (v := ?_) (a' := ?_) #[true, true, true, true, true, false, false, false, false] rfl rfl (take_ofW HT_.out HW_.out (by kernel_rfl)) (fun _ _ _ h => h) (Or.inl ⟨by rfl, ?_⟩) hHeld ?_ ?_
              rotate_left
              · rintro w' ⟨s0, s1⟩
                go_simp
                with_reducible rfl
              rotate_left
              · simp only [Act.put, List.setIfInBounds_toArray, List.set_cons_zero, List.set_cons_succ, i64_w, i32_w]
                rfl
              refine join_ (σ := Value × Nat) 1 #[true, true, true, true, true, true, true, true, false] (fun s_ => [(45, s_.1), (10, .pointer (some ⟨s_.2, 0, none⟩)), (46, .agg #[.int .i64 a0_0, s_.1])]) (fun s_ w' => (w'.cell? ⟨gb160, 0, none⟩ = some (.int .i64 a0_0) ∧ w'.cell? ⟨gb160, 1, none⟩ = some (.slice A0_1 l0_1.length c0_1)) ∧ (Kd.R k48 48 w' w.heap.size (fun _ => True) s_.1 t169) ∧ (Kd.R (Kd.int .i64) 3 w' w.heap.size (fun _ => True) (.slice Ao21 x6_1.length co21) x6_1) ∧ (w'.heap[gb160]? = some (.cells #[.int .i64 a0_0, .slice A0_1 l0_1.length c0_1] 24 (0, 0))) ∧ (w'.heap[gb161]? = some (.cells #[.int .i64 0, .slice none 0 0] 24 (0, 0))) ∧ (w'.heap[gb162]? = some (.cells #[.int .i64 0, .slice none 0 0] 24 (0, 0))) ∧ (w'.heap[s_.2]? = some (.cells #[.int .i64 0, .slice none 0 0] 24 (0, 0))) ∧ (w.heap.size ≤ s_.2) ∧ (w.heap.size ≤ s_.2) ∧ (gb160 ≠ s_.2) ∧ (s_.2 ≠ gb160) ∧ (gb161 ≠ s_.2) ∧ (s_.2 ≠ gb161) ∧ (gb162 ≠ s_.2) ∧ (s_.2 ≠ gb162) ∧ (Below w.heap.size w w')) ?_ ?_
              rotate_left
              · intro hCont
                refine two_ (i := 5) (j := 7) (Ni := some 45) (Nj := some 10) #[true, true, true, true, true, true, false, false, false] #[true, true, true, true, true, false, false, true, false] rfl rfl rfl rfl (two_of HT_.out (by kernel_rfl)) (by decide) (by decide) (fun K hK => ?_) (fun K hK => ?_)
                · skip
                  refine goes_ Tryd.func55 (by kernel_rfl) rfl #[.slice A0_1 l0_1.length c0_1, .int .i64 0, .int .i64 t167] (by rfl) rfl rfl (by (try simp only [List.map_toArray, List.map_cons, List.map_nil]); first | done | rfl | (simp only [List.length_drop, List.length_take]; rfl)) ?_
                  with_reducible refine (copseref8_some.calls k1 _ _ l0_1 0 t167 t169 _ ?side1 ?side2 A14.out).mono ?_
                  (case side1 => repeat (first | exact (Kd.C_below HR0_1.out HB.out) | (with_reducible refine Kd.C_alloc ?_ _) | (with_reducible refine Kd.C_drewN ?_ _) | (with_reducible refine Kd.C_drew ?_)))
                  (case side2 => exact HC0_1.out)
                  rintro e w23 ⟨v170, rfl, ho0, hb⟩
                  refine ⟨_, rfl, ?_⟩
                  have n0_ := asd (Kd.R_below HO_6.out hb)
                  have n1_ := asd (Kd.R_lower ho0 (below_size (by repeat (first | (with_reducible first | exact HB.out | apply below_alloc | apply pw_below_drewN | apply below_drew1 | refine below_set ?_ GE160.out | refine below_set ?_ GE161.out | refine below_set ?_ GE162.out) | exact HB.out))))
                  have n2_ := asd (blk_below (g := gb160) (o := .cells #[.int .i64 a0_0, .slice A0_1 l0_1.length c0_1] 24 (0, 0)) BK160.out hb)
                  have n3_ := asd (blk_below (g := gb161) (o := .cells #[.int .i64 0, .slice none 0 0] 24 (0, 0)) BK161.out hb)
                  have n4_ := asd (blk_below (g := gb162) (o := .cells #[.int .i64 0, .slice none 0 0] 24 (0, 0)) BK162.out hb)
                  have n5_ := asd (below_step (by repeat (first | (with_reducible first | exact HB.out | apply below_alloc | apply pw_below_drewN | apply below_drew1 | refine below_set ?_ GE160.out | refine below_set ?_ GE161.out | refine below_set ?_ GE162.out) | exact HB.out)) hb)
                  clear HO_6
                  clear BK160
                  clear BK161
                  clear BK162
                  clear HB
                  have HO_6 := n0_
                  have HO171 := n1_
                  have BK160 := n2_
                  have BK161 := n3_
                  have BK162 := n4_
                  have HB := n5_
                  clear n0_ n1_ n2_ n3_ n4_ n5_
                  (try clear hb)
                  (try clear hb2)
                  (try clear hk)
                  (try clear hi)
                  (try clear ho0)
                  obtain ⟨Ao24, co24, eo24⟩ := Kd.R_slice HO171.out
                  (first | subst eo24 | (injection eo24 with f1_ f2_ f3_; have f4_ := f1_.symm; have f5_ := f3_.symm; clear f1_ f2_ f3_; subst f4_; subst f5_))
                  refine hK.out _ _ ⟨(blk_cell BK160.out 0).trans rfl, (blk_cell BK160.out 1).trans rfl⟩ (fun hHeld => ?_)
                  clear hK K
                  refine norm_ (a' := ?_) ?_ ?_
                  rotate_left
                  · show Act.put _ (some 45) _ = _
                    simp only [Act.put, List.setIfInBounds_toArray, List.set_cons_zero, List.set_cons_succ, i64_w, i32_w]
                    rfl
                  refine pure_ (i := 6) (N := some 46) (v := ?_) (a' := ?_) #[true, true, true, true, true, true, true, false, false] rfl rfl (any_of HT_.out (by kernel_rfl)) (fun _ _ _ h => h) (Or.inl ⟨by rfl, ?_⟩) ?_ ?_
                  rotate_left
                  · intro w'
                    go_simp
                    with_reducible rfl
                  rotate_left
                  · simp only [Act.put, List.setIfInBounds_toArray, List.set_cons_zero, List.set_cons_succ, i64_w, i32_w]
                    rfl
                  refine one_ (i := 7) (N := some 10) #[true, true, true, true, true, true, true, true, false] rfl rfl (one_of HT_.out (by kernel_rfl)) (by decide) (fun K hK => ?_)
                  refine box_step ?hg (N := 10) ?hd (cs := #[.int .i64 0, .slice none 0 0]) (t := 24) ?hr ?_; (case hd => rfl); (case hg => rfl); (case hr => first | (go_simp; done) | (go_simp; rfl))
                  intro gb172 hg w25 hbox hb
                  have n0_ := asd (Kd.R_below HO_6.out hb)
                  have n1_ := asd (Kd.R_below HO171.out hb)
                  have n2_ := asd (blk_below (g := gb160) (o := .cells #[.int .i64 a0_0, .slice A0_1 l0_1.length c0_1] 24 (0, 0)) BK160.out hb)
                  have n3_ := asd (blk_below (g := gb161) (o := .cells #[.int .i64 0, .slice none 0 0] 24 (0, 0)) BK161.out hb)
                  have n4_ := asd (blk_below (g := gb162) (o := .cells #[.int .i64 0, .slice none 0 0] 24 (0, 0)) BK162.out hb)
                  have n5_ := asd (below_step (by repeat (first | (with_reducible first | exact HB.out | apply below_alloc | apply pw_below_drewN | apply below_drew1 | refine below_set ?_ GE160.out | refine below_set ?_ GE161.out | refine below_set ?_ GE162.out) | exact HB.out)) hb)
                  have n6_ := asd (hbox)
                  have n7_ := asd ((by rw [hg]; exact (below_size (by repeat (first | (with_reducible first | exact HB.out | apply below_alloc | apply pw_below_drewN | apply below_drew1 | refine below_set ?_ GE160.out | refine below_set ?_ GE161.out | refine below_set ?_ GE162.out) | exact HB.out))) : w.heap.size ≤ gb172))
                  have n8_ := asd ((by rw [hg]; exact (below_size (by repeat (first | (with_reducible first | exact HB.out | apply below_alloc | apply pw_below_drewN | apply below_drew1 | refine below_set ?_ GE160.out | refine below_set ?_ GE161.out | refine below_set ?_ GE162.out) | exact HB.out))) : w.heap.size ≤ gb172))
                  have n9_ := asd ((by rw [hg]; exact Nat.ne_of_lt (blk_lt (g := gb160) (o := .cells #[.int .i64 a0_0, .slice A0_1 l0_1.length c0_1] 24 (0, 0)) BK160.out) : gb160 ≠ gb172))
                  have n10_ := asd ((by rw [hg]; exact Nat.ne_of_gt (blk_lt (g := gb160) (o := .cells #[.int .i64 a0_0, .slice A0_1 l0_1.length c0_1] 24 (0, 0)) BK160.out) : gb172 ≠ gb160))
                  have n11_ := asd ((by rw [hg]; exact Nat.ne_of_lt (blk_lt (g := gb161) (o := .cells #[.int .i64 0, .slice none 0 0] 24 (0, 0)) BK161.out) : gb161 ≠ gb172))
                  have n12_ := asd ((by rw [hg]; exact Nat.ne_of_gt (blk_lt (g := gb161) (o := .cells #[.int .i64 0, .slice none 0 0] 24 (0, 0)) BK161.out) : gb172 ≠ gb161))
                  have n13_ := asd ((by rw [hg]; exact Nat.ne_of_lt (blk_lt (g := gb162) (o := .cells #[.int .i64 0, .slice none 0 0] 24 (0, 0)) BK162.out) : gb162 ≠ gb172))
                  have n14_ := asd ((by rw [hg]; exact Nat.ne_of_gt (blk_lt (g := gb162) (o := .cells #[.int .i64 0, .slice none 0 0] 24 (0, 0)) BK162.out) : gb172 ≠ gb162))
                  clear HO_6
                  clear HO171
                  clear BK160
                  clear BK161
                  clear BK162
                  clear HB
                  have HO_6 := n0_
                  have HO171 := n1_
                  have BK160 := n2_
                  have BK161 := n3_
                  have BK162 := n4_
                  have HB := n5_
                  have BK172 := n6_
                  have GW172 := n7_
                  have GE172 := n8_
                  have NB160_172 := n9_
                  have NB172_160 := n10_
                  have NB161_172 := n11_
                  have NB172_161 := n12_
                  have NB162_172 := n13_
                  have NB172_162 := n14_
                  clear n0_ n1_ n2_ n3_ n4_ n5_ n6_ n7_ n8_ n9_ n10_ n11_ n12_ n13_ n14_
                  clear hb hbox hg
                  refine hK.out _ _ ⟨(blk_cell BK160.out 0).trans rfl, (blk_cell BK160.out 1).trans rfl⟩ (fun hHeld => ?_)
                  clear hK K
                  refine norm_ (a' := ?_) ?_ ?_
                  rotate_left
                  · show Act.put _ (some 10) _ = _
                    simp only [Act.put, List.setIfInBounds_toArray, List.set_cons_zero, List.set_cons_succ, i64_w, i32_w]
                    rfl
                  exact norm_ (by simp only [putAll, Act.put, List.setIfInBounds_toArray, List.set_cons_zero, List.set_cons_succ]) (hCont (.slice Ao24 t169.length co24, gb172) _ ⟨hHeld, HO171.out, HO_6.out, BK160.out, BK161.out, BK162.out, BK172.out, GW172.out, GE172.out, NB160_172.out, NB172_160.out, NB161_172.out, NB172_161.out, NB162_172.out, NB172_162.out, (by repeat (first | (with_reducible first | exact HB.out | apply below_alloc | apply pw_below_drewN | apply below_drew1 | refine below_set ?_ GE160.out | refine below_set ?_ GE161.out | refine below_set ?_ GE162.out | refine below_set ?_ GE172.out) | exact HB.out))⟩)
                · skip
                  refine box_step ?hg (N := 10) ?hd (cs := #[.int .i64 0, .slice none 0 0]) (t := 24) ?hr ?_; (case hd => rfl); (case hg => rfl); (case hr => first | (go_simp; done) | (go_simp; rfl))
                  intro gb172 hg w23 hbox hb
                  have n0_ := asd (Kd.R_below HO_6.out hb)
                  have n1_ := asd (blk_below (g := gb160) (o := .cells #[.int .i64 a0_0, .slice A0_1 l0_1.length c0_1] 24 (0, 0)) BK160.out hb)
                  have n2_ := asd (blk_below (g := gb161) (o := .cells #[.int .i64 0, .slice none 0 0] 24 (0, 0)) BK161.out hb)
                  have n3_ := asd (blk_below (g := gb162) (o := .cells #[.int .i64 0, .slice none 0 0] 24 (0, 0)) BK162.out hb)
                  have n4_ := asd (below_step (by repeat (first | (with_reducible first | exact HB.out | apply below_alloc | apply pw_below_drewN | apply below_drew1 | refine below_set ?_ GE160.out | refine below_set ?_ GE161.out | refine below_set ?_ GE162.out) | exact HB.out)) hb)
                  have n5_ := asd (hbox)
                  have n6_ := asd ((by rw [hg]; exact (below_size (by repeat (first | (with_reducible first | exact HB.out | apply below_alloc | apply pw_below_drewN | apply below_drew1 | refine below_set ?_ GE160.out | refine below_set ?_ GE161.out | refine below_set ?_ GE162.out) | exact HB.out))) : w.heap.size ≤ gb172))
                  have n7_ := asd ((by rw [hg]; exact (below_size (by repeat (first | (with_reducible first | exact HB.out | apply below_alloc | apply pw_below_drewN | apply below_drew1 | refine below_set ?_ GE160.out | refine below_set ?_ GE161.out | refine below_set ?_ GE162.out) | exact HB.out))) : w.heap.size ≤ gb172))
                  have n8_ := asd ((by rw [hg]; exact Nat.ne_of_lt (blk_lt (g := gb160) (o := .cells #[.int .i64 a0_0, .slice A0_1 l0_1.length c0_1] 24 (0, 0)) BK160.out) : gb160 ≠ gb172))
                  have n9_ := asd ((by rw [hg]; exact Nat.ne_of_gt (blk_lt (g := gb160) (o := .cells #[.int .i64 a0_0, .slice A0_1 l0_1.length c0_1] 24 (0, 0)) BK160.out) : gb172 ≠ gb160))
                  have n10_ := asd ((by rw [hg]; exact Nat.ne_of_lt (blk_lt (g := gb161) (o := .cells #[.int .i64 0, .slice none 0 0] 24 (0, 0)) BK161.out) : gb161 ≠ gb172))
                  have n11_ := asd ((by rw [hg]; exact Nat.ne_of_gt (blk_lt (g := gb161) (o := .cells #[.int .i64 0, .slice none 0 0] 24 (0, 0)) BK161.out) : gb172 ≠ gb161))
                  have n12_ := asd ((by rw [hg]; exact Nat.ne_of_lt (blk_lt (g := gb162) (o := .cells #[.int .i64 0, .slice none 0 0] 24 (0, 0)) BK162.out) : gb162 ≠ gb172))
                  have n13_ := asd ((by rw [hg]; exact Nat.ne_of_gt (blk_lt (g := gb162) (o := .cells #[.int .i64 0, .slice none 0 0] 24 (0, 0)) BK162.out) : gb172 ≠ gb162))
                  clear HO_6
                  clear BK160
                  clear BK161
                  clear BK162
                  clear HB
                  have HO_6 := n0_
                  have BK160 := n1_
                  have BK161 := n2_
                  have BK162 := n3_
                  have HB := n4_
                  have BK172 := n5_
                  have GW172 := n6_
                  have GE172 := n7_
                  have NB160_172 := n8_
                  have NB172_160 := n9_
                  have NB161_172 := n10_
                  have NB172_161 := n11_
                  have NB162_172 := n12_
                  have NB172_162 := n13_
                  clear n0_ n1_ n2_ n3_ n4_ n5_ n6_ n7_ n8_ n9_ n10_ n11_ n12_ n13_
                  clear hb hbox hg
                  refine hK.out _ _ ⟨(blk_cell BK160.out 0).trans rfl, (blk_cell BK160.out 1).trans rfl⟩ (fun hHeld => ?_)
                  clear hK K
                  refine norm_ (a' := ?_) ?_ ?_
                  rotate_left
                  · show Act.put _ (some 10) _ = _
                    simp only [Act.put, List.setIfInBounds_toArray, List.set_cons_zero, List.set_cons_succ, i64_w, i32_w]
                    rfl
                  refine one_ (i := 5) (N := some 45) #[true, true, true, true, true, true, false, true, false] rfl rfl (one_of HT_.out (by kernel_rfl)) (by decide) (fun K hK => ?_)
                  refine goes_ Tryd.func55 (by kernel_rfl) rfl #[.slice A0_1 l0_1.length c0_1, .int .i64 0, .int .i64 t167] (by rfl) rfl rfl (by (try simp only [List.map_toArray, List.map_cons, List.map_nil]); first | done | rfl | (simp only [List.length_drop, List.length_take]; rfl)) ?_
                  with_reducible refine (copseref8_some.calls k1 _ _ l0_1 0 t167 t169 _ ?side1 ?side2 A14.out).mono ?_
                  (case side1 => repeat (first | exact (Kd.C_below HR0_1.out HB.out) | (with_reducible refine Kd.C_alloc ?_ _) | (with_reducible refine Kd.C_drewN ?_ _) | (with_reducible refine Kd.C_drew ?_)))
                  (case side2 => exact HC0_1.out)
                  rintro e w24 ⟨v170, rfl, ho0, hb⟩
                  refine ⟨_, rfl, ?_⟩
                  have n0_ := asd (Kd.R_below HO_6.out hb)
                  have n1_ := asd (Kd.R_lower ho0 (below_size (by repeat (first | (with_reducible first | exact HB.out | apply below_alloc | apply pw_below_drewN | apply below_drew1 | refine below_set ?_ GE160.out | refine below_set ?_ GE161.out | refine below_set ?_ GE162.out | refine below_set ?_ GE172.out) | exact HB.out))))
                  have n2_ := asd (blk_below (g := gb160) (o := .cells #[.int .i64 a0_0, .slice A0_1 l0_1.length c0_1] 24 (0, 0)) BK160.out hb)
                  have n3_ := asd (blk_below (g := gb161) (o := .cells #[.int .i64 0, .slice none 0 0] 24 (0, 0)) BK161.out hb)
                  have n4_ := asd (blk_below (g := gb162) (o := .cells #[.int .i64 0, .slice none 0 0] 24 (0, 0)) BK162.out hb)
                  have n5_ := asd (blk_below (g := gb172) (o := .cells #[.int .i64 0, .slice none 0 0] 24 (0, 0)) BK172.out hb)
                  have n6_ := asd (below_step (by repeat (first | (with_reducible first | exact HB.out | apply below_alloc | apply pw_below_drewN | apply below_drew1 | refine below_set ?_ GE160.out | refine below_set ?_ GE161.out | refine below_set ?_ GE162.out | refine below_set ?_ GE172.out) | exact HB.out)) hb)
                  clear HO_6
                  clear BK160
                  clear BK161
                  clear BK162
                  clear BK172
                  clear HB
                  have HO_6 := n0_
                  have HO171 := n1_
                  have BK160 := n2_
                  have BK161 := n3_
                  have BK162 := n4_
                  have BK172 := n5_
                  have HB := n6_
                  clear n0_ n1_ n2_ n3_ n4_ n5_ n6_
                  (try clear hb)
                  (try clear hb2)
                  (try clear hk)
                  (try clear hi)
                  (try clear ho0)
                  obtain ⟨Ao25, co25, eo25⟩ := Kd.R_slice HO171.out
                  (first | subst eo25 | (injection eo25 with f1_ f2_ f3_; have f4_ := f1_.symm; have f5_ := f3_.symm; clear f1_ f2_ f3_; subst f4_; subst f5_))
                  refine hK.out _ _ ⟨(blk_cell BK160.out 0).trans rfl, (blk_cell BK160.out 1).trans rfl⟩ (fun hHeld => ?_)
                  clear hK K
                  refine norm_ (a' := ?_) ?_ ?_
                  rotate_left
                  · show Act.put _ (some 45) _ = _
                    simp only [Act.put, List.setIfInBounds_toArray, List.set_cons_zero, List.set_cons_succ, i64_w, i32_w]
                    rfl
                  refine pure_ (i := 6) (N := some 46) (v := ?_) (a' := ?_) #[true, true, true, true, true, true, true, true, false] rfl rfl (any_of HT_.out (by kernel_rfl)) (fun _ _ _ h => h) (Or.inl ⟨by rfl, ?_⟩) ?_ ?_
                  rotate_left
                  · intro w'
                    go_simp
                    with_reducible rfl
                  rotate_left
                  · simp only [Act.put, List.setIfInBounds_toArray, List.set_cons_zero, List.set_cons_succ, i64_w, i32_w]
                    rfl
                  exact norm_ (by simp only [putAll, Act.put, List.setIfInBounds_toArray, List.set_cons_zero, List.set_cons_succ]) (hCont (.slice Ao25 t169.length co25, gb172) _ ⟨hHeld, HO171.out, HO_6.out, BK160.out, BK161.out, BK162.out, BK172.out, GW172.out, GE172.out, NB160_172.out, NB172_160.out, NB161_172.out, NB172_161.out, NB162_172.out, NB172_162.out, (by repeat (first | (with_reducible first | exact HB.out | apply below_alloc | apply pw_below_drewN | apply below_drew1 | refine below_set ?_ GE160.out | refine below_set ?_ GE161.out | refine below_set ?_ GE162.out | refine below_set ?_ GE172.out) | exact HB.out))⟩)
              rintro ⟨v170, gb172⟩ w26 ⟨hS_, h0_, h1_, h2_, h3_, h4_, h5_, h6_, h7_, h8_, h9_, h10_, h11_, h12_, h13_, h14_⟩
              have n0_ : Aside0 (Kd.R k48 48 w26 w.heap.size (fun _ => True) v170 t169) := ⟨h0_⟩
              have n1_ : Aside0 (Kd.R (Kd.int .i64) 3 w26 w.heap.size (fun _ => True) (.slice Ao21 x6_1.length co21) x6_1) := ⟨h1_⟩
              have n2_ : Aside0 (w26.heap[gb160]? = some (.cells #[.int .i64 a0_0, .slice A0_1 l0_1.length c0_1] 24 (0, 0))) := ⟨h2_⟩
              have n3_ : Aside0 (w26.heap[gb161]? = some (.cells #[.int .i64 0, .slice none 0 0] 24 (0, 0))) := ⟨h3_⟩
              have n4_ : Aside0 (w26.heap[gb162]? = some (.cells #[.int .i64 0, .slice none 0 0] 24 (0, 0))) := ⟨h4_⟩
              have n5_ : Aside0 (w26.heap[gb172]? = some (.cells #[.int .i64 0, .slice none 0 0] 24 (0, 0))) := ⟨h5_⟩
              have n6_ : Aside0 (w.heap.size ≤ gb172) := ⟨h6_⟩
              have n7_ : Aside0 (w.heap.size ≤ gb172) := ⟨h7_⟩
              have n8_ : Aside0 (gb160 ≠ gb172) := ⟨h8_⟩
              have n9_ : Aside0 (gb172 ≠ gb160) := ⟨h9_⟩
              have n10_ : Aside0 (gb161 ≠ gb172) := ⟨h10_⟩
              have n11_ : Aside0 (gb172 ≠ gb161) := ⟨h11_⟩
              have n12_ : Aside0 (gb162 ≠ gb172) := ⟨h12_⟩
              have n13_ : Aside0 (gb172 ≠ gb162) := ⟨h13_⟩
              have n14_ : Aside0 (Below w.heap.size w w26) := ⟨h14_⟩
              clear HO_6
              clear BK160
              clear BK161
              clear BK162
              clear HB
              clear h0_ h1_ h2_ h3_ h4_ h5_ h6_ h7_ h8_ h9_ h10_ h11_ h12_ h13_ h14_
              have HO171 := n0_
              have HO_6 := n1_
              have BK160 := n2_
              have BK161 := n3_
              have BK162 := n4_
              have BK172 := n5_
              have GW172 := n6_
              have GE172 := n7_
              have NB160_172 := n8_
              have NB172_160 := n9_
              have NB161_172 := n10_
              have NB172_161 := n11_
              have NB162_172 := n12_
              have NB172_162 := n13_
              have HB := n14_
              clear n0_ n1_ n2_ n3_ n4_ n5_ n6_ n7_ n8_ n9_ n10_ n11_ n12_ n13_ n14_
              have hHeld : w26.cell? ⟨gb160, 0, none⟩ = some (.int .i64 a0_0) ∧ w26.cell? ⟨gb160, 1, none⟩ = some (.slice A0_1 l0_1.length c0_1) := hS_
              obtain ⟨Ao27, co27, eo27⟩ := Kd.R_slice HO171.out
              (first | subst eo27 | (injection eo27 with f1_ f2_ f3_; have f4_ := f1_.symm; have f5_ := f3_.symm; clear f1_ f2_ f3_; subst f4_; subst f5_))
              refine norm_ (a' := ?_) ?_ ?_
              rotate_left
              · simp only [putAll, Act.put, List.setIfInBounds_toArray, List.set_cons_zero, List.set_cons_succ]
                rfl
              refine one_ (i := 8) (N := none) #[true, true, true, true, true, true, true, true, true] rfl rfl (one_of HT_.out (by kernel_rfl)) (by decide) (fun K hK => ?_)
              have hs28 : w26.cell? ⟨gb172, 0, none⟩ = some (.int .i64 0) := (blk_cell BK172.out 0).trans rfl
              have hfs28 := blk_frozen BK172.out 0
              have hns28_0 := NB160_172.out
              have hns28_1 := NB161_172.out
              have hns28_2 := NB162_172.out
              have hms28_0 := NB172_160.out
              have hms28_1 := NB172_161.out
              have hms28_2 := NB172_162.out
              have hs29 : w26.cell? ⟨gb172, 1, none⟩ = some (.slice none 0 0) := (blk_cell BK172.out 1).trans rfl
              have hfs29 := blk_frozen BK172.out 1
              have hns29_0 := NB160_172.out
              have hns29_1 := NB161_172.out
              have hns29_2 := NB162_172.out
              have hms29_0 := NB172_160.out
              have hms29_1 := NB172_161.out
              have hms29_2 := NB172_162.out
              refine skip_ (w1 := ?_) (by rfl) rfl ?_ ?_
              rotate_left
              · go_simp
                rfl
              refine hK.out _ _ ⟨((cell_far (p := ⟨gb172, _, none⟩) NB160_172.out _).trans (((cell_far (p := ⟨gb172, _, none⟩) NB160_172.out _).trans (hHeld.1)))), ((cell_far (p := ⟨gb172, _, none⟩) NB160_172.out _).trans (((cell_far (p := ⟨gb172, _, none⟩) NB160_172.out _).trans (hHeld.2))))⟩ (fun hHeld => ?_)
              clear hK K
              refine done_ (done_of HT_.out (by kernel_rfl)) ?_
              try go_wp2
              have n0_ : Aside0 (Kd.R (Kd.int .i64) 3 ((w26.setCell ⟨gb172, 0, none⟩ (.int .i64 a0_0)).setCell ⟨gb172, 1, none⟩ (.slice Ao27 t169.length co27)) w.heap.size (fun _ => True) (.slice Ao21 x6_1.length co21) x6_1) := ⟨by (with_reducible repeat (first | apply Kd.R_alloc | apply Kd.R_drewN | apply Kd.R_drew)); exact Kd.R_mono (Kd.R_far (p := ⟨gb172, 1, none⟩) (Kd.R_far (p := ⟨gb172, 0, none⟩) (Kd.R_types HO_6.out BK172.out (by decide)) (fun _ hk => hk.2) (.int .i64 a0_0)) (fun _ hk => hk.2) (.slice Ao27 t169.length co27)) (fun _ hk => trivial)⟩
              have n1_ : Aside0 (Kd.R k48 48 ((w26.setCell ⟨gb172, 0, none⟩ (.int .i64 a0_0)).setCell ⟨gb172, 1, none⟩ (.slice Ao27 t169.length co27)) w.heap.size (fun _ => True) (.slice Ao27 t169.length co27) t169) := ⟨by (with_reducible repeat (first | apply Kd.R_alloc | apply Kd.R_drewN | apply Kd.R_drew)); exact Kd.R_mono (Kd.R_far (p := ⟨gb172, 1, none⟩) (Kd.R_far (p := ⟨gb172, 0, none⟩) (Kd.R_types HO171.out BK172.out (by decide)) (fun _ hk => hk.2) (.int .i64 a0_0)) (fun _ hk => hk.2) (.slice Ao27 t169.length co27)) (fun _ hk => trivial)⟩
              have n2_ : Aside0 (((w26.setCell ⟨gb172, 0, none⟩ (.int .i64 a0_0)).setCell ⟨gb172, 1, none⟩ (.slice Ao27 t169.length co27)).heap[gb160]? = some (.cells #[.int .i64 a0_0, .slice A0_1 l0_1.length c0_1] 24 (0, 0))) := ⟨by (with_reducible repeat (first | refine blk_drewN ?_ _ | refine blk_drew ?_ | refine blk_alloc ?_ _)); refine blk_far ?_ NB160_172.out _; (with_reducible repeat (first | refine blk_drewN ?_ _ | refine blk_drew ?_ | refine blk_alloc ?_ _)); refine blk_far ?_ NB160_172.out _; (with_reducible repeat (first | refine blk_drewN ?_ _ | refine blk_drew ?_ | refine blk_alloc ?_ _)); exact BK160.out⟩
              have n3_ : Aside0 (((w26.setCell ⟨gb172, 0, none⟩ (.int .i64 a0_0)).setCell ⟨gb172, 1, none⟩ (.slice Ao27 t169.length co27)).heap[gb161]? = some (.cells #[.int .i64 0, .slice none 0 0] 24 (0, 0))) := ⟨by (with_reducible repeat (first | refine blk_drewN ?_ _ | refine blk_drew ?_ | refine blk_alloc ?_ _)); refine blk_far ?_ NB161_172.out _; (with_reducible repeat (first | refine blk_drewN ?_ _ | refine blk_drew ?_ | refine blk_alloc ?_ _)); refine blk_far ?_ NB161_172.out _; (with_reducible repeat (first | refine blk_drewN ?_ _ | refine blk_drew ?_ | refine blk_alloc ?_ _)); exact BK161.out⟩
              have n4_ : Aside0 (((w26.setCell ⟨gb172, 0, none⟩ (.int .i64 a0_0)).setCell ⟨gb172, 1, none⟩ (.slice Ao27 t169.length co27)).heap[gb162]? = some (.cells #[.int .i64 0, .slice none 0 0] 24 (0, 0))) := ⟨by (with_reducible repeat (first | refine blk_drewN ?_ _ | refine blk_drew ?_ | refine blk_alloc ?_ _)); refine blk_far ?_ NB162_172.out _; (with_reducible repeat (first | refine blk_drewN ?_ _ | refine blk_drew ?_ | refine blk_alloc ?_ _)); refine blk_far ?_ NB162_172.out _; (with_reducible repeat (first | refine blk_drewN ?_ _ | refine blk_drew ?_ | refine blk_alloc ?_ _)); exact BK162.out⟩
              have n5_ : Aside0 (((w26.setCell ⟨gb172, 0, none⟩ (.int .i64 a0_0)).setCell ⟨gb172, 1, none⟩ (.slice Ao27 t169.length co27)).heap[gb172]? = some (.cells #[.int .i64 a0_0, .slice Ao27 t169.length co27] 24 (0, 0))) := ⟨by (with_reducible repeat (first | refine blk_drewN ?_ _ | refine blk_drew ?_ | refine blk_alloc ?_ _)); refine blk_put (cs := #[.int .i64 a0_0, .slice none 0 0]) ?_ 1 _ rfl; (with_reducible repeat (first | refine blk_drewN ?_ _ | refine blk_drew ?_ | refine blk_alloc ?_ _)); refine blk_put (cs := #[.int .i64 0, .slice none 0 0]) ?_ 0 _ rfl; (with_reducible repeat (first | refine blk_drewN ?_ _ | refine blk_drew ?_ | refine blk_alloc ?_ _)); exact BK172.out⟩
              have n6_ : Aside0 (Below w.heap.size w ((w26.setCell ⟨gb172, 0, none⟩ (.int .i64 a0_0)).setCell ⟨gb172, 1, none⟩ (.slice Ao27 t169.length co27))) := ⟨by repeat (first | (with_reducible first | exact HB.out | apply below_alloc | apply pw_below_drewN | apply below_drew1 | refine below_set ?_ GE160.out | refine below_set ?_ GE161.out | refine below_set ?_ GE162.out | refine below_set ?_ GE172.out) | exact HB.out)⟩
              (try clear HO_6)
              (try clear HO171)
              (try clear BK160)
              (try clear BK161)
              (try clear BK162)
              (try clear BK172)
              (try clear HB)
              generalize ((w26.setCell ⟨gb172, 0, none⟩ (.int .i64 a0_0)).setCell ⟨gb172, 1, none⟩ (.slice Ao27 t169.length co27)) = w30 at n0_ n1_ n2_ n3_ n4_ n5_ n6_ ⊢
              have HO_6 := n0_
              have HO171 := n1_
              have BK160 := n2_
              have BK161 := n3_
              have BK162 := n4_
              have BK172 := n5_
              have HB := n6_
              clear n0_ n1_ n2_ n3_ n4_ n5_ n6_
              have n0_ := asd (Kd.R_drew HO_6.out)
              have n1_ := asd (Kd.R_drew HO171.out)
              have n2_ := asd (blk_drew BK160.out)
              have n3_ := asd (blk_drew BK161.out)
              have n4_ := asd (blk_drew BK162.out)
              have n5_ := asd (blk_drew BK172.out)
              have n6_ := asd (below_drew1 HB.out)
              clear HO_6
              clear HO171
              clear BK160
              clear BK161
              clear BK162
              clear BK172
              clear HB
              have HO_6 := n0_
              have HO171 := n1_
              have BK160 := n2_
              have BK161 := n3_
              have BK162 := n4_
              have BK172 := n5_
              have HB := n6_
              clear n0_ n1_ n2_ n3_ n4_ n5_ n6_
              have p173 : 0 ≤ (t167 : Int) := of_decide_eq_true (by first | (with_reducible assumption) | assumption)
              have q173 : t167 < (l0_1.length : Int) := of_decide_eq_true (by first | (with_reducible assumption) | assumption)
              obtain ⟨ad173, e173, hx173_0, hx173_1⟩ := at_T48 HR0_1.out t167 p173 q173
              have hw173_1 := hx173_1
              have hw173_0 := hx173_0
              cases e173
              replace hx173_0 := (HB.out.cell (World.block_lt_of_cell? w _ hx173_0)).trans hx173_0
              replace hx173_1 := (HB.out.cell (World.block_lt_of_cell? w _ hx173_1)).trans hx173_1
              replace p173 := eq_true p173
              replace q173 := eq_true q173
              refine start_ (n := 17) (S := fun w' => w'.cell? ⟨gb160, 0, none⟩ = some (.int .i64 a0_0) ∧ w'.cell? ⟨gb160, 1, none⟩ = some (.slice (some ad173) l0_1.length c0_1) ∧ w'.cell? (ad173.add ((t167).toNat * 2)) = some (.string ((rd_T48 l0_1 t167).f0)) ∧ w'.cell? ⟨(ad173.add ((t167).toNat * 2)).block, (ad173.add ((t167).toNat * 2)).off + 1, none⟩ = some (.int .i64 ((rd_T48 l0_1 t167).f1))) (ds := []) #[false, false, false, false, false, false, false, false, false, false, false, false, false, false, false, false, false] (by kernel_rfl) rfl rfl ⟨(blk_cell BK160.out 0).trans rfl, (blk_cell BK160.out 1).trans rfl, ((HB.out.cell (World.block_lt_of_cell? w _ hw173_0)).trans hw173_0), ((HB.out.cell (World.block_lt_of_cell? w _ hw173_1)).trans hw173_1)⟩ (fun hHeld => ?_); refine with_tabW copseref8_Cut.tab10 copseref8_Cut.bits10 (fun HT_ HW_ => ?_)
              generalize w30.drew = w31 at HO_6 HO171 BK160 BK161 BK162 BK172 HB hx173_0 hx173_1 hHeld ⊢
              refine pure_ (i := 0) (N := some 47) (v := ?_) (a' := ?_) #[true, false, false, false, false, false, false, false, false, false, false, false, false, false, false, false, false] rfl rfl (any_of HT_.out (by kernel_rfl)) (fun _ _ _ h => h) (Or.inl ⟨by rfl, ?_⟩) ?_ ?_
              rotate_left
              · intro w'
                go_simp
                with_reducible rfl
              rotate_left
              · simp only [Act.put, List.setIfInBounds_toArray, List.set_cons_zero, List.set_cons_succ, i64_w, i32_w]
                rfl
              refine pure_ (i := 2) (N := some 49) (v := ?_) (a' := ?_) #[true, false, true, false, false, false, false, false, false, false, false, false, false, false, false, false, false] rfl rfl (any_of HT_.out (by kernel_rfl)) (fun _ _ _ h => h) (Or.inl ⟨by rfl, ?_⟩) ?_ ?_
              rotate_left
              · intro w'
                go_simp
                with_reducible rfl
              rotate_left
              · simp only [Act.put, List.setIfInBounds_toArray, List.set_cons_zero, List.set_cons_succ, i64_w, i32_w]
                rfl
              refine pure_ (i := 6) (N := some 53) (v := ?_) (a' := ?_) #[true, false, true, false, false, false, true, false, false, false, false, false, false, false, false, false, false] rfl rfl (any_of HT_.out (by kernel_rfl)) (fun _ _ _ h => h) (Or.inl ⟨by rfl, ?_⟩) ?_ ?_
              rotate_left
              · intro w'
                go_simp
                with_reducible rfl
              rotate_left
              · simp only [Act.put, List.setIfInBounds_toArray, List.set_cons_zero, List.set_cons_succ, i64_w, i32_w]
                rfl
              refine pure_ (i := 8) (N := some 55) (v := ?_) (a' := ?_) #[true, false, true, false, false, false, true, false, true, false, false, false, false, false, false, false, false] rfl rfl (any_of HT_.out (by kernel_rfl)) (fun _ _ _ h => h) (Or.inl ⟨by rfl, ?_⟩) ?_ ?_
              rotate_left
              · intro w'
                go_simp
                with_reducible rfl
              rotate_left
              · simp only [Act.put, List.setIfInBounds_toArray, List.set_cons_zero, List.set_cons_succ, i64_w, i32_w]
                rfl
              refine pure_ (i := 9) (N := some 56) (v := ?_) (a' := ?_) #[true, false, true, false, false, false, true, false, true, true, false, false, false, false, false, false, false] rfl rfl (any_of HT_.out (by kernel_rfl)) (fun _ _ _ h => h) (Or.inl ⟨by rfl, ?_⟩) ?_ ?_
              rotate_left
              · intro w'
                go_simp
                with_reducible rfl
              rotate_left
              · simp only [Act.put, List.setIfInBounds_toArray, List.set_cons_zero, List.set_cons_succ, i64_w, i32_w]
                rfl
              refine pure_ (i := 10) (N := some 57) (v := ?_) (a' := ?_) #[true, false, true, false, false, false, true, false, true, true, true, false, false, false, false, false, false] rfl rfl (any_of HT_.out (by kernel_rfl)) (fun _ _ _ h => h) (Or.inl ⟨by rfl, ?_⟩) ?_ ?_
              rotate_left
              · intro w'
                go_simp
                with_reducible rfl
              rotate_left
              · simp only [Act.put, List.setIfInBounds_toArray, List.set_cons_zero, List.set_cons_succ, i64_w, i32_w]
                rfl
              refine take_ (i := 1) (N := some 48) (v := ?_) (a' := ?_) #[true, true, true, false, false, false, true, false, true, true, true, false, false, false, false, false, false] rfl rfl (take_ofW HT_.out HW_.out (by kernel_rfl)) (fun _ _ _ h => h) (Or.inl ⟨by rfl, ?_⟩) hHeld ?_ ?_
              rotate_left
              · rintro w' ⟨s0, s1, s2, s3⟩
                go_simp
                with_reducible rfl
              rotate_left
              · simp only [Act.put, List.setIfInBounds_toArray, List.set_cons_zero, List.set_cons_succ, i64_w, i32_w]
                rfl
              refine pure_ (i := 3) (N := some 50) (v := ?_) (a' := ?_) #[true, true, true, true, false, false, true, false, true, true, true, false, false, false, false, false, false] rfl rfl (any_of HT_.out (by kernel_rfl)) (fun _ _ _ h => h) (Or.inl ⟨by rfl, ?_⟩) ?_ ?_
              rotate_left
              · intro w'
                go_simp
                with_reducible rfl
              rotate_left
              · simp only [Act.put, List.setIfInBounds_toArray, List.set_cons_zero, List.set_cons_succ, i64_w, i32_w]
                rfl
              refine pure_ (i := 4) (N := some 51) (v := ?_) (a' := ?_) #[true, true, true, true, true, false, true, false, true, true, true, false, false, false, false, false, false] rfl rfl (any_of HT_.out (by kernel_rfl)) (fun _ _ _ h => h) (Or.inl ⟨by rfl, ?_⟩) ?_ ?_
              rotate_left
              · intro w'
                go_simp
                with_reducible rfl
              rotate_left
              · simp only [Act.put, List.setIfInBounds_toArray, List.set_cons_zero, List.set_cons_succ, i64_w, i32_w]
                rfl
              refine take_ (i := 5) (N := some 52) (v := ?_) (a' := ?_) #[true, true, true, true, true, true, true, false, true, true, true, false, false, false, false, false, false] rfl rfl (take_ofW HT_.out HW_.out (by kernel_rfl)) (fun _ _ _ h => h) (Or.inl ⟨by rfl, ?_⟩) hHeld ?_ ?_
              rotate_left
              · rintro w' ⟨s0, s1, s2, s3⟩
                go_simp
                with_reducible rfl
              rotate_left
              · simp only [Act.put, List.setIfInBounds_toArray, List.set_cons_zero, List.set_cons_succ, i64_w, i32_w]
                rfl
              refine take_ (i := 7) (N := some 54) (v := ?_) (a' := ?_) #[true, true, true, true, true, true, true, true, true, true, true, false, false, false, false, false, false] rfl rfl (take_ofW HT_.out HW_.out (by kernel_rfl)) (fun _ _ _ h => h) (Or.inl ⟨by rfl, ?_⟩) hHeld ?_ ?_
              rotate_left
              · rintro w' ⟨s0, s1, s2, s3⟩
                go_simp
                with_reducible rfl
              rotate_left
              · simp only [Act.put, List.setIfInBounds_toArray, List.set_cons_zero, List.set_cons_succ, i64_w, i32_w]
                rfl
              refine take_ (i := 11) (N := some 58) (v := ?_) (a' := ?_) #[true, true, true, true, true, true, true, true, true, true, true, true, false, false, false, false, false] rfl rfl (take_ofW HT_.out HW_.out (by kernel_rfl)) (fun _ _ _ h => h) (Or.inl ⟨by rfl, ?_⟩) hHeld ?_ ?_
              rotate_left
              · rintro w' ⟨s0, s1, s2, s3⟩
                go_simp
                with_reducible rfl
              rotate_left
              · simp only [Act.put, List.setIfInBounds_toArray, List.set_cons_zero, List.set_cons_succ, i64_w, i32_w]
                rfl
              refine pure_ (i := 12) (N := some 59) (v := ?_) (a' := ?_) #[true, true, true, true, true, true, true, true, true, true, true, true, true, false, false, false, false] rfl rfl (any_of HT_.out (by kernel_rfl)) (fun _ _ _ h => h) (Or.inl ⟨by rfl, ?_⟩) ?_ ?_
              rotate_left
              · intro w'
                go_simp
                with_reducible rfl
              rotate_left
              · simp only [Act.put, List.setIfInBounds_toArray, List.set_cons_zero, List.set_cons_succ, i64_w, i32_w]
                rfl
              refine join_ (σ := Value × Nat) 1 #[true, true, true, true, true, true, true, true, true, true, true, true, true, true, true, true, false] (fun s_ => [(60, s_.1), (11, .pointer (some ⟨s_.2, 0, none⟩)), (61, .agg #[.int .i64 ((rd_T48 l0_1 t167).f1), s_.1])]) (fun s_ w' => (w'.cell? ⟨gb160, 0, none⟩ = some (.int .i64 a0_0) ∧ w'.cell? ⟨gb160, 1, none⟩ = some (.slice (some ad173) l0_1.length c0_1) ∧ w'.cell? (ad173.add ((t167).toNat * 2)) = some (.string ((rd_T48 l0_1 t167).f0)) ∧ w'.cell? ⟨(ad173.add ((t167).toNat * 2)).block, (ad173.add ((t167).toNat * 2)).off + 1, none⟩ = some (.int .i64 ((rd_T48 l0_1 t167).f1))) ∧ (Kd.R k48 48 w' w.heap.size (fun k_ => some k_ ≠ (s_.1 : Value).ownBlock) (.slice Ao27 t169.length co27) t169) ∧ (Kd.R k48 48 w' w.heap.size (fun k_ => some k_ ≠ (.slice Ao27 t169.length co27 : Value).ownBlock) s_.1 t174) ∧ (Kd.R (Kd.int .i64) 3 w' w.heap.size (fun _ => True) (.slice Ao21 x6_1.length co21) x6_1) ∧ (w'.heap[gb160]? = some (.cells #[.int .i64 a0_0, .slice (some ad173) l0_1.length c0_1] 24 (0, 0))) ∧ (w'.heap[gb161]? = some (.cells #[.int .i64 0, .slice none 0 0] 24 (0, 0))) ∧ (w'.heap[gb162]? = some (.cells #[.int .i64 0, .slice none 0 0] 24 (0, 0))) ∧ (w'.heap[gb172]? = some (.cells #[.int .i64 a0_0, .slice Ao27 t169.length co27] 24 (0, 0))) ∧ (w'.heap[s_.2]? = some (.cells #[.int .i64 0, .slice none 0 0] 24 (0, 0))) ∧ (w.heap.size ≤ s_.2) ∧ (w.heap.size ≤ s_.2) ∧ (gb160 ≠ s_.2) ∧ (s_.2 ≠ gb160) ∧ (gb161 ≠ s_.2) ∧ (s_.2 ≠ gb161) ∧ (gb162 ≠ s_.2) ∧ (s_.2 ≠ gb162) ∧ (gb172 ≠ s_.2) ∧ (s_.2 ≠ gb172) ∧ (Below w.heap.size w w')) ?_ ?_
              rotate_left
              · intro hCont
                refine two_ (i := 13) (j := 15) (Ni := some 60) (Nj := some 11) #[true, true, true, true, true, true, true, true, true, true, true, true, true, true, false, false, false] #[true, true, true, true, true, true, true, true, true, true, true, true, true, false, false, true, false] rfl rfl rfl rfl (two_of HT_.out (by kernel_rfl)) (by decide) (by decide) (fun K hK => ?_) (fun K hK => ?_)
                · skip
                  refine goes_ Tryd.func55 (by kernel_rfl) rfl #[.slice (some ad173) l0_1.length c0_1, .int .i64 (wrap64 (t167 + 1)), .int .i64 (l0_1.length : Int)] (by rfl) rfl rfl (by (try simp only [List.map_toArray, List.map_cons, List.map_nil]); first | done | rfl | (simp only [List.length_drop, List.length_take]; rfl)) ?_
                  with_reducible refine (copseref8_some.calls k1 _ _ l0_1 (wrap64 (t167 + 1)) (l0_1.length : Int) t174 _ ?side1 ?side2 A17.out).mono ?_
                  (case side1 => repeat (first | exact (Kd.C_below HR0_1.out HB.out) | (with_reducible refine Kd.C_alloc ?_ _) | (with_reducible refine Kd.C_drewN ?_ _) | (with_reducible refine Kd.C_drew ?_)))
                  (case side2 => exact HC0_1.out)
                  rintro e w32 ⟨v175, rfl, ho0, hb⟩
                  refine ⟨_, rfl, ?_⟩
                  have n0_ := asd (Kd.R_below HO_6.out hb)
                  have n1_ := asd (Kd.R_elder' HO171.out (Kd.R_base ho0) hb)
                  have n2_ := asd (Kd.R_lower (Kd.R_new' ho0 (Kd.R_lt HO171.out)) (below_size (by repeat (first | (with_reducible first | exact HB.out | apply below_alloc | apply pw_below_drewN | apply below_drew1 | refine below_set ?_ GE160.out | refine below_set ?_ GE161.out | refine below_set ?_ GE162.out | refine below_set ?_ GE172.out) | exact HB.out))))
                  have n3_ := asd (blk_below (g := gb160) (o := .cells #[.int .i64 a0_0, .slice (some ad173) l0_1.length c0_1] 24 (0, 0)) BK160.out hb)
                  have n4_ := asd (blk_below (g := gb161) (o := .cells #[.int .i64 0, .slice none 0 0] 24 (0, 0)) BK161.out hb)
                  have n5_ := asd (blk_below (g := gb162) (o := .cells #[.int .i64 0, .slice none 0 0] 24 (0, 0)) BK162.out hb)
                  have n6_ := asd (blk_below (g := gb172) (o := .cells #[.int .i64 a0_0, .slice Ao27 t169.length co27] 24 (0, 0)) BK172.out hb)
                  have n7_ := asd (below_step (by repeat (first | (with_reducible first | exact HB.out | apply below_alloc | apply pw_below_drewN | apply below_drew1 | refine below_set ?_ GE160.out | refine below_set ?_ GE161.out | refine below_set ?_ GE162.out | refine below_set ?_ GE172.out) | exact HB.out)) hb)
                  clear HO_6
                  clear HO171
                  clear BK160
                  clear BK161
                  clear BK162
                  clear BK172
                  clear HB
                  have HO_6 := n0_
                  have HO171 := n1_
                  have HO176 := n2_
                  have BK160 := n3_
                  have BK161 := n4_
                  have BK162 := n5_
                  have BK172 := n6_
                  have HB := n7_
                  clear n0_ n1_ n2_ n3_ n4_ n5_ n6_ n7_
                  (try clear hb)
                  (try clear hb2)
                  (try clear hk)
                  (try clear hi)
                  (try clear ho0)
                  obtain ⟨Ao33, co33, eo33⟩ := Kd.R_slice HO176.out
                  (first | subst eo33 | (injection eo33 with f1_ f2_ f3_; have f4_ := f1_.symm; have f5_ := f3_.symm; clear f1_ f2_ f3_; subst f4_; subst f5_))
                  refine hK.out _ _ ⟨(blk_cell BK160.out 0).trans rfl, (blk_cell BK160.out 1).trans rfl, ((HB.out.cell (World.block_lt_of_cell? w _ hw173_0)).trans hw173_0), ((HB.out.cell (World.block_lt_of_cell? w _ hw173_1)).trans hw173_1)⟩ (fun hHeld => ?_)
                  clear hK K
                  refine norm_ (a' := ?_) ?_ ?_
                  rotate_left
                  · show Act.put _ (some 60) _ = _
                    simp only [Act.put, List.setIfInBounds_toArray, List.set_cons_zero, List.set_cons_succ, i64_w, i32_w]
                    rfl
                  refine pure_ (i := 14) (N := some 61) (v := ?_) (a' := ?_) #[true, true, true, true, true, true, true, true, true, true, true, true, true, true, true, false, false] rfl rfl (any_of HT_.out (by kernel_rfl)) (fun _ _ _ h => h) (Or.inl ⟨by rfl, ?_⟩) ?_ ?_
                  rotate_left
                  · intro w'
                    go_simp
                    with_reducible rfl
                  rotate_left
                  · simp only [Act.put, List.setIfInBounds_toArray, List.set_cons_zero, List.set_cons_succ, i64_w, i32_w]
                    rfl
                  refine one_ (i := 15) (N := some 11) #[true, true, true, true, true, true, true, true, true, true, true, true, true, true, true, true, false] rfl rfl (one_of HT_.out (by kernel_rfl)) (by decide) (fun K hK => ?_)
                  refine box_step ?hg (N := 11) ?hd (cs := #[.int .i64 0, .slice none 0 0]) (t := 24) ?hr ?_; (case hd => rfl); (case hg => rfl); (case hr => first | (go_simp; done) | (go_simp; rfl))
                  intro gb177 hg w34 hbox hb
                  have n0_ := asd (Kd.R_below HO_6.out hb)
                  have n1_ := asd (Kd.R_below HO171.out hb)
                  have n2_ := asd (Kd.R_below HO176.out hb)
                  have n3_ := asd (blk_below (g := gb160) (o := .cells #[.int .i64 a0_0, .slice (some ad173) l0_1.length c0_1] 24 (0, 0)) BK160.out hb)
                  have n4_ := asd (blk_below (g := gb161) (o := .cells #[.int .i64 0, .slice none 0 0] 24 (0, 0)) BK161.out hb)
                  have n5_ := asd (blk_below (g := gb162) (o := .cells #[.int .i64 0, .slice none 0 0] 24 (0, 0)) BK162.out hb)
                  have n6_ := asd (blk_below (g := gb172) (o := .cells #[.int .i64 a0_0, .slice Ao27 t169.length co27] 24 (0, 0)) BK172.out hb)
                  have n7_ := asd (below_step (by repeat (first | (with_reducible first | exact HB.out | apply below_alloc | apply pw_below_drewN | apply below_drew1 | refine below_set ?_ GE160.out | refine below_set ?_ GE161.out | refine below_set ?_ GE162.out | refine below_set ?_ GE172.out) | exact HB.out)) hb)
                  have n8_ := asd (hbox)
                  have n9_ := asd ((by rw [hg]; exact (below_size (by repeat (first | (with_reducible first | exact HB.out | apply below_alloc | apply pw_below_drewN | apply below_drew1 | refine below_set ?_ GE160.out | refine below_set ?_ GE161.out | refine below_set ?_ GE162.out | refine below_set ?_ GE172.out) | exact HB.out))) : w.heap.size ≤ gb177))
                  have n10_ := asd ((by rw [hg]; exact (below_size (by repeat (first | (with_reducible first | exact HB.out | apply below_alloc | apply pw_below_drewN | apply below_drew1 | refine below_set ?_ GE160.out | refine below_set ?_ GE161.out | refine below_set ?_ GE162.out | refine below_set ?_ GE172.out) | exact HB.out))) : w.heap.size ≤ gb177))
                  have n11_ := asd ((by rw [hg]; exact Nat.ne_of_lt (blk_lt (g := gb160) (o := .cells #[.int .i64 a0_0, .slice (some ad173) l0_1.length c0_1] 24 (0, 0)) BK160.out) : gb160 ≠ gb177))
                  have n12_ := asd ((by rw [hg]; exact Nat.ne_of_gt (blk_lt (g := gb160) (o := .cells #[.int .i64 a0_0, .slice (some ad173) l0_1.length c0_1] 24 (0, 0)) BK160.out) : gb177 ≠ gb160))
                  have n13_ := asd ((by rw [hg]; exact Nat.ne_of_lt (blk_lt (g := gb161) (o := .cells #[.int .i64 0, .slice none 0 0] 24 (0, 0)) BK161.out) : gb161 ≠ gb177))
                  have n14_ := asd ((by rw [hg]; exact Nat.ne_of_gt (blk_lt (g := gb161) (o := .cells #[.int .i64 0, .slice none 0 0] 24 (0, 0)) BK161.out) : gb177 ≠ gb161))
                  have n15_ := asd ((by rw [hg]; exact Nat.ne_of_lt (blk_lt (g := gb162) (o := .cells #[.int .i64 0, .slice none 0 0] 24 (0, 0)) BK162.out) : gb162 ≠ gb177))
                  have n16_ := asd ((by rw [hg]; exact Nat.ne_of_gt (blk_lt (g := gb162) (o := .cells #[.int .i64 0, .slice none 0 0] 24 (0, 0)) BK162.out) : gb177 ≠ gb162))
                  have n17_ := asd ((by rw [hg]; exact Nat.ne_of_lt (blk_lt (g := gb172) (o := .cells #[.int .i64 a0_0, .slice Ao27 t169.length co27] 24 (0, 0)) BK172.out) : gb172 ≠ gb177))
                  have n18_ := asd ((by rw [hg]; exact Nat.ne_of_gt (blk_lt (g := gb172) (o := .cells #[.int .i64 a0_0, .slice Ao27 t169.length co27] 24 (0, 0)) BK172.out) : gb177 ≠ gb172))
                  clear HO_6
                  clear HO171
                  clear HO176
                  clear BK160
                  clear BK161
                  clear BK162
                  clear BK172
                  clear HB
                  have HO_6 := n0_
                  have HO171 := n1_
                  have HO176 := n2_
                  have BK160 := n3_
                  have BK161 := n4_
                  have BK162 := n5_
                  have BK172 := n6_
                  have HB := n7_
                  have BK177 := n8_
                  have GW177 := n9_
                  have GE177 := n10_
                  have NB160_177 := n11_
                  have NB177_160 := n12_
                  have NB161_177 := n13_
                  have NB177_161 := n14_
                  have NB162_177 := n15_
                  have NB177_162 := n16_
                  have NB172_177 := n17_
                  have NB177_172 := n18_
                  clear n0_ n1_ n2_ n3_ n4_ n5_ n6_ n7_ n8_ n9_ n10_ n11_ n12_ n13_ n14_ n15_ n16_ n17_ n18_
                  clear hb hbox hg
                  refine hK.out _ _ ⟨(blk_cell BK160.out 0).trans rfl, (blk_cell BK160.out 1).trans rfl, ((HB.out.cell (World.block_lt_of_cell? w _ hw173_0)).trans hw173_0), ((HB.out.cell (World.block_lt_of_cell? w _ hw173_1)).trans hw173_1)⟩ (fun hHeld => ?_)
                  clear hK K
                  refine norm_ (a' := ?_) ?_ ?_
                  rotate_left
                  · show Act.put _ (some 11) _ = _
                    simp only [Act.put, List.setIfInBounds_toArray, List.set_cons_zero, List.set_cons_succ, i64_w, i32_w]
                    rfl
                  exact norm_ (by simp only [putAll, Act.put, List.setIfInBounds_toArray, List.set_cons_zero, List.set_cons_succ]) (hCont (.slice Ao33 t174.length co33, gb177) _ ⟨hHeld, (by (with_reducible repeat (first | apply Kd.R_alloc | apply Kd.R_drewN | apply Kd.R_drew)); exact Kd.R_mono HO171.out (fun _ hk => hk.2)), (by (with_reducible repeat (first | apply Kd.R_alloc | apply Kd.R_drewN | apply Kd.R_drew)); exact Kd.R_mono HO176.out (fun _ hk => hk.2)), HO_6.out, BK160.out, BK161.out, BK162.out, BK172.out, BK177.out, GW177.out, GE177.out, NB160_177.out, NB177_160.out, NB161_177.out, NB177_161.out, NB162_177.out, NB177_162.out, NB172_177.out, NB177_172.out, (by repeat (first | (with_reducible first | exact HB.out | apply below_alloc | apply pw_below_drewN | apply below_drew1 | refine below_set ?_ GE160.out | refine below_set ?_ GE161.out | refine below_set ?_ GE162.out | refine below_set ?_ GE172.out | refine below_set ?_ GE177.out) | exact HB.out))⟩)
                · skip
                  refine box_step ?hg (N := 11) ?hd (cs := #[.int .i64 0, .slice none 0 0]) (t := 24) ?hr ?_; (case hd => rfl); (case hg => rfl); (case hr => first | (go_simp; done) | (go_simp; rfl))
                  intro gb177 hg w32 hbox hb
                  have n0_ := asd (Kd.R_below HO_6.out hb)
                  have n1_ := asd (Kd.R_below HO171.out hb)
                  have n2_ := asd (blk_below (g := gb160) (o := .cells #[.int .i64 a0_0, .slice (some ad173) l0_1.length c0_1] 24 (0, 0)) BK160.out hb)
                  have n3_ := asd (blk_below (g := gb161) (o := .cells #[.int .i64 0, .slice none 0 0] 24 (0, 0)) BK161.out hb)
                  have n4_ := asd (blk_below (g := gb162) (o := .cells #[.int .i64 0, .slice none 0 0] 24 (0, 0)) BK162.out hb)
                  have n5_ := asd (blk_below (g := gb172) (o := .cells #[.int .i64 a0_0, .slice Ao27 t169.length co27] 24 (0, 0)) BK172.out hb)
                  have n6_ := asd (below_step (by repeat (first | (with_reducible first | exact HB.out | apply below_alloc | apply pw_below_drewN | apply below_drew1 | refine below_set ?_ GE160.out | refine below_set ?_ GE161.out | refine below_set ?_ GE162.out | refine below_set ?_ GE172.out) | exact HB.out)) hb)
                  have n7_ := asd (hbox)
                  have n8_ := asd ((by rw [hg]; exact (below_size (by repeat (first | (with_reducible first | exact HB.out | apply below_alloc | apply pw_below_drewN | apply below_drew1 | refine below_set ?_ GE160.out | refine below_set ?_ GE161.out | refine below_set ?_ GE162.out | refine below_set ?_ GE172.out) | exact HB.out))) : w.heap.size ≤ gb177))
                  have n9_ := asd ((by rw [hg]; exact (below_size (by repeat (first | (with_reducible first | exact HB.out | apply below_alloc | apply pw_below_drewN | apply below_drew1 | refine below_set ?_ GE160.out | refine below_set ?_ GE161.out | refine below_set ?_ GE162.out | refine below_set ?_ GE172.out) | exact HB.out))) : w.heap.size ≤ gb177))
                  have n10_ := asd ((by rw [hg]; exact Nat.ne_of_lt (blk_lt (g := gb160) (o := .cells #[.int .i64 a0_0, .slice (some ad173) l0_1.length c0_1] 24 (0, 0)) BK160.out) : gb160 ≠ gb177))
                  have n11_ := asd ((by rw [hg]; exact Nat.ne_of_gt (blk_lt (g := gb160) (o := .cells #[.int .i64 a0_0, .slice (some ad173) l0_1.length c0_1] 24 (0, 0)) BK160.out) : gb177 ≠ gb160))
                  have n12_ := asd ((by rw [hg]; exact Nat.ne_of_lt (blk_lt (g := gb161) (o := .cells #[.int .i64 0, .slice none 0 0] 24 (0, 0)) BK161.out) : gb161 ≠ gb177))
                  have n13_ := asd ((by rw [hg]; exact Nat.ne_of_gt (blk_lt (g := gb161) (o := .cells #[.int .i64 0, .slice none 0 0] 24 (0, 0)) BK161.out) : gb177 ≠ gb161))
                  have n14_ := asd ((by rw [hg]; exact Nat.ne_of_lt (blk_lt (g := gb162) (o := .cells #[.int .i64 0, .slice none 0 0] 24 (0, 0)) BK162.out) : gb162 ≠ gb177))
                  have n15_ := asd ((by rw [hg]; exact Nat.ne_of_gt (blk_lt (g := gb162) (o := .cells #[.int .i64 0, .slice none 0 0] 24 (0, 0)) BK162.out) : gb177 ≠ gb162))
                  have n16_ := asd ((by rw [hg]; exact Nat.ne_of_lt (blk_lt (g := gb172) (o := .cells #[.int .i64 a0_0, .slice Ao27 t169.length co27] 24 (0, 0)) BK172.out) : gb172 ≠ gb177))
                  have n17_ := asd ((by rw [hg]; exact Nat.ne_of_gt (blk_lt (g := gb172) (o := .cells #[.int .i64 a0_0, .slice Ao27 t169.length co27] 24 (0, 0)) BK172.out) : gb177 ≠ gb172))
                  clear HO_6
                  clear HO171
                  clear BK160
                  clear BK161
                  clear BK162
                  clear BK172
                  clear HB
                  have HO_6 := n0_
                  have HO171 := n1_
                  have BK160 := n2_
                  have BK161 := n3_
                  have BK162 := n4_
                  have BK172 := n5_
                  have HB := n6_
                  have BK177 := n7_
                  have GW177 := n8_
                  have GE177 := n9_
                  have NB160_177 := n10_
                  have NB177_160 := n11_
                  have NB161_177 := n12_
                  have NB177_161 := n13_
                  have NB162_177 := n14_
                  have NB177_162 := n15_
                  have NB172_177 := n16_
                  have NB177_172 := n17_
                  clear n0_ n1_ n2_ n3_ n4_ n5_ n6_ n7_ n8_ n9_ n10_ n11_ n12_ n13_ n14_ n15_ n16_ n17_
                  clear hb hbox hg
                  refine hK.out _ _ ⟨(blk_cell BK160.out 0).trans rfl, (blk_cell BK160.out 1).trans rfl, ((HB.out.cell (World.block_lt_of_cell? w _ hw173_0)).trans hw173_0), ((HB.out.cell (World.block_lt_of_cell? w _ hw173_1)).trans hw173_1)⟩ (fun hHeld => ?_)
                  clear hK K
                  refine norm_ (a' := ?_) ?_ ?_
                  rotate_left
                  · show Act.put _ (some 11) _ = _
                    simp only [Act.put, List.setIfInBounds_toArray, List.set_cons_zero, List.set_cons_succ, i64_w, i32_w]
                    rfl
                  refine one_ (i := 13) (N := some 60) #[true, true, true, true, true, true, true, true, true, true, true, true, true, true, false, true, false] rfl rfl (one_of HT_.out (by kernel_rfl)) (by decide) (fun K hK => ?_)
                  refine goes_ Tryd.func55 (by kernel_rfl) rfl #[.slice (some ad173) l0_1.length c0_1, .int .i64 (wrap64 (t167 + 1)), .int .i64 (l0_1.length : Int)] (by rfl) rfl rfl (by (try simp only [List.map_toArray, List.map_cons, List.map_nil]); first | done | rfl | (simp only [List.length_drop, List.length_take]; rfl)) ?_
                  with_reducible refine (copseref8_some.calls k1 _ _ l0_1 (wrap64 (t167 + 1)) (l0_1.length : Int) t174 _ ?side1 ?side2 A17.out).mono ?_
                  (case side1 => repeat (first | exact (Kd.C_below HR0_1.out HB.out) | (with_reducible refine Kd.C_alloc ?_ _) | (with_reducible refine Kd.C_drewN ?_ _) | (with_reducible refine Kd.C_drew ?_)))
                  (case side2 => exact HC0_1.out)
                  rintro e w33 ⟨v175, rfl, ho0, hb⟩
                  refine ⟨_, rfl, ?_⟩
                  have n0_ := asd (Kd.R_below HO_6.out hb)
                  have n1_ := asd (Kd.R_elder' HO171.out (Kd.R_base ho0) hb)
                  have n2_ := asd (Kd.R_lower (Kd.R_new' ho0 (Kd.R_lt HO171.out)) (below_size (by repeat (first | (with_reducible first | exact HB.out | apply below_alloc | apply pw_below_drewN | apply below_drew1 | refine below_set ?_ GE160.out | refine below_set ?_ GE161.out | refine below_set ?_ GE162.out | refine below_set ?_ GE172.out | refine below_set ?_ GE177.out) | exact HB.out))))
                  have n3_ := asd (blk_below (g := gb160) (o := .cells #[.int .i64 a0_0, .slice (some ad173) l0_1.length c0_1] 24 (0, 0)) BK160.out hb)
                  have n4_ := asd (blk_below (g := gb161) (o := .cells #[.int .i64 0, .slice none 0 0] 24 (0, 0)) BK161.out hb)
                  have n5_ := asd (blk_below (g := gb162) (o := .cells #[.int .i64 0, .slice none 0 0] 24 (0, 0)) BK162.out hb)
                  have n6_ := asd (blk_below (g := gb172) (o := .cells #[.int .i64 a0_0, .slice Ao27 t169.length co27] 24 (0, 0)) BK172.out hb)
                  have n7_ := asd (blk_below (g := gb177) (o := .cells #[.int .i64 0, .slice none 0 0] 24 (0, 0)) BK177.out hb)
                  have n8_ := asd (below_step (by repeat (first | (with_reducible first | exact HB.out | apply below_alloc | apply pw_below_drewN | apply below_drew1 | refine below_set ?_ GE160.out | refine below_set ?_ GE161.out | refine below_set ?_ GE162.out | refine below_set ?_ GE172.out | refine below_set ?_ GE177.out) | exact HB.out)) hb)
                  clear HO_6
                  clear HO171
                  clear BK160
                  clear BK161
                  clear BK162
                  clear BK172
                  clear BK177
                  clear HB
                  have HO_6 := n0_
                  have HO171 := n1_
                  have HO176 := n2_
                  have BK160 := n3_
                  have BK161 := n4_
                  have BK162 := n5_
                  have BK172 := n6_
                  have BK177 := n7_
                  have HB := n8_
                  clear n0_ n1_ n2_ n3_ n4_ n5_ n6_ n7_ n8_
                  (try clear hb)
                  (try clear hb2)
                  (try clear hk)
                  (try clear hi)
                  (try clear ho0)
                  obtain ⟨Ao34, co34, eo34⟩ := Kd.R_slice HO176.out
                  (first | subst eo34 | (injection eo34 with f1_ f2_ f3_; have f4_ := f1_.symm; have f5_ := f3_.symm; clear f1_ f2_ f3_; subst f4_; subst f5_))
                  refine hK.out _ _ ⟨(blk_cell BK160.out 0).trans rfl, (blk_cell BK160.out 1).trans rfl, ((HB.out.cell (World.block_lt_of_cell? w _ hw173_0)).trans hw173_0), ((HB.out.cell (World.block_lt_of_cell? w _ hw173_1)).trans hw173_1)⟩ (fun hHeld => ?_)
                  clear hK K
                  refine norm_ (a' := ?_) ?_ ?_
                  rotate_left
                  · show Act.put _ (some 60) _ = _
                    simp only [Act.put, List.setIfInBounds_toArray, List.set_cons_zero, List.set_cons_succ, i64_w, i32_w]
                    rfl
                  refine pure_ (i := 14) (N := some 61) (v := ?_) (a' := ?_) #[true, true, true, true, true, true, true, true, true, true, true, true, true, true, true, true, false] rfl rfl (any_of HT_.out (by kernel_rfl)) (fun _ _ _ h => h) (Or.inl ⟨by rfl, ?_⟩) ?_ ?_
                  rotate_left
                  · intro w'
                    go_simp
                    with_reducible rfl
                  rotate_left
                  · simp only [Act.put, List.setIfInBounds_toArray, List.set_cons_zero, List.set_cons_succ, i64_w, i32_w]
                    rfl
                  exact norm_ (by simp only [putAll, Act.put, List.setIfInBounds_toArray, List.set_cons_zero, List.set_cons_succ]) (hCont (.slice Ao34 t174.length co34, gb177) _ ⟨hHeld, (by (with_reducible repeat (first | apply Kd.R_alloc | apply Kd.R_drewN | apply Kd.R_drew)); exact Kd.R_mono HO171.out (fun _ hk => hk.2)), (by (with_reducible repeat (first | apply Kd.R_alloc | apply Kd.R_drewN | apply Kd.R_drew)); exact Kd.R_mono HO176.out (fun _ hk => hk.2)), HO_6.out, BK160.out, BK161.out, BK162.out, BK172.out, BK177.out, GW177.out, GE177.out, NB160_177.out, NB177_160.out, NB161_177.out, NB177_161.out, NB162_177.out, NB177_162.out, NB172_177.out, NB177_172.out, (by repeat (first | (with_reducible first | exact HB.out | apply below_alloc | apply pw_below_drewN | apply below_drew1 | refine below_set ?_ GE160.out | refine below_set ?_ GE161.out | refine below_set ?_ GE162.out | refine below_set ?_ GE172.out | refine below_set ?_ GE177.out) | exact HB.out))⟩)
              rintro ⟨v175, gb177⟩ w35 ⟨hS_, h0_, h1_, h2_, h3_, h4_, h5_, h6_, h7_, h8_, h9_, h10_, h11_, h12_, h13_, h14_, h15_, h16_, h17_, h18_⟩
              have n0_ : Aside0 (Kd.R k48 48 w35 w.heap.size (fun k_ => some k_ ≠ (v175 : Value).ownBlock) (.slice Ao27 t169.length co27) t169) := ⟨h0_⟩
              have n1_ : Aside0 (Kd.R k48 48 w35 w.heap.size (fun k_ => some k_ ≠ (.slice Ao27 t169.length co27 : Value).ownBlock) v175 t174) := ⟨h1_⟩
              have n2_ : Aside0 (Kd.R (Kd.int .i64) 3 w35 w.heap.size (fun _ => True) (.slice Ao21 x6_1.length co21) x6_1) := ⟨h2_⟩
              have n3_ : Aside0 (w35.heap[gb160]? = some (.cells #[.int .i64 a0_0, .slice (some ad173) l0_1.length c0_1] 24 (0, 0))) := ⟨h3_⟩
              have n4_ : Aside0 (w35.heap[gb161]? = some (.cells #[.int .i64 0, .slice none 0 0] 24 (0, 0))) := ⟨h4_⟩
              have n5_ : Aside0 (w35.heap[gb162]? = some (.cells #[.int .i64 0, .slice none 0 0] 24 (0, 0))) := ⟨h5_⟩
              have n6_ : Aside0 (w35.heap[gb172]? = some (.cells #[.int .i64 a0_0, .slice Ao27 t169.length co27] 24 (0, 0))) := ⟨h6_⟩
              have n7_ : Aside0 (w35.heap[gb177]? = some (.cells #[.int .i64 0, .slice none 0 0] 24 (0, 0))) := ⟨h7_⟩
              have n8_ : Aside0 (w.heap.size ≤ gb177) := ⟨h8_⟩
              have n9_ : Aside0 (w.heap.size ≤ gb177) := ⟨h9_⟩
              have n10_ : Aside0 (gb160 ≠ gb177) := ⟨h10_⟩
              have n11_ : Aside0 (gb177 ≠ gb160) := ⟨h11_⟩
              have n12_ : Aside0 (gb161 ≠ gb177) := ⟨h12_⟩
              have n13_ : Aside0 (gb177 ≠ gb161) := ⟨h13_⟩
              have n14_ : Aside0 (gb162 ≠ gb177) := ⟨h14_⟩
              have n15_ : Aside0 (gb177 ≠ gb162) := ⟨h15_⟩
              have n16_ : Aside0 (gb172 ≠ gb177) := ⟨h16_⟩
              have n17_ : Aside0 (gb177 ≠ gb172) := ⟨h17_⟩
              have n18_ : Aside0 (Below w.heap.size w w35) := ⟨h18_⟩
              clear HO_6
              clear HO171
              clear BK160
              clear BK161
              clear BK162
              clear BK172
              clear HB
              clear h0_ h1_ h2_ h3_ h4_ h5_ h6_ h7_ h8_ h9_ h10_ h11_ h12_ h13_ h14_ h15_ h16_ h17_ h18_
              have HO171 := n0_
              have HO176 := n1_
              have HO_6 := n2_
              have BK160 := n3_
              have BK161 := n4_
              have BK162 := n5_
              have BK172 := n6_
              have BK177 := n7_
              have GW177 := n8_
              have GE177 := n9_
              have NB160_177 := n10_
              have NB177_160 := n11_
              have NB161_177 := n12_
              have NB177_161 := n13_
              have NB162_177 := n14_
              have NB177_162 := n15_
              have NB172_177 := n16_
              have NB177_172 := n17_
              have HB := n18_
              clear n0_ n1_ n2_ n3_ n4_ n5_ n6_ n7_ n8_ n9_ n10_ n11_ n12_ n13_ n14_ n15_ n16_ n17_ n18_
              have hHeld : w35.cell? ⟨gb160, 0, none⟩ = some (.int .i64 a0_0) ∧ w35.cell? ⟨gb160, 1, none⟩ = some (.slice (some ad173) l0_1.length c0_1) ∧ w35.cell? (ad173.add ((t167).toNat * 2)) = some (.string ((rd_T48 l0_1 t167).f0)) ∧ w35.cell? ⟨(ad173.add ((t167).toNat * 2)).block, (ad173.add ((t167).toNat * 2)).off + 1, none⟩ = some (.int .i64 ((rd_T48 l0_1 t167).f1)) := hS_
              obtain ⟨Ao36, co36, eo36⟩ := Kd.R_slice HO176.out
              (first | subst eo36 | (injection eo36 with f1_ f2_ f3_; have f4_ := f1_.symm; have f5_ := f3_.symm; clear f1_ f2_ f3_; subst f4_; subst f5_))
              refine norm_ (a' := ?_) ?_ ?_
              rotate_left
              · simp only [putAll, Act.put, List.setIfInBounds_toArray, List.set_cons_zero, List.set_cons_succ]
                rfl
              refine one_ (i := 16) (N := none) #[true, true, true, true, true, true, true, true, true, true, true, true, true, true, true, true, true] rfl rfl (one_of HT_.out (by kernel_rfl)) (by decide) (fun K hK => ?_)
              have hs37 : w35.cell? ⟨gb177, 0, none⟩ = some (.int .i64 0) := (blk_cell BK177.out 0).trans rfl
              have hfs37 := blk_frozen BK177.out 0
              have hns37_0 := NB160_177.out
              have hns37_1 := NB161_177.out
              have hns37_2 := NB162_177.out
              have hns37_3 := NB172_177.out
              have hms37_0 := NB177_160.out
              have hms37_1 := NB177_161.out
              have hms37_2 := NB177_162.out
              have hms37_3 := NB177_172.out
              have hs38 : w35.cell? ⟨gb177, 1, none⟩ = some (.slice none 0 0) := (blk_cell BK177.out 1).trans rfl
              have hfs38 := blk_frozen BK177.out 1
              have hns38_0 := NB160_177.out
              have hns38_1 := NB161_177.out
              have hns38_2 := NB162_177.out
              have hns38_3 := NB172_177.out
              have hms38_0 := NB177_160.out
              have hms38_1 := NB177_161.out
              have hms38_2 := NB177_162.out
              have hms38_3 := NB177_172.out
              refine skip_ (w1 := ?_) (by rfl) rfl ?_ ?_
              rotate_left
              · go_simp
                rfl
              refine hK.out _ _ ⟨((cell_far (p := ⟨gb177, _, none⟩) NB160_177.out _).trans (((cell_far (p := ⟨gb177, _, none⟩) NB160_177.out _).trans (hHeld.1)))), ((cell_far (p := ⟨gb177, _, none⟩) NB160_177.out _).trans (((cell_far (p := ⟨gb177, _, none⟩) NB160_177.out _).trans (hHeld.2.1)))), ((cell_far (p := ⟨gb177, _, none⟩) (by first | exact Nat.ne_of_lt (Nat.lt_of_lt_of_le (by have := World.block_lt_of_cell? _ _ hw173_0; first | rwa [add_block] at this | exact this) GW177.out) | (rw [add_block]; exact Nat.ne_of_lt (Nat.lt_of_lt_of_le (by have := World.block_lt_of_cell? _ _ hw173_0; first | rwa [add_block] at this | exact this) GW177.out)) | (show (Addr.add _ _).block ≠ _; rw [add_block]; exact Nat.ne_of_lt (Nat.lt_of_lt_of_le (by have := World.block_lt_of_cell? _ _ hw173_0; first | rwa [add_block] at this | exact this) GW177.out)) | (dsimp only; exact Nat.ne_of_lt (Nat.lt_of_lt_of_le (by have := World.block_lt_of_cell? _ _ hw173_0; first | rwa [add_block] at this | exact this) GW177.out))) _).trans (((cell_far (p := ⟨gb177, _, none⟩) (by first | exact Nat.ne_of_lt (Nat.lt_of_lt_of_le (by have := World.block_lt_of_cell? _ _ hw173_0; first | rwa [add_block] at this | exact this) GW177.out) | (rw [add_block]; exact Nat.ne_of_lt (Nat.lt_of_lt_of_le (by have := World.block_lt_of_cell? _ _ hw173_0; first | rwa [add_block] at this | exact this) GW177.out)) | (show (Addr.add _ _).block ≠ _; rw [add_block]; exact Nat.ne_of_lt (Nat.lt_of_lt_of_le (by have := World.block_lt_of_cell? _ _ hw173_0; first | rwa [add_block] at this | exact this) GW177.out)) | (dsimp only; exact Nat.ne_of_lt (Nat.lt_of_lt_of_le (by have := World.block_lt_of_cell? _ _ hw173_0; first | rwa [add_block] at this | exact this) GW177.out))) _).trans (hHeld.2.2.1)))), ((cell_far (p := ⟨gb177, _, none⟩) (by first | exact Nat.ne_of_lt (Nat.lt_of_lt_of_le (by have := World.block_lt_of_cell? _ _ hw173_1; first | rwa [add_block] at this | exact this) GW177.out) | (rw [add_block]; exact Nat.ne_of_lt (Nat.lt_of_lt_of_le (by have := World.block_lt_of_cell? _ _ hw173_1; first | rwa [add_block] at this | exact this) GW177.out)) | (show (Addr.add _ _).block ≠ _; rw [add_block]; exact Nat.ne_of_lt (Nat.lt_of_lt_of_le (by have := World.block_lt_of_cell? _ _ hw173_1; first | rwa [add_block] at this | exact this) GW177.out)) | (dsimp only; exact Nat.ne_of_lt (Nat.lt_of_lt_of_le (by have := World.block_lt_of_cell? _ _ hw173_1; first | rwa [add_block] at this | exact this) GW177.out))) _).trans (((cell_far (p := ⟨gb177, _, none⟩) (by first | exact Nat.ne_of_lt (Nat.lt_of_lt_of_le (by have := World.block_lt_of_cell? _ _ hw173_1; first | rwa [add_block] at this | exact this) GW177.out) | (rw [add_block]; exact Nat.ne_of_lt (Nat.lt_of_lt_of_le (by have := World.block_lt_of_cell? _ _ hw173_1; first | rwa [add_block] at this | exact this) GW177.out)) | (show (Addr.add _ _).block ≠ _; rw [add_block]; exact Nat.ne_of_lt (Nat.lt_of_lt_of_le (by have := World.block_lt_of_cell? _ _ hw173_1; first | rwa [add_block] at this | exact this) GW177.out)) | (dsimp only; exact Nat.ne_of_lt (Nat.lt_of_lt_of_le (by have := World.block_lt_of_cell? _ _ hw173_1; first | rwa [add_block] at this | exact this) GW177.out))) _).trans (hHeld.2.2.2))))⟩ (fun hHeld => ?_)
              clear hK K
              refine done_ (done_of HT_.out (by kernel_rfl)) ?_
              try go_wp2
              have n0_ : Aside0 (Kd.R (Kd.int .i64) 3 ((w35.setCell ⟨gb177, 0, none⟩ (.int .i64 ((rd_T48 l0_1 t167).f1))).setCell ⟨gb177, 1, none⟩ (.slice Ao36 t174.length co36)) w.heap.size (fun _ => True) (.slice Ao21 x6_1.length co21) x6_1) := ⟨by (with_reducible repeat (first | apply Kd.R_alloc | apply Kd.R_drewN | apply Kd.R_drew)); exact Kd.R_mono (Kd.R_far (p := ⟨gb177, 1, none⟩) (Kd.R_far (p := ⟨gb177, 0, none⟩) (Kd.R_types HO_6.out BK177.out (by decide)) (fun _ hk => hk.2) (.int .i64 ((rd_T48 l0_1 t167).f1))) (fun _ hk => hk.2) (.slice Ao36 t174.length co36)) (fun _ hk => trivial)⟩
              have n1_ : Aside0 (Kd.R k48 48 ((w35.setCell ⟨gb177, 0, none⟩ (.int .i64 ((rd_T48 l0_1 t167).f1))).setCell ⟨gb177, 1, none⟩ (.slice Ao36 t174.length co36)) w.heap.size (fun k_ => some k_ ≠ (.slice Ao36 t174.length co36 : Value).ownBlock) (.slice Ao27 t169.length co27) t169) := ⟨by (with_reducible repeat (first | apply Kd.R_alloc | apply Kd.R_drewN | apply Kd.R_drew)); exact Kd.R_mono (Kd.R_far (p := ⟨gb177, 1, none⟩) (Kd.R_far (p := ⟨gb177, 0, none⟩) (Kd.R_types HO171.out BK177.out (by decide)) (fun _ hk => hk.2) (.int .i64 ((rd_T48 l0_1 t167).f1))) (fun _ hk => hk.2) (.slice Ao36 t174.length co36)) (fun _ hk => hk.1)⟩
              have n2_ : Aside0 (Kd.R k48 48 ((w35.setCell ⟨gb177, 0, none⟩ (.int .i64 ((rd_T48 l0_1 t167).f1))).setCell ⟨gb177, 1, none⟩ (.slice Ao36 t174.length co36)) w.heap.size (fun k_ => some k_ ≠ (.slice Ao27 t169.length co27 : Value).ownBlock) (.slice Ao36 t174.length co36) t174) := ⟨by (with_reducible repeat (first | apply Kd.R_alloc | apply Kd.R_drewN | apply Kd.R_drew)); exact Kd.R_mono (Kd.R_far (p := ⟨gb177, 1, none⟩) (Kd.R_far (p := ⟨gb177, 0, none⟩) (Kd.R_types HO176.out BK177.out (by decide)) (fun _ hk => hk.2) (.int .i64 ((rd_T48 l0_1 t167).f1))) (fun _ hk => hk.2) (.slice Ao36 t174.length co36)) (fun _ hk => hk.1)⟩
              have n3_ : Aside0 (((w35.setCell ⟨gb177, 0, none⟩ (.int .i64 ((rd_T48 l0_1 t167).f1))).setCell ⟨gb177, 1, none⟩ (.slice Ao36 t174.length co36)).heap[gb160]? = some (.cells #[.int .i64 a0_0, .slice (some ad173) l0_1.length c0_1] 24 (0, 0))) := ⟨by (with_reducible repeat (first | refine blk_drewN ?_ _ | refine blk_drew ?_ | refine blk_alloc ?_ _)); refine blk_far ?_ NB160_177.out _; (with_reducible repeat (first | refine blk_drewN ?_ _ | refine blk_drew ?_ | refine blk_alloc ?_ _)); refine blk_far ?_ NB160_177.out _; (with_reducible repeat (first | refine blk_drewN ?_ _ | refine blk_drew ?_ | refine blk_alloc ?_ _)); exact BK160.out⟩
              have n4_ : Aside0 (((w35.setCell ⟨gb177, 0, none⟩ (.int .i64 ((rd_T48 l0_1 t167).f1))).setCell ⟨gb177, 1, none⟩ (.slice Ao36 t174.length co36)).heap[gb161]? = some (.cells #[.int .i64 0, .slice none 0 0] 24 (0, 0))) := ⟨by (with_reducible repeat (first | refine blk_drewN ?_ _ | refine blk_drew ?_ | refine blk_alloc ?_ _)); refine blk_far ?_ NB161_177.out _; (with_reducible repeat (first | refine blk_drewN ?_ _ | refine blk_drew ?_ | refine blk_alloc ?_ _)); refine blk_far ?_ NB161_177.out _; (with_reducible repeat (first | refine blk_drewN ?_ _ | refine blk_drew ?_ | refine blk_alloc ?_ _)); exact BK161.out⟩
              have n5_ : Aside0 (((w35.setCell ⟨gb177, 0, none⟩ (.int .i64 ((rd_T48 l0_1 t167).f1))).setCell ⟨gb177, 1, none⟩ (.slice Ao36 t174.length co36)).heap[gb162]? = some (.cells #[.int .i64 0, .slice none 0 0] 24 (0, 0))) := ⟨by (with_reducible repeat (first | refine blk_drewN ?_ _ | refine blk_drew ?_ | refine blk_alloc ?_ _)); refine blk_far ?_ NB162_177.out _; (with_reducible repeat (first | refine blk_drewN ?_ _ | refine blk_drew ?_ | refine blk_alloc ?_ _)); refine blk_far ?_ NB162_177.out _; (with_reducible repeat (first | refine blk_drewN ?_ _ | refine blk_drew ?_ | refine blk_alloc ?_ _)); exact BK162.out⟩
              have n6_ : Aside0 (((w35.setCell ⟨gb177, 0, none⟩ (.int .i64 ((rd_T48 l0_1 t167).f1))).setCell ⟨gb177, 1, none⟩ (.slice Ao36 t174.length co36)).heap[gb172]? = some (.cells #[.int .i64 a0_0, .slice Ao27 t169.length co27] 24 (0, 0))) := ⟨by (with_reducible repeat (first | refine blk_drewN ?_ _ | refine blk_drew ?_ | refine blk_alloc ?_ _)); refine blk_far ?_ NB172_177.out _; (with_reducible repeat (first | refine blk_drewN ?_ _ | refine blk_drew ?_ | refine blk_alloc ?_ _)); refine blk_far ?_ NB172_177.out _; (with_reducible repeat (first | refine blk_drewN ?_ _ | refine blk_drew ?_ | refine blk_alloc ?_ _)); exact BK172.out⟩
              have n7_ : Aside0 (((w35.setCell ⟨gb177, 0, none⟩ (.int .i64 ((rd_T48 l0_1 t167).f1))).setCell ⟨gb177, 1, none⟩ (.slice Ao36 t174.length co36)).heap[gb177]? = some (.cells #[.int .i64 ((rd_T48 l0_1 t167).f1), .slice Ao36 t174.length co36] 24 (0, 0))) := ⟨by (with_reducible repeat (first | refine blk_drewN ?_ _ | refine blk_drew ?_ | refine blk_alloc ?_ _)); refine blk_put (cs := #[.int .i64 ((rd_T48 l0_1 t167).f1), .slice none 0 0]) ?_ 1 _ rfl; (with_reducible repeat (first | refine blk_drewN ?_ _ | refine blk_drew ?_ | refine blk_alloc ?_ _)); refine blk_put (cs := #[.int .i64 0, .slice none 0 0]) ?_ 0 _ rfl; (with_reducible repeat (first | refine blk_drewN ?_ _ | refine blk_drew ?_ | refine blk_alloc ?_ _)); exact BK177.out⟩
              have n8_ : Aside0 (Below w.heap.size w ((w35.setCell ⟨gb177, 0, none⟩ (.int .i64 ((rd_T48 l0_1 t167).f1))).setCell ⟨gb177, 1, none⟩ (.slice Ao36 t174.length co36))) := ⟨by repeat (first | (with_reducible first | exact HB.out | apply below_alloc | apply pw_below_drewN | apply below_drew1 | refine below_set ?_ GE160.out | refine below_set ?_ GE161.out | refine below_set ?_ GE162.out | refine below_set ?_ GE172.out | refine below_set ?_ GE177.out) | exact HB.out)⟩
              (try clear HO_6)
              (try clear HO171)
              (try clear HO176)
              (try clear BK160)
              (try clear BK161)
              (try clear BK162)
              (try clear BK172)
              (try clear BK177)
              (try clear HB)
              generalize ((w35.setCell ⟨gb177, 0, none⟩ (.int .i64 ((rd_T48 l0_1 t167).f1))).setCell ⟨gb177, 1, none⟩ (.slice Ao36 t174.length co36)) = w39 at n0_ n1_ n2_ n3_ n4_ n5_ n6_ n7_ n8_ ⊢
              have HO_6 := n0_
              have HO171 := n1_
              have HO176 := n2_
              have BK160 := n3_
              have BK161 := n4_
              have BK162 := n5_
              have BK172 := n6_
              have BK177 := n7_
              have HB := n8_
              clear n0_ n1_ n2_ n3_ n4_ n5_ n6_ n7_ n8_
              have n0_ := asd (Kd.R_drew HO_6.out)
              have n1_ := asd (Kd.R_drew HO171.out)
              have n2_ := asd (Kd.R_drew HO176.out)
              have n3_ := asd (blk_drew BK160.out)
              have n4_ := asd (blk_drew BK161.out)
              have n5_ := asd (blk_drew BK162.out)
              have n6_ := asd (blk_drew BK172.out)
              have n7_ := asd (blk_drew BK177.out)
              have n8_ := asd (below_drew1 HB.out)
              clear HO_6
              clear HO171
              clear HO176
              clear BK160
              clear BK161
              clear BK162
              clear BK172
              clear BK177
              clear HB
              have HO_6 := n0_
              have HO171 := n1_
              have HO176 := n2_
              have BK160 := n3_
              have BK161 := n4_
              have BK162 := n5_
              have BK172 := n6_
              have BK177 := n7_
              have HB := n8_
              clear n0_ n1_ n2_ n3_ n4_ n5_ n6_ n7_ n8_
              have p178 : 0 ≤ (t167 : Int) := of_decide_eq_true (by first | (with_reducible assumption) | assumption)
              have q178 : t167 < (l0_1.length : Int) := of_decide_eq_true (by first | (with_reducible assumption) | assumption)
              obtain ⟨ad178, e178, hx178_0, hx178_1⟩ := at_T48 HR0_1.out t167 p178 q178
              have hw178_1 := hx178_1
              have hw178_0 := hx178_0
              obtain rfl : ad173 = ad178 := (by injection e178)
              replace hx178_0 := (HB.out.cell (World.block_lt_of_cell? w _ hx178_0)).trans hx178_0
              replace hx178_1 := (HB.out.cell (World.block_lt_of_cell? w _ hx178_1)).trans hx178_1
              replace p178 := eq_true p178
              replace q178 := eq_true q178
              refine start_ (n := 12) (S := fun w' => w'.cell? ⟨gb172, 0, none⟩ = some (.int .i64 a0_0) ∧ w'.cell? ⟨gb172, 1, none⟩ = some (.slice Ao27 t169.length co27) ∧ w'.cell? ⟨gb160, 0, none⟩ = some (.int .i64 a0_0) ∧ w'.cell? ⟨gb160, 1, none⟩ = some (.slice (some ad173) l0_1.length c0_1) ∧ w'.cell? ⟨gb177, 0, none⟩ = some (.int .i64 ((rd_T48 l0_1 t167).f1)) ∧ w'.cell? ⟨gb177, 1, none⟩ = some (.slice Ao36 t174.length co36) ∧ w'.cell? (ad173.add ((t167).toNat * 2)) = some (.string ((rd_T48 l0_1 t167).f0)) ∧ w'.cell? ⟨(ad173.add ((t167).toNat * 2)).block, (ad173.add ((t167).toNat * 2)).off + 1, none⟩ = some (.int .i64 ((rd_T48 l0_1 t167).f1))) (ds := []) #[false, false, false, false, false, false, false, false, false, false, false, false] (by kernel_rfl) rfl rfl ⟨(blk_cell BK172.out 0).trans rfl, (blk_cell BK172.out 1).trans rfl, (blk_cell BK160.out 0).trans rfl, (blk_cell BK160.out 1).trans rfl, (blk_cell BK177.out 0).trans rfl, (blk_cell BK177.out 1).trans rfl, ((HB.out.cell (World.block_lt_of_cell? w _ hw178_0)).trans hw178_0), ((HB.out.cell (World.block_lt_of_cell? w _ hw178_1)).trans hw178_1)⟩ (fun hHeld => ?_); refine with_tabW copseref8_Cut.tab11 copseref8_Cut.bits11 (fun HT_ HW_ => ?_)
              generalize w39.drew = w40 at HO_6 HO171 HO176 BK160 BK161 BK162 BK172 BK177 HB hx178_0 hx178_1 hHeld ⊢
              refine pure_ (i := 1) (N := some 63) (v := ?_) (a' := ?_) #[false, true, false, false, false, false, false, false, false, false, false, false] rfl rfl (any_of HT_.out (by kernel_rfl)) (fun _ _ _ h => h) (Or.inl ⟨by rfl, ?_⟩) ?_ ?_
              rotate_left
              · intro w'
                go_simp
                with_reducible rfl
              rotate_left
              · simp only [Act.put, List.setIfInBounds_toArray, List.set_cons_zero, List.set_cons_succ, i64_w, i32_w]
                rfl
              refine pure_ (i := 3) (N := some 65) (v := ?_) (a' := ?_) #[false, true, false, true, false, false, false, false, false, false, false, false] rfl rfl (any_of HT_.out (by kernel_rfl)) (fun _ _ _ h => h) (Or.inl ⟨by rfl, ?_⟩) ?_ ?_
              rotate_left
              · intro w'
                go_simp
                with_reducible rfl
              rotate_left
              · simp only [Act.put, List.setIfInBounds_toArray, List.set_cons_zero, List.set_cons_succ, i64_w, i32_w]
                rfl
              refine take_ (i := 0) (N := some 62) (v := ?_) (a' := ?_) #[true, true, false, true, false, false, false, false, false, false, false, false] rfl rfl (take_ofW HT_.out HW_.out (by kernel_rfl)) (fun _ _ _ h => h) (Or.inl ⟨by rfl, ?_⟩) hHeld ?_ ?_
              rotate_left
              · rintro w' ⟨s0, s1, s2, s3, s4, s5, s6, s7⟩
                go_simp
                with_reducible rfl
              rotate_left
              · simp only [Act.put, List.setIfInBounds_toArray, List.set_cons_zero, List.set_cons_succ, i64_w, i32_w]
                rfl
              refine take_ (i := 2) (N := some 64) (v := ?_) (a' := ?_) #[true, true, true, true, false, false, false, false, false, false, false, false] rfl rfl (take_ofW HT_.out HW_.out (by kernel_rfl)) (fun _ _ _ h => h) (Or.inl ⟨by rfl, ?_⟩) hHeld ?_ ?_
              rotate_left
              · rintro w' ⟨s0, s1, s2, s3, s4, s5, s6, s7⟩
                go_simp
                with_reducible rfl
              rotate_left
              · simp only [Act.put, List.setIfInBounds_toArray, List.set_cons_zero, List.set_cons_succ, i64_w, i32_w]
                rfl
              refine pure_ (i := 4) (N := some 66) (v := ?_) (a' := ?_) #[true, true, true, true, true, false, false, false, false, false, false, false] rfl rfl (any_of HT_.out (by kernel_rfl)) (fun _ _ _ h => h) (Or.inl ⟨by rfl, ?_⟩) ?_ ?_
              rotate_left
              · intro w'
                go_simp
                with_reducible rfl
              rotate_left
              · simp only [Act.put, List.setIfInBounds_toArray, List.set_cons_zero, List.set_cons_succ, i64_w, i32_w]
                rfl
              refine pure_ (i := 5) (N := some 67) (v := ?_) (a' := ?_) #[true, true, true, true, true, true, false, false, false, false, false, false] rfl rfl (any_of HT_.out (by kernel_rfl)) (fun _ _ _ h => h) (Or.inl ⟨by rfl, ?_⟩) ?_ ?_
              rotate_left
              · intro w'
                go_simp
                with_reducible rfl
              rotate_left
              · simp only [Act.put, List.setIfInBounds_toArray, List.set_cons_zero, List.set_cons_succ, i64_w, i32_w]
                rfl
              refine take_ (i := 6) (N := some 68) (v := ?_) (a' := ?_) #[true, true, true, true, true, true, true, false, false, false, false, false] rfl rfl (take_ofW HT_.out HW_.out (by kernel_rfl)) (fun _ _ _ h => h) (Or.inl ⟨by rfl, ?_⟩) hHeld ?_ ?_
              rotate_left
              · rintro w' ⟨s0, s1, s2, s3, s4, s5, s6, s7⟩
                go_simp
                with_reducible rfl
              rotate_left
              · simp only [Act.put, List.setIfInBounds_toArray, List.set_cons_zero, List.set_cons_succ, i64_w, i32_w]
                rfl
              refine take_ (i := 7) (N := some 69) (v := ?_) (a' := ?_) #[true, true, true, true, true, true, true, true, false, false, false, false] rfl rfl (take_ofW HT_.out HW_.out (by kernel_rfl)) (fun _ _ _ h => h) (Or.inl ⟨by rfl, ?_⟩) hHeld ?_ ?_
              rotate_left
              · rintro w' ⟨s0, s1, s2, s3, s4, s5, s6, s7⟩
                go_simp
                with_reducible rfl
              rotate_left
              · simp only [Act.put, List.setIfInBounds_toArray, List.set_cons_zero, List.set_cons_succ, i64_w, i32_w]
                rfl
              refine one_ (i := 8) (N := none) #[true, true, true, true, true, true, true, true, true, false, false, false] rfl rfl (one_of HT_.out (by kernel_rfl)) (by decide) (fun K hK => ?_)
              have hs41 : w40.cell? ⟨gb161, 0, none⟩ = some (.int .i64 0) := (blk_cell BK161.out 0).trans rfl
              have hfs41 := blk_frozen BK161.out 0
              have hns41_0 := NB160_161.out
              have hns41_2 := NB162_161.out
              have hns41_3 := NB172_161.out
              have hns41_4 := NB177_161.out
              have hms41_0 := NB161_160.out
              have hms41_2 := NB161_162.out
              have hms41_3 := NB161_172.out
              have hms41_4 := NB161_177.out
              have hs42 : w40.cell? ⟨gb161, 1, none⟩ = some (.slice none 0 0) := (blk_cell BK161.out 1).trans rfl
              have hfs42 := blk_frozen BK161.out 1
              have hns42_0 := NB160_161.out
              have hns42_2 := NB162_161.out
              have hns42_3 := NB172_161.out
              have hns42_4 := NB177_161.out
              have hms42_0 := NB161_160.out
              have hms42_2 := NB161_162.out
              have hms42_3 := NB161_172.out
              have hms42_4 := NB161_177.out
              refine skip_ (w1 := ?_) (by rfl) rfl ?_ ?_
              rotate_left
              · go_simp
                rfl
              refine hK.out _ _ ⟨((cell_far (p := ⟨gb161, _, none⟩) NB172_161.out _).trans (((cell_far (p := ⟨gb161, _, none⟩) NB172_161.out _).trans (hHeld.1)))), ((cell_far (p := ⟨gb161, _, none⟩) NB172_161.out _).trans (((cell_far (p := ⟨gb161, _, none⟩) NB172_161.out _).trans (hHeld.2.1)))), ((cell_far (p := ⟨gb161, _, none⟩) NB160_161.out _).trans (((cell_far (p := ⟨gb161, _, none⟩) NB160_161.out _).trans (hHeld.2.2.1)))), ((cell_far (p := ⟨gb161, _, none⟩) NB160_161.out _).trans (((cell_far (p := ⟨gb161, _, none⟩) NB160_161.out _).trans (hHeld.2.2.2.1)))), ((cell_far (p := ⟨gb161, _, none⟩) NB177_161.out _).trans (((cell_far (p := ⟨gb161, _, none⟩) NB177_161.out _).trans (hHeld.2.2.2.2.1)))), ((cell_far (p := ⟨gb161, _, none⟩) NB177_161.out _).trans (((cell_far (p := ⟨gb161, _, none⟩) NB177_161.out _).trans (hHeld.2.2.2.2.2.1)))), ((cell_far (p := ⟨gb161, _, none⟩) (by first | exact Nat.ne_of_lt (Nat.lt_of_lt_of_le (by have := World.block_lt_of_cell? _ _ hw178_0; first | rwa [add_block] at this | exact this) GW161.out) | (rw [add_block]; exact Nat.ne_of_lt (Nat.lt_of_lt_of_le (by have := World.block_lt_of_cell? _ _ hw178_0; first | rwa [add_block] at this | exact this) GW161.out)) | (show (Addr.add _ _).block ≠ _; rw [add_block]; exact Nat.ne_of_lt (Nat.lt_of_lt_of_le (by have := World.block_lt_of_cell? _ _ hw178_0; first | rwa [add_block] at this | exact this) GW161.out)) | (dsimp only; exact Nat.ne_of_lt (Nat.lt_of_lt_of_le (by have := World.block_lt_of_cell? _ _ hw178_0; first | rwa [add_block] at this | exact this) GW161.out))) _).trans (((cell_far (p := ⟨gb161, _, none⟩) (by first | exact Nat.ne_of_lt (Nat.lt_of_lt_of_le (by have := World.block_lt_of_cell? _ _ hw178_0; first | rwa [add_block] at this | exact this) GW161.out) | (rw [add_block]; exact Nat.ne_of_lt (Nat.lt_of_lt_of_le (by have := World.block_lt_of_cell? _ _ hw178_0; first | rwa [add_block] at this | exact this) GW161.out)) | (show (Addr.add _ _).block ≠ _; rw [add_block]; exact Nat.ne_of_lt (Nat.lt_of_lt_of_le (by have := World.block_lt_of_cell? _ _ hw178_0; first | rwa [add_block] at this | exact this) GW161.out)) | (dsimp only; exact Nat.ne_of_lt (Nat.lt_of_lt_of_le (by have := World.block_lt_of_cell? _ _ hw178_0; first | rwa [add_block] at this | exact this) GW161.out))) _).trans (hHeld.2.2.2.2.2.2.1)))), ((cell_far (p := ⟨gb161, _, none⟩) (by first | exact Nat.ne_of_lt (Nat.lt_of_lt_of_le (by have := World.block_lt_of_cell? _ _ hw178_1; first | rwa [add_block] at this | exact this) GW161.out) | (rw [add_block]; exact Nat.ne_of_lt (Nat.lt_of_lt_of_le (by have := World.block_lt_of_cell? _ _ hw178_1; first | rwa [add_block] at this | exact this) GW161.out)) | (show (Addr.add _ _).block ≠ _; rw [add_block]; exact Nat.ne_of_lt (Nat.lt_of_lt_of_le (by have := World.block_lt_of_cell? _ _ hw178_1; first | rwa [add_block] at this | exact this) GW161.out)) | (dsimp only; exact Nat.ne_of_lt (Nat.lt_of_lt_of_le (by have := World.block_lt_of_cell? _ _ hw178_1; first | rwa [add_block] at this | exact this) GW161.out))) _).trans (((cell_far (p := ⟨gb161, _, none⟩) (by first | exact Nat.ne_of_lt (Nat.lt_of_lt_of_le (by have := World.block_lt_of_cell? _ _ hw178_1; first | rwa [add_block] at this | exact this) GW161.out) | (rw [add_block]; exact Nat.ne_of_lt (Nat.lt_of_lt_of_le (by have := World.block_lt_of_cell? _ _ hw178_1; first | rwa [add_block] at this | exact this) GW161.out)) | (show (Addr.add _ _).block ≠ _; rw [add_block]; exact Nat.ne_of_lt (Nat.lt_of_lt_of_le (by have := World.block_lt_of_cell? _ _ hw178_1; first | rwa [add_block] at this | exact this) GW161.out)) | (dsimp only; exact Nat.ne_of_lt (Nat.lt_of_lt_of_le (by have := World.block_lt_of_cell? _ _ hw178_1; first | rwa [add_block] at this | exact this) GW161.out))) _).trans (hHeld.2.2.2.2.2.2.2))))⟩ (fun hHeld => ?_)
              clear hK K
              refine pure_ (i := 9) (N := some 3) (v := ?_) (a' := ?_) #[true, true, true, true, true, true, true, true, true, true, false, false] rfl rfl (any_of HT_.out (by kernel_rfl)) (fun _ _ _ h => h) (Or.inl ⟨by rfl, ?_⟩) ?_ ?_
              rotate_left
              · intro w'
                go_simp
                with_reducible rfl
              rotate_left
              · simp only [Act.put, List.setIfInBounds_toArray, List.set_cons_zero, List.set_cons_succ, i64_w, i32_w]
                rfl
              refine one_ (i := 10) (N := none) #[true, true, true, true, true, true, true, true, true, true, true, false] rfl rfl (one_of HT_.out (by kernel_rfl)) (by decide) (fun K hK => ?_)
              have hs43 : w40.cell? ⟨gb162, 0, none⟩ = some (.int .i64 0) := (blk_cell BK162.out 0).trans rfl
              have hfs43 := blk_frozen BK162.out 0
              have hns43_0 := NB160_162.out
              have hns43_1 := NB161_162.out
              have hns43_3 := NB172_162.out
              have hns43_4 := NB177_162.out
              have hms43_0 := NB162_160.out
              have hms43_1 := NB162_161.out
              have hms43_3 := NB162_172.out
              have hms43_4 := NB162_177.out
              have hs44 : w40.cell? ⟨gb162, 1, none⟩ = some (.slice none 0 0) := (blk_cell BK162.out 1).trans rfl
              have hfs44 := blk_frozen BK162.out 1
              have hns44_0 := NB160_162.out
              have hns44_1 := NB161_162.out
              have hns44_3 := NB172_162.out
              have hns44_4 := NB177_162.out
              have hms44_0 := NB162_160.out
              have hms44_1 := NB162_161.out
              have hms44_3 := NB162_172.out
              have hms44_4 := NB162_177.out
              refine skip_ (w1 := ?_) (by rfl) rfl ?_ ?_
              rotate_left
              · go_simp
                rfl
              refine hK.out _ _ ⟨((cell_far (p := ⟨gb162, _, none⟩) NB172_162.out _).trans (((cell_far (p := ⟨gb162, _, none⟩) NB172_162.out _).trans (hHeld.1)))), ((cell_far (p := ⟨gb162, _, none⟩) NB172_162.out _).trans (((cell_far (p := ⟨gb162, _, none⟩) NB172_162.out _).trans (hHeld.2.1)))), ((cell_far (p := ⟨gb162, _, none⟩) NB160_162.out _).trans (((cell_far (p := ⟨gb162, _, none⟩) NB160_162.out _).trans (hHeld.2.2.1)))), ((cell_far (p := ⟨gb162, _, none⟩) NB160_162.out _).trans (((cell_far (p := ⟨gb162, _, none⟩) NB160_162.out _).trans (hHeld.2.2.2.1)))), ((cell_far (p := ⟨gb162, _, none⟩) NB177_162.out _).trans (((cell_far (p := ⟨gb162, _, none⟩) NB177_162.out _).trans (hHeld.2.2.2.2.1)))), ((cell_far (p := ⟨gb162, _, none⟩) NB177_162.out _).trans (((cell_far (p := ⟨gb162, _, none⟩) NB177_162.out _).trans (hHeld.2.2.2.2.2.1)))), ((cell_far (p := ⟨gb162, _, none⟩) (by first | exact Nat.ne_of_lt (Nat.lt_of_lt_of_le (by have := World.block_lt_of_cell? _ _ hw178_0; first | rwa [add_block] at this | exact this) GW162.out) | (rw [add_block]; exact Nat.ne_of_lt (Nat.lt_of_lt_of_le (by have := World.block_lt_of_cell? _ _ hw178_0; first | rwa [add_block] at this | exact this) GW162.out)) | (show (Addr.add _ _).block ≠ _; rw [add_block]; exact Nat.ne_of_lt (Nat.lt_of_lt_of_le (by have := World.block_lt_of_cell? _ _ hw178_0; first | rwa [add_block] at this | exact this) GW162.out)) | (dsimp only; exact Nat.ne_of_lt (Nat.lt_of_lt_of_le (by have := World.block_lt_of_cell? _ _ hw178_0; first | rwa [add_block] at this | exact this) GW162.out))) _).trans (((cell_far (p := ⟨gb162, _, none⟩) (by first | exact Nat.ne_of_lt (Nat.lt_of_lt_of_le (by have := World.block_lt_of_cell? _ _ hw178_0; first | rwa [add_block] at this | exact this) GW162.out) | (rw [add_block]; exact Nat.ne_of_lt (Nat.lt_of_lt_of_le (by have := World.block_lt_of_cell? _ _ hw178_0; first | rwa [add_block] at this | exact this) GW162.out)) | (show (Addr.add _ _).block ≠ _; rw [add_block]; exact Nat.ne_of_lt (Nat.lt_of_lt_of_le (by have := World.block_lt_of_cell? _ _ hw178_0; first | rwa [add_block] at this | exact this) GW162.out)) | (dsimp only; exact Nat.ne_of_lt (Nat.lt_of_lt_of_le (by have := World.block_lt_of_cell? _ _ hw178_0; first | rwa [add_block] at this | exact this) GW162.out))) _).trans (hHeld.2.2.2.2.2.2.1)))), ((cell_far (p := ⟨gb162, _, none⟩) (by first | exact Nat.ne_of_lt (Nat.lt_of_lt_of_le (by have := World.block_lt_of_cell? _ _ hw178_1; first | rwa [add_block] at this | exact this) GW162.out) | (rw [add_block]; exact Nat.ne_of_lt (Nat.lt_of_lt_of_le (by have := World.block_lt_of_cell? _ _ hw178_1; first | rwa [add_block] at this | exact this) GW162.out)) | (show (Addr.add _ _).block ≠ _; rw [add_block]; exact Nat.ne_of_lt (Nat.lt_of_lt_of_le (by have := World.block_lt_of_cell? _ _ hw178_1; first | rwa [add_block] at this | exact this) GW162.out)) | (dsimp only; exact Nat.ne_of_lt (Nat.lt_of_lt_of_le (by have := World.block_lt_of_cell? _ _ hw178_1; first | rwa [add_block] at this | exact this) GW162.out))) _).trans (((cell_far (p := ⟨gb162, _, none⟩) (by first | exact Nat.ne_of_lt (Nat.lt_of_lt_of_le (by have := World.block_lt_of_cell? _ _ hw178_1; first | rwa [add_block] at this | exact this) GW162.out) | (rw [add_block]; exact Nat.ne_of_lt (Nat.lt_of_lt_of_le (by have := World.block_lt_of_cell? _ _ hw178_1; first | rwa [add_block] at this | exact this) GW162.out)) | (show (Addr.add _ _).block ≠ _; rw [add_block]; exact Nat.ne_of_lt (Nat.lt_of_lt_of_le (by have := World.block_lt_of_cell? _ _ hw178_1; first | rwa [add_block] at this | exact this) GW162.out)) | (dsimp only; exact Nat.ne_of_lt (Nat.lt_of_lt_of_le (by have := World.block_lt_of_cell? _ _ hw178_1; first | rwa [add_block] at this | exact this) GW162.out))) _).trans (hHeld.2.2.2.2.2.2.2))))⟩ (fun hHeld => ?_)
              clear hK K
              refine pure_ (i := 11) (N := some 5) (v := ?_) (a' := ?_) #[true, true, true, true, true, true, true, true, true, true, true, true] rfl rfl (any_of HT_.out (by kernel_rfl)) (fun _ _ _ h => h) (Or.inl ⟨by rfl, ?_⟩) ?_ ?_
              rotate_left
              · intro w'
                go_simp
                with_reducible rfl
              rotate_left
              · simp only [Act.put, List.setIfInBounds_toArray, List.set_cons_zero, List.set_cons_succ, i64_w, i32_w]
                rfl
              refine done_ (done_of HT_.out (by kernel_rfl)) ?_
              try go_wp2
              refine bodyPost_ret (results_list (rs := [.cell 2 24, .tmp 3, .cell 4 24, .tmp 5]) rfl (by simp) (.cell gb161 24 #[.int .i64 a0_0, .slice Ao27 t169.length co27] (0, 0) _ rfl (by (with_reducible repeat (first | refine blk_drewN ?_ _ | refine blk_drew ?_ | refine blk_alloc ?_ _)); refine blk_far ?_ NB161_162.out _; (with_reducible repeat (first | refine blk_drewN ?_ _ | refine blk_drew ?_ | refine blk_alloc ?_ _)); refine blk_far ?_ NB161_162.out _; (with_reducible repeat (first | refine blk_drewN ?_ _ | refine blk_drew ?_ | refine blk_alloc ?_ _)); refine blk_put (cs := #[.int .i64 a0_0, .slice none 0 0]) ?_ 1 _ rfl; (with_reducible repeat (first | refine blk_drewN ?_ _ | refine blk_drew ?_ | refine blk_alloc ?_ _)); refine blk_put (cs := #[.int .i64 0, .slice none 0 0]) ?_ 0 _ rfl; (with_reducible repeat (first | refine blk_drewN ?_ _ | refine blk_drew ?_ | refine blk_alloc ?_ _)); exact BK161.out) Tryd.underlying24 rfl (by kernel_rfl) (.tmp (.cell gb162 24 #[.int .i64 ((rd_T48 l0_1 t167).f1), .slice Ao36 t174.length co36] (0, 0) _ rfl (by (with_reducible repeat (first | refine blk_drewN ?_ _ | refine blk_drew ?_ | refine blk_alloc ?_ _)); refine blk_put (cs := #[.int .i64 ((rd_T48 l0_1 t167).f1), .slice none 0 0]) ?_ 1 _ rfl; (with_reducible repeat (first | refine blk_drewN ?_ _ | refine blk_drew ?_ | refine blk_alloc ?_ _)); refine blk_put (cs := #[.int .i64 0, .slice none 0 0]) ?_ 0 _ rfl; (with_reducible repeat (first | refine blk_drewN ?_ _ | refine blk_drew ?_ | refine blk_alloc ?_ _)); refine blk_far ?_ NB162_161.out _; (with_reducible repeat (first | refine blk_drewN ?_ _ | refine blk_drew ?_ | refine blk_alloc ?_ _)); refine blk_far ?_ NB162_161.out _; (with_reducible repeat (first | refine blk_drewN ?_ _ | refine blk_drew ?_ | refine blk_alloc ?_ _)); exact BK162.out) Tryd.underlying24 rfl (by kernel_rfl) (.tmp .nil))))) rfl ?_
              exact ⟨_, _, by first | rfl | (simp [errW_none, errW_some] <;> rfl) | (simp [*, errW_none, errW_some] <;> rfl), by (with_reducible repeat (first | apply Kd.R_alloc | apply Kd.R_drewN | apply Kd.R_drew)); exact Kd.R_mono (Kd.R_far (p := ⟨gb162, 1, none⟩) (Kd.R_far (p := ⟨gb162, 0, none⟩) (Kd.R_far (p := ⟨gb161, 1, none⟩) (Kd.R_far (p := ⟨gb161, 0, none⟩) (Kd.R_types (Kd.R_types HO171.out BK161.out (by decide)) BK162.out (by decide)) (fun _ hk => hk.1.2) (.int .i64 a0_0)) (fun _ hk => hk.1.2) (.slice Ao27 t169.length co27)) (fun _ hk => hk.2) (.int .i64 ((rd_T48 l0_1 t167).f1))) (fun _ hk => hk.2) (.slice Ao36 t174.length co36)) (fun _ hk => hk.1.1), by (with_reducible repeat (first | apply Kd.R_alloc | apply Kd.R_drewN | apply Kd.R_drew)); exact Kd.R_mono (Kd.R_far (p := ⟨gb162, 1, none⟩) (Kd.R_far (p := ⟨gb162, 0, none⟩) (Kd.R_far (p := ⟨gb161, 1, none⟩) (Kd.R_far (p := ⟨gb161, 0, none⟩) (Kd.R_types (Kd.R_types HO176.out BK161.out (by decide)) BK162.out (by decide)) (fun _ hk => hk.1.2) (.int .i64 a0_0)) (fun _ hk => hk.1.2) (.slice Ao27 t169.length co27)) (fun _ hk => hk.2) (.int .i64 ((rd_T48 l0_1 t167).f1))) (fun _ hk => hk.2) (.slice Ao36 t174.length co36)) (fun _ hk => hk.1.1), by repeat (first | (with_reducible first | exact HB.out | apply below_alloc | apply pw_below_drewN | apply below_drew1 | refine below_set ?_ GE160.out | refine below_set ?_ GE161.out | refine below_set ?_ GE162.out | refine below_set ?_ GE172.out | refine below_set ?_ GE177.out) | exact HB.out)⟩
            · rw [if_neg c16] at H
              exact absurd H (by simp)
          · rw [if_neg c15] at H
            exact absurd H (by simp)
        · rw [if_neg c13] at H
          have c13b0 : (t168 == 0) = false := beq_eq_false_iff_ne.mpr c13
          have c13b1 : (t168 != 0) = true := bne_iff_ne.mpr c13
          simp only [Option.some.injEq, Prod.mk.injEq] at H
          obtain ⟨rfl, rfl, rfl, rfl, rfl, rfl⟩ := H
          have hnb45 := NB160_161.out
          have hnc45 := NB161_160.out
          have hnb46 := NB160_162.out
          have hnc46 := NB162_160.out
          have hcz47_0 : wr.cell? ⟨gb160, 0, none⟩ = some (.int .i64 a0_0) := (blk_cell BK160.out 0).trans rfl
          have hcz47_1 : wr.cell? ⟨gb160, 1, none⟩ = some (.slice A0_1 l0_1.length c0_1) := (blk_cell BK160.out 1).trans rfl
          have hfz47_0 := blk_frozen BK160.out 0
          have hfz47_1 := blk_frozen BK160.out 1
          obtain ⟨Ao48, co48, eo48⟩ := Kd.R_slice HO_6.out
          subst eo48
          go_wp2_with (first | ((with_reducible refine gate_callee (f := 54) rfl ?_); refine goesL_ (some 32) rfl rfl Tryd.func54 (by kernel_rfl) rfl #[.slice Ao48 x6_1.length co48] rfl (by (try simp only [List.map_toArray, List.map_cons, List.map_nil]); first | done | rfl | (simp only [List.length_drop, List.length_take]; rfl)) ?_; (with_reducible refine (copseref6_Pivot.calls k1 _ _ x6_1 t167 t168 _ ?side1 ?side2 A12.out).mono ?_); (case side1 => repeat (first | exact (Kd.R_reads' HO_6.out).2.2 | (with_reducible refine Kd.C_alloc ?_ _) | (with_reducible refine Kd.C_drewN ?_ _) | (with_reducible refine Kd.C_drew ?_))); (case side2 => exact (Kd.R_reads' HO_6.out).2.1); rintro e w' ⟨rfl, ⟨nd, rfl⟩⟩; refine ⟨_, rfl, ?_⟩; (try (rw [drewN_self wr]; generalize hq_ : World.drewN wr _ = wr; have n0_ : Aside0 (Kd.R (Kd.int .i64) 3 wr w.heap.size (fun _ => True) (.slice Ao48 x6_1.length co48) x6_1) := ⟨by rw [← hq_]; exact HO_6.out⟩; have n1_ : Aside0 (wr.heap[gb160]? = some (.cells #[.int .i64 a0_0, .slice A0_1 l0_1.length c0_1] 24 (0, 0))) := ⟨by rw [← hq_]; exact BK160.out⟩; have n2_ : Aside0 (wr.heap[gb161]? = some (.cells #[.int .i64 0, .slice none 0 0] 24 (0, 0))) := ⟨by rw [← hq_]; exact BK161.out⟩; have n3_ : Aside0 (wr.heap[gb162]? = some (.cells #[.int .i64 0, .slice none 0 0] 24 (0, 0))) := ⟨by rw [← hq_]; exact BK162.out⟩; have n4_ : Aside0 (Below w.heap.size w wr) := ⟨by rw [← hq_]; exact (by repeat (first | (with_reducible first | exact HB.out | apply below_alloc | apply pw_below_drewN | apply below_drew1 | refine below_set ?_ GE160.out | refine below_set ?_ GE161.out | refine below_set ?_ GE162.out) | exact HB.out))⟩; clear HO_6 BK160 BK161 BK162 HB hq_; have HO_6 := n0_; have BK160 := n1_; have BK161 := n2_; have BK162 := n3_; have HB := n4_; clear n0_ n1_ n2_ n3_ n4_)); have hnb49 := NB161_162.out; have hnc49 := NB162_161.out; have hcz50_0 : wr.cell? ⟨gb161, 0, none⟩ = some (.int .i64 0) := (blk_cell BK161.out 0).trans rfl; have hcz50_1 : wr.cell? ⟨gb161, 1, none⟩ = some (.slice none 0 0) := (blk_cell BK161.out 1).trans rfl; have hfz50_0 := blk_frozen BK161.out 0; have hfz50_1 := blk_frozen BK161.out 1; have hcz51_0 : wr.cell? ⟨gb162, 0, none⟩ = some (.int .i64 0) := (blk_cell BK162.out 0).trans rfl; have hcz51_1 : wr.cell? ⟨gb162, 1, none⟩ = some (.slice none 0 0) := (blk_cell BK162.out 1).trans rfl; have hfz51_0 := blk_frozen BK162.out 0; have hfz51_1 := blk_frozen BK162.out 1))
          refine bodyPost_ret (results_list (rs := [.cell 2 24, .tmp 3, .cell 4 24, .tmp 5]) rfl (by simp) (.cell gb161 24 #[.int .i64 0, .slice none 0 0] (0, 0) _ rfl (by (with_reducible repeat (first | refine blk_drewN ?_ _ | refine blk_drew ?_ | refine blk_alloc ?_ _)); refine blk_far ?_ NB161_162.out _; (with_reducible repeat (first | refine blk_drewN ?_ _ | refine blk_drew ?_ | refine blk_alloc ?_ _)); refine blk_far ?_ NB161_162.out _; (with_reducible repeat (first | refine blk_drewN ?_ _ | refine blk_drew ?_ | refine blk_alloc ?_ _)); refine blk_put (cs := #[.int .i64 0, .slice none 0 0]) ?_ 1 _ rfl; (with_reducible repeat (first | refine blk_drewN ?_ _ | refine blk_drew ?_ | refine blk_alloc ?_ _)); refine blk_put (cs := #[.int .i64 0, .slice none 0 0]) ?_ 0 _ rfl; (with_reducible repeat (first | refine blk_drewN ?_ _ | refine blk_drew ?_ | refine blk_alloc ?_ _)); exact BK161.out) Tryd.underlying24 rfl (by kernel_rfl) (.tmp (.cell gb162 24 #[.int .i64 0, .slice none 0 0] (0, 0) _ rfl (by (with_reducible repeat (first | refine blk_drewN ?_ _ | refine blk_drew ?_ | refine blk_alloc ?_ _)); refine blk_put (cs := #[.int .i64 0, .slice none 0 0]) ?_ 1 _ rfl; (with_reducible repeat (first | refine blk_drewN ?_ _ | refine blk_drew ?_ | refine blk_alloc ?_ _)); refine blk_put (cs := #[.int .i64 0, .slice none 0 0]) ?_ 0 _ rfl; (with_reducible repeat (first | refine blk_drewN ?_ _ | refine blk_drew ?_ | refine blk_alloc ?_ _)); refine blk_far ?_ NB162_161.out _; (with_reducible repeat (first | refine blk_drewN ?_ _ | refine blk_drew ?_ | refine blk_alloc ?_ _)); refine blk_far ?_ NB162_161.out _; (with_reducible repeat (first | refine blk_drewN ?_ _ | refine blk_drew ?_ | refine blk_alloc ?_ _)); exact BK162.out) Tryd.underlying24 rfl (by kernel_rfl) (.tmp .nil))))) rfl ?_
          exact ⟨_, _, by first | rfl | (simp [errW_none, errW_some] <;> rfl) | (simp [*, errW_none, errW_some] <;> rfl), by first | exact Kd.R_nil _ _ _ _ _ | exact Kd.N_nil _ _ _ _ _ | exact Kd.V_nil _ _ _ _ _ | exact Kd.Q_nil _ _ _ _ _ | exact Kd.S_nil _ _ _ _ _, by first | exact Kd.R_nil _ _ _ _ _ | exact Kd.N_nil _ _ _ _ _ | exact Kd.V_nil _ _ _ _ _ | exact Kd.Q_nil _ _ _ _ _ | exact Kd.S_nil _ _ _ _ _, by repeat (first | (with_reducible first | exact HB.out | apply below_alloc | apply pw_below_drewN | apply below_drew1 | refine below_set ?_ GE160.out | refine below_set ?_ GE161.out | refine below_set ?_ GE162.out) | exact HB.out)⟩

end Go.Proofs.YtocggojbafediaaDoor.Ref
