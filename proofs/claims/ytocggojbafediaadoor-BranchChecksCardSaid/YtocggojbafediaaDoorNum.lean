/- The number of a refusal. -/
import Derived.Test.YtocggojbafediaaDoorEnv
import Derived.WideLaws
namespace Go.Proofs.YtocggojbafediaaDoor.E
open Go.RowKit Go.Proofs.YtocggojbafediaaDoor.K

/-- The thirteen, in their order. -/
def errG : List Nat := [0, 1, 2, 3, 4, 5, 6, 8, 9, 10, 11, 7, 12]

theorem compErr : (Tryd.prog.info? 191).map (·.comparable) = some true := by kernel_rfl
theorem sizeErr : (Tryd.prog.info? 206).map (·.size) = some 1 := by kernel_rfl

theorem eql_err {L : List Nat} {A : Nat → Addr} {w : World} (hE : Errs L A w) (g h : Nat) (hg : g ∈ L) (hh : h ∈ L) : (binOp .eql 30 (errAt (A g)) (errAt (A h))).run Tryd.prog w = .ok (.bool (decide (g = h))) w := by
  obtain ⟨i, hi, hc⟩ := Option.map_eq_some_iff.1 compErr
  obtain ⟨j, hj, hs⟩ := Option.map_eq_some_iff.1 sizeErr
  by_cases e : g = h
  · subst e
    rw [decide_eq_true rfl]
    exact run_eql_iface_ptr_same w (A g) Tryd.underlying30 Tryd.underlying191 hi hc hj
  · rw [decide_eq_false e]
    obtain ⟨c1, t1, r1⟩ := hE.row g hg
    obtain ⟨c2, t2, r2⟩ := hE.row h hh
    exact run_eql_iface_ptr_other w Tryd.underlying30 Tryd.underlying191 hi hc hj (by omega) (fun e' => e (hE.apart g h hg hh e')) r1 r2
theorem errIface : Tryd.prog.underlying 30 = some (.interface (Tryd.prog.methodsAt 30)) := by
  simp [Program.methodsAt, Tryd.underlying30]
theorem eql_err_nil (a : Addr) (w : World) : (binOp .eql 30 (errAt a) .nilIface).run Tryd.prog w = .ok (.bool false) w := run_eql_held_nil w _ _ _ errIface
theorem neq_err_nil (a : Addr) (w : World) : (binOp .neq 30 (errAt a) .nilIface).run Tryd.prog w = .ok (.bool true) w := run_neq_held_nil w _ _ _ errIface
theorem eql_nil_nil (w : World) : (binOp .eql 30 .nilIface .nilIface).run Tryd.prog w = .ok (.bool true) w := run_eql_nil_nil w _ errIface
theorem neq_nil_nil (w : World) : (binOp .neq 30 .nilIface .nilIface).run Tryd.prog w = .ok (.bool false) w := run_neq_nil_nil w _ errIface

set_option maxRecDepth 100000 in
set_option maxHeartbeats 400000 in
theorem num_nil (w : World) : Calls Tryd.prog 19 #[.nilIface] w fun e w' => e = .returned (.int .i64 0) ∧ w = w' := by
  have h1 := eql_nil_nil
  go_enter Tryd.func19, Tryd.ntmps19
  go_wp2
  go_ret
  exact ⟨rfl, rfl⟩

set_option maxRecDepth 100000 in
set_option maxHeartbeats 800000 in
theorem num_ErrArg {A : Nat → Addr} {w : World} (hE : Errs errG A w) : Calls Tryd.prog 19 #[errAt (A 0)] w fun e w' => e = .returned (.int .i64 1) ∧ w = w' := by
  have hn := eql_err_nil (A 0) w
  have cErrArg := hE.cell 0 (by decide)
  have qErrArg : (binOp .eql 30 (errAt (A 0)) (errAt (A 0))).run Tryd.prog w = .ok (.bool true) w := eql_err hE 0 0 (by decide) (by decide)
  have cErrText := hE.cell 1 (by decide)
  have qErrText : (binOp .eql 30 (errAt (A 0)) (errAt (A 1))).run Tryd.prog w = .ok (.bool false) w := eql_err hE 0 1 (by decide) (by decide)
  have cErrMany := hE.cell 2 (by decide)
  have qErrMany : (binOp .eql 30 (errAt (A 0)) (errAt (A 2))).run Tryd.prog w = .ok (.bool false) w := eql_err hE 0 2 (by decide) (by decide)
  have cErrShort := hE.cell 3 (by decide)
  have qErrShort : (binOp .eql 30 (errAt (A 0)) (errAt (A 3))).run Tryd.prog w = .ok (.bool false) w := eql_err hE 0 3 (by decide) (by decide)
  have cErrTwice := hE.cell 4 (by decide)
  have qErrTwice : (binOp .eql 30 (errAt (A 0)) (errAt (A 4))).run Tryd.prog w = .ok (.bool false) w := eql_err hE 0 4 (by decide) (by decide)
  have cErrLost := hE.cell 5 (by decide)
  have qErrLost : (binOp .eql 30 (errAt (A 0)) (errAt (A 5))).run Tryd.prog w = .ok (.bool false) w := eql_err hE 0 5 (by decide) (by decide)
  have cErrFull := hE.cell 6 (by decide)
  have qErrFull : (binOp .eql 30 (errAt (A 0)) (errAt (A 6))).run Tryd.prog w = .ok (.bool false) w := eql_err hE 0 6 (by decide) (by decide)
  clear hE
  go_enter Tryd.func19, Tryd.ntmps19
  go_wp2
  go_ret
  exact ⟨rfl, rfl⟩

set_option maxRecDepth 100000 in
set_option maxHeartbeats 800000 in
theorem num_ErrText {A : Nat → Addr} {w : World} (hE : Errs errG A w) : Calls Tryd.prog 19 #[errAt (A 1)] w fun e w' => e = .returned (.int .i64 2) ∧ w = w' := by
  have hn := eql_err_nil (A 1) w
  have cErrArg := hE.cell 0 (by decide)
  have qErrArg : (binOp .eql 30 (errAt (A 1)) (errAt (A 0))).run Tryd.prog w = .ok (.bool false) w := eql_err hE 1 0 (by decide) (by decide)
  have cErrText := hE.cell 1 (by decide)
  have qErrText : (binOp .eql 30 (errAt (A 1)) (errAt (A 1))).run Tryd.prog w = .ok (.bool true) w := eql_err hE 1 1 (by decide) (by decide)
  have cErrMany := hE.cell 2 (by decide)
  have qErrMany : (binOp .eql 30 (errAt (A 1)) (errAt (A 2))).run Tryd.prog w = .ok (.bool false) w := eql_err hE 1 2 (by decide) (by decide)
  have cErrShort := hE.cell 3 (by decide)
  have qErrShort : (binOp .eql 30 (errAt (A 1)) (errAt (A 3))).run Tryd.prog w = .ok (.bool false) w := eql_err hE 1 3 (by decide) (by decide)
  have cErrTwice := hE.cell 4 (by decide)
  have qErrTwice : (binOp .eql 30 (errAt (A 1)) (errAt (A 4))).run Tryd.prog w = .ok (.bool false) w := eql_err hE 1 4 (by decide) (by decide)
  have cErrLost := hE.cell 5 (by decide)
  have qErrLost : (binOp .eql 30 (errAt (A 1)) (errAt (A 5))).run Tryd.prog w = .ok (.bool false) w := eql_err hE 1 5 (by decide) (by decide)
  have cErrFull := hE.cell 6 (by decide)
  have qErrFull : (binOp .eql 30 (errAt (A 1)) (errAt (A 6))).run Tryd.prog w = .ok (.bool false) w := eql_err hE 1 6 (by decide) (by decide)
  clear hE
  go_enter Tryd.func19, Tryd.ntmps19
  go_wp2
  go_ret
  exact ⟨rfl, rfl⟩

set_option maxRecDepth 100000 in
set_option maxHeartbeats 800000 in
theorem num_ErrMany {A : Nat → Addr} {w : World} (hE : Errs errG A w) : Calls Tryd.prog 19 #[errAt (A 2)] w fun e w' => e = .returned (.int .i64 3) ∧ w = w' := by
  have hn := eql_err_nil (A 2) w
  have cErrArg := hE.cell 0 (by decide)
  have qErrArg : (binOp .eql 30 (errAt (A 2)) (errAt (A 0))).run Tryd.prog w = .ok (.bool false) w := eql_err hE 2 0 (by decide) (by decide)
  have cErrText := hE.cell 1 (by decide)
  have qErrText : (binOp .eql 30 (errAt (A 2)) (errAt (A 1))).run Tryd.prog w = .ok (.bool false) w := eql_err hE 2 1 (by decide) (by decide)
  have cErrMany := hE.cell 2 (by decide)
  have qErrMany : (binOp .eql 30 (errAt (A 2)) (errAt (A 2))).run Tryd.prog w = .ok (.bool true) w := eql_err hE 2 2 (by decide) (by decide)
  have cErrShort := hE.cell 3 (by decide)
  have qErrShort : (binOp .eql 30 (errAt (A 2)) (errAt (A 3))).run Tryd.prog w = .ok (.bool false) w := eql_err hE 2 3 (by decide) (by decide)
  have cErrTwice := hE.cell 4 (by decide)
  have qErrTwice : (binOp .eql 30 (errAt (A 2)) (errAt (A 4))).run Tryd.prog w = .ok (.bool false) w := eql_err hE 2 4 (by decide) (by decide)
  have cErrLost := hE.cell 5 (by decide)
  have qErrLost : (binOp .eql 30 (errAt (A 2)) (errAt (A 5))).run Tryd.prog w = .ok (.bool false) w := eql_err hE 2 5 (by decide) (by decide)
  have cErrFull := hE.cell 6 (by decide)
  have qErrFull : (binOp .eql 30 (errAt (A 2)) (errAt (A 6))).run Tryd.prog w = .ok (.bool false) w := eql_err hE 2 6 (by decide) (by decide)
  clear hE
  go_enter Tryd.func19, Tryd.ntmps19
  go_wp2
  go_ret
  exact ⟨rfl, rfl⟩

set_option maxRecDepth 100000 in
set_option maxHeartbeats 800000 in
theorem num_ErrShort {A : Nat → Addr} {w : World} (hE : Errs errG A w) : Calls Tryd.prog 19 #[errAt (A 3)] w fun e w' => e = .returned (.int .i64 4) ∧ w = w' := by
  have hn := eql_err_nil (A 3) w
  have cErrArg := hE.cell 0 (by decide)
  have qErrArg : (binOp .eql 30 (errAt (A 3)) (errAt (A 0))).run Tryd.prog w = .ok (.bool false) w := eql_err hE 3 0 (by decide) (by decide)
  have cErrText := hE.cell 1 (by decide)
  have qErrText : (binOp .eql 30 (errAt (A 3)) (errAt (A 1))).run Tryd.prog w = .ok (.bool false) w := eql_err hE 3 1 (by decide) (by decide)
  have cErrMany := hE.cell 2 (by decide)
  have qErrMany : (binOp .eql 30 (errAt (A 3)) (errAt (A 2))).run Tryd.prog w = .ok (.bool false) w := eql_err hE 3 2 (by decide) (by decide)
  have cErrShort := hE.cell 3 (by decide)
  have qErrShort : (binOp .eql 30 (errAt (A 3)) (errAt (A 3))).run Tryd.prog w = .ok (.bool true) w := eql_err hE 3 3 (by decide) (by decide)
  have cErrTwice := hE.cell 4 (by decide)
  have qErrTwice : (binOp .eql 30 (errAt (A 3)) (errAt (A 4))).run Tryd.prog w = .ok (.bool false) w := eql_err hE 3 4 (by decide) (by decide)
  have cErrLost := hE.cell 5 (by decide)
  have qErrLost : (binOp .eql 30 (errAt (A 3)) (errAt (A 5))).run Tryd.prog w = .ok (.bool false) w := eql_err hE 3 5 (by decide) (by decide)
  have cErrFull := hE.cell 6 (by decide)
  have qErrFull : (binOp .eql 30 (errAt (A 3)) (errAt (A 6))).run Tryd.prog w = .ok (.bool false) w := eql_err hE 3 6 (by decide) (by decide)
  clear hE
  go_enter Tryd.func19, Tryd.ntmps19
  go_wp2
  go_ret
  exact ⟨rfl, rfl⟩

set_option maxRecDepth 100000 in
set_option maxHeartbeats 800000 in
theorem num_ErrTwice {A : Nat → Addr} {w : World} (hE : Errs errG A w) : Calls Tryd.prog 19 #[errAt (A 4)] w fun e w' => e = .returned (.int .i64 5) ∧ w = w' := by
  have hn := eql_err_nil (A 4) w
  have cErrArg := hE.cell 0 (by decide)
  have qErrArg : (binOp .eql 30 (errAt (A 4)) (errAt (A 0))).run Tryd.prog w = .ok (.bool false) w := eql_err hE 4 0 (by decide) (by decide)
  have cErrText := hE.cell 1 (by decide)
  have qErrText : (binOp .eql 30 (errAt (A 4)) (errAt (A 1))).run Tryd.prog w = .ok (.bool false) w := eql_err hE 4 1 (by decide) (by decide)
  have cErrMany := hE.cell 2 (by decide)
  have qErrMany : (binOp .eql 30 (errAt (A 4)) (errAt (A 2))).run Tryd.prog w = .ok (.bool false) w := eql_err hE 4 2 (by decide) (by decide)
  have cErrShort := hE.cell 3 (by decide)
  have qErrShort : (binOp .eql 30 (errAt (A 4)) (errAt (A 3))).run Tryd.prog w = .ok (.bool false) w := eql_err hE 4 3 (by decide) (by decide)
  have cErrTwice := hE.cell 4 (by decide)
  have qErrTwice : (binOp .eql 30 (errAt (A 4)) (errAt (A 4))).run Tryd.prog w = .ok (.bool true) w := eql_err hE 4 4 (by decide) (by decide)
  have cErrLost := hE.cell 5 (by decide)
  have qErrLost : (binOp .eql 30 (errAt (A 4)) (errAt (A 5))).run Tryd.prog w = .ok (.bool false) w := eql_err hE 4 5 (by decide) (by decide)
  have cErrFull := hE.cell 6 (by decide)
  have qErrFull : (binOp .eql 30 (errAt (A 4)) (errAt (A 6))).run Tryd.prog w = .ok (.bool false) w := eql_err hE 4 6 (by decide) (by decide)
  clear hE
  go_enter Tryd.func19, Tryd.ntmps19
  go_wp2
  go_ret
  exact ⟨rfl, rfl⟩

set_option maxRecDepth 100000 in
set_option maxHeartbeats 800000 in
theorem num_ErrLost {A : Nat → Addr} {w : World} (hE : Errs errG A w) : Calls Tryd.prog 19 #[errAt (A 5)] w fun e w' => e = .returned (.int .i64 6) ∧ w = w' := by
  have hn := eql_err_nil (A 5) w
  have cErrArg := hE.cell 0 (by decide)
  have qErrArg : (binOp .eql 30 (errAt (A 5)) (errAt (A 0))).run Tryd.prog w = .ok (.bool false) w := eql_err hE 5 0 (by decide) (by decide)
  have cErrText := hE.cell 1 (by decide)
  have qErrText : (binOp .eql 30 (errAt (A 5)) (errAt (A 1))).run Tryd.prog w = .ok (.bool false) w := eql_err hE 5 1 (by decide) (by decide)
  have cErrMany := hE.cell 2 (by decide)
  have qErrMany : (binOp .eql 30 (errAt (A 5)) (errAt (A 2))).run Tryd.prog w = .ok (.bool false) w := eql_err hE 5 2 (by decide) (by decide)
  have cErrShort := hE.cell 3 (by decide)
  have qErrShort : (binOp .eql 30 (errAt (A 5)) (errAt (A 3))).run Tryd.prog w = .ok (.bool false) w := eql_err hE 5 3 (by decide) (by decide)
  have cErrTwice := hE.cell 4 (by decide)
  have qErrTwice : (binOp .eql 30 (errAt (A 5)) (errAt (A 4))).run Tryd.prog w = .ok (.bool false) w := eql_err hE 5 4 (by decide) (by decide)
  have cErrLost := hE.cell 5 (by decide)
  have qErrLost : (binOp .eql 30 (errAt (A 5)) (errAt (A 5))).run Tryd.prog w = .ok (.bool true) w := eql_err hE 5 5 (by decide) (by decide)
  have cErrFull := hE.cell 6 (by decide)
  have qErrFull : (binOp .eql 30 (errAt (A 5)) (errAt (A 6))).run Tryd.prog w = .ok (.bool false) w := eql_err hE 5 6 (by decide) (by decide)
  clear hE
  go_enter Tryd.func19, Tryd.ntmps19
  go_wp2
  go_ret
  exact ⟨rfl, rfl⟩

set_option maxRecDepth 100000 in
set_option maxHeartbeats 800000 in
theorem num_ErrFull {A : Nat → Addr} {w : World} (hE : Errs errG A w) : Calls Tryd.prog 19 #[errAt (A 6)] w fun e w' => e = .returned (.int .i64 7) ∧ w = w' := by
  have hn := eql_err_nil (A 6) w
  have cErrArg := hE.cell 0 (by decide)
  have qErrArg : (binOp .eql 30 (errAt (A 6)) (errAt (A 0))).run Tryd.prog w = .ok (.bool false) w := eql_err hE 6 0 (by decide) (by decide)
  have cErrText := hE.cell 1 (by decide)
  have qErrText : (binOp .eql 30 (errAt (A 6)) (errAt (A 1))).run Tryd.prog w = .ok (.bool false) w := eql_err hE 6 1 (by decide) (by decide)
  have cErrMany := hE.cell 2 (by decide)
  have qErrMany : (binOp .eql 30 (errAt (A 6)) (errAt (A 2))).run Tryd.prog w = .ok (.bool false) w := eql_err hE 6 2 (by decide) (by decide)
  have cErrShort := hE.cell 3 (by decide)
  have qErrShort : (binOp .eql 30 (errAt (A 6)) (errAt (A 3))).run Tryd.prog w = .ok (.bool false) w := eql_err hE 6 3 (by decide) (by decide)
  have cErrTwice := hE.cell 4 (by decide)
  have qErrTwice : (binOp .eql 30 (errAt (A 6)) (errAt (A 4))).run Tryd.prog w = .ok (.bool false) w := eql_err hE 6 4 (by decide) (by decide)
  have cErrLost := hE.cell 5 (by decide)
  have qErrLost : (binOp .eql 30 (errAt (A 6)) (errAt (A 5))).run Tryd.prog w = .ok (.bool false) w := eql_err hE 6 5 (by decide) (by decide)
  have cErrFull := hE.cell 6 (by decide)
  have qErrFull : (binOp .eql 30 (errAt (A 6)) (errAt (A 6))).run Tryd.prog w = .ok (.bool true) w := eql_err hE 6 6 (by decide) (by decide)
  clear hE
  go_enter Tryd.func19, Tryd.ntmps19
  go_wp2
  go_ret
  exact ⟨rfl, rfl⟩

set_option maxRecDepth 100000 in
set_option maxHeartbeats 800000 in
theorem num_ErrDead {A : Nat → Addr} {w : World} (hE : Errs errG A w) : Calls Tryd.prog 19 #[errAt (A 8)] w fun e w' => e = .returned (.int .i64 8) ∧ w = w' := by
  have hn := eql_err_nil (A 8) w
  have cErrArg := hE.cell 0 (by decide)
  have qErrArg : (binOp .eql 30 (errAt (A 8)) (errAt (A 0))).run Tryd.prog w = .ok (.bool false) w := eql_err hE 8 0 (by decide) (by decide)
  have cErrText := hE.cell 1 (by decide)
  have qErrText : (binOp .eql 30 (errAt (A 8)) (errAt (A 1))).run Tryd.prog w = .ok (.bool false) w := eql_err hE 8 1 (by decide) (by decide)
  have cErrMany := hE.cell 2 (by decide)
  have qErrMany : (binOp .eql 30 (errAt (A 8)) (errAt (A 2))).run Tryd.prog w = .ok (.bool false) w := eql_err hE 8 2 (by decide) (by decide)
  have cErrShort := hE.cell 3 (by decide)
  have qErrShort : (binOp .eql 30 (errAt (A 8)) (errAt (A 3))).run Tryd.prog w = .ok (.bool false) w := eql_err hE 8 3 (by decide) (by decide)
  have cErrTwice := hE.cell 4 (by decide)
  have qErrTwice : (binOp .eql 30 (errAt (A 8)) (errAt (A 4))).run Tryd.prog w = .ok (.bool false) w := eql_err hE 8 4 (by decide) (by decide)
  have cErrLost := hE.cell 5 (by decide)
  have qErrLost : (binOp .eql 30 (errAt (A 8)) (errAt (A 5))).run Tryd.prog w = .ok (.bool false) w := eql_err hE 8 5 (by decide) (by decide)
  have cErrFull := hE.cell 6 (by decide)
  have qErrFull : (binOp .eql 30 (errAt (A 8)) (errAt (A 6))).run Tryd.prog w = .ok (.bool false) w := eql_err hE 8 6 (by decide) (by decide)
  have cErrDead := hE.cell 8 (by decide)
  have qErrDead : (binOp .eql 30 (errAt (A 8)) (errAt (A 8))).run Tryd.prog w = .ok (.bool true) w := eql_err hE 8 8 (by decide) (by decide)
  have cErrCorrupt := hE.cell 9 (by decide)
  have qErrCorrupt : (binOp .eql 30 (errAt (A 8)) (errAt (A 9))).run Tryd.prog w = .ok (.bool false) w := eql_err hE 8 9 (by decide) (by decide)
  have cErrStatus := hE.cell 10 (by decide)
  have qErrStatus : (binOp .eql 30 (errAt (A 8)) (errAt (A 10))).run Tryd.prog w = .ok (.bool false) w := eql_err hE 8 10 (by decide) (by decide)
  have cErrTxid := hE.cell 11 (by decide)
  have qErrTxid : (binOp .eql 30 (errAt (A 8)) (errAt (A 11))).run Tryd.prog w = .ok (.bool false) w := eql_err hE 8 11 (by decide) (by decide)
  have cErrOrder := hE.cell 7 (by decide)
  have qErrOrder : (binOp .eql 30 (errAt (A 8)) (errAt (A 7))).run Tryd.prog w = .ok (.bool false) w := eql_err hE 8 7 (by decide) (by decide)
  have cErrKind := hE.cell 12 (by decide)
  have qErrKind : (binOp .eql 30 (errAt (A 8)) (errAt (A 12))).run Tryd.prog w = .ok (.bool false) w := eql_err hE 8 12 (by decide) (by decide)
  clear hE
  go_enter Tryd.func19, Tryd.ntmps19
  go_wp2
  go_ret
  exact ⟨rfl, rfl⟩

set_option maxRecDepth 100000 in
set_option maxHeartbeats 800000 in
theorem num_ErrCorrupt {A : Nat → Addr} {w : World} (hE : Errs errG A w) : Calls Tryd.prog 19 #[errAt (A 9)] w fun e w' => e = .returned (.int .i64 9) ∧ w = w' := by
  have hn := eql_err_nil (A 9) w
  have cErrArg := hE.cell 0 (by decide)
  have qErrArg : (binOp .eql 30 (errAt (A 9)) (errAt (A 0))).run Tryd.prog w = .ok (.bool false) w := eql_err hE 9 0 (by decide) (by decide)
  have cErrText := hE.cell 1 (by decide)
  have qErrText : (binOp .eql 30 (errAt (A 9)) (errAt (A 1))).run Tryd.prog w = .ok (.bool false) w := eql_err hE 9 1 (by decide) (by decide)
  have cErrMany := hE.cell 2 (by decide)
  have qErrMany : (binOp .eql 30 (errAt (A 9)) (errAt (A 2))).run Tryd.prog w = .ok (.bool false) w := eql_err hE 9 2 (by decide) (by decide)
  have cErrShort := hE.cell 3 (by decide)
  have qErrShort : (binOp .eql 30 (errAt (A 9)) (errAt (A 3))).run Tryd.prog w = .ok (.bool false) w := eql_err hE 9 3 (by decide) (by decide)
  have cErrTwice := hE.cell 4 (by decide)
  have qErrTwice : (binOp .eql 30 (errAt (A 9)) (errAt (A 4))).run Tryd.prog w = .ok (.bool false) w := eql_err hE 9 4 (by decide) (by decide)
  have cErrLost := hE.cell 5 (by decide)
  have qErrLost : (binOp .eql 30 (errAt (A 9)) (errAt (A 5))).run Tryd.prog w = .ok (.bool false) w := eql_err hE 9 5 (by decide) (by decide)
  have cErrFull := hE.cell 6 (by decide)
  have qErrFull : (binOp .eql 30 (errAt (A 9)) (errAt (A 6))).run Tryd.prog w = .ok (.bool false) w := eql_err hE 9 6 (by decide) (by decide)
  have cErrDead := hE.cell 8 (by decide)
  have qErrDead : (binOp .eql 30 (errAt (A 9)) (errAt (A 8))).run Tryd.prog w = .ok (.bool false) w := eql_err hE 9 8 (by decide) (by decide)
  have cErrCorrupt := hE.cell 9 (by decide)
  have qErrCorrupt : (binOp .eql 30 (errAt (A 9)) (errAt (A 9))).run Tryd.prog w = .ok (.bool true) w := eql_err hE 9 9 (by decide) (by decide)
  have cErrStatus := hE.cell 10 (by decide)
  have qErrStatus : (binOp .eql 30 (errAt (A 9)) (errAt (A 10))).run Tryd.prog w = .ok (.bool false) w := eql_err hE 9 10 (by decide) (by decide)
  have cErrTxid := hE.cell 11 (by decide)
  have qErrTxid : (binOp .eql 30 (errAt (A 9)) (errAt (A 11))).run Tryd.prog w = .ok (.bool false) w := eql_err hE 9 11 (by decide) (by decide)
  have cErrOrder := hE.cell 7 (by decide)
  have qErrOrder : (binOp .eql 30 (errAt (A 9)) (errAt (A 7))).run Tryd.prog w = .ok (.bool false) w := eql_err hE 9 7 (by decide) (by decide)
  have cErrKind := hE.cell 12 (by decide)
  have qErrKind : (binOp .eql 30 (errAt (A 9)) (errAt (A 12))).run Tryd.prog w = .ok (.bool false) w := eql_err hE 9 12 (by decide) (by decide)
  clear hE
  go_enter Tryd.func19, Tryd.ntmps19
  go_wp2
  go_ret
  exact ⟨rfl, rfl⟩

set_option maxRecDepth 100000 in
set_option maxHeartbeats 800000 in
theorem num_ErrStatus {A : Nat → Addr} {w : World} (hE : Errs errG A w) : Calls Tryd.prog 19 #[errAt (A 10)] w fun e w' => e = .returned (.int .i64 10) ∧ w = w' := by
  have hn := eql_err_nil (A 10) w
  have cErrArg := hE.cell 0 (by decide)
  have qErrArg : (binOp .eql 30 (errAt (A 10)) (errAt (A 0))).run Tryd.prog w = .ok (.bool false) w := eql_err hE 10 0 (by decide) (by decide)
  have cErrText := hE.cell 1 (by decide)
  have qErrText : (binOp .eql 30 (errAt (A 10)) (errAt (A 1))).run Tryd.prog w = .ok (.bool false) w := eql_err hE 10 1 (by decide) (by decide)
  have cErrMany := hE.cell 2 (by decide)
  have qErrMany : (binOp .eql 30 (errAt (A 10)) (errAt (A 2))).run Tryd.prog w = .ok (.bool false) w := eql_err hE 10 2 (by decide) (by decide)
  have cErrShort := hE.cell 3 (by decide)
  have qErrShort : (binOp .eql 30 (errAt (A 10)) (errAt (A 3))).run Tryd.prog w = .ok (.bool false) w := eql_err hE 10 3 (by decide) (by decide)
  have cErrTwice := hE.cell 4 (by decide)
  have qErrTwice : (binOp .eql 30 (errAt (A 10)) (errAt (A 4))).run Tryd.prog w = .ok (.bool false) w := eql_err hE 10 4 (by decide) (by decide)
  have cErrLost := hE.cell 5 (by decide)
  have qErrLost : (binOp .eql 30 (errAt (A 10)) (errAt (A 5))).run Tryd.prog w = .ok (.bool false) w := eql_err hE 10 5 (by decide) (by decide)
  have cErrFull := hE.cell 6 (by decide)
  have qErrFull : (binOp .eql 30 (errAt (A 10)) (errAt (A 6))).run Tryd.prog w = .ok (.bool false) w := eql_err hE 10 6 (by decide) (by decide)
  have cErrDead := hE.cell 8 (by decide)
  have qErrDead : (binOp .eql 30 (errAt (A 10)) (errAt (A 8))).run Tryd.prog w = .ok (.bool false) w := eql_err hE 10 8 (by decide) (by decide)
  have cErrCorrupt := hE.cell 9 (by decide)
  have qErrCorrupt : (binOp .eql 30 (errAt (A 10)) (errAt (A 9))).run Tryd.prog w = .ok (.bool false) w := eql_err hE 10 9 (by decide) (by decide)
  have cErrStatus := hE.cell 10 (by decide)
  have qErrStatus : (binOp .eql 30 (errAt (A 10)) (errAt (A 10))).run Tryd.prog w = .ok (.bool true) w := eql_err hE 10 10 (by decide) (by decide)
  have cErrTxid := hE.cell 11 (by decide)
  have qErrTxid : (binOp .eql 30 (errAt (A 10)) (errAt (A 11))).run Tryd.prog w = .ok (.bool false) w := eql_err hE 10 11 (by decide) (by decide)
  have cErrOrder := hE.cell 7 (by decide)
  have qErrOrder : (binOp .eql 30 (errAt (A 10)) (errAt (A 7))).run Tryd.prog w = .ok (.bool false) w := eql_err hE 10 7 (by decide) (by decide)
  have cErrKind := hE.cell 12 (by decide)
  have qErrKind : (binOp .eql 30 (errAt (A 10)) (errAt (A 12))).run Tryd.prog w = .ok (.bool false) w := eql_err hE 10 12 (by decide) (by decide)
  clear hE
  go_enter Tryd.func19, Tryd.ntmps19
  go_wp2
  go_ret
  exact ⟨rfl, rfl⟩

set_option maxRecDepth 100000 in
set_option maxHeartbeats 800000 in
theorem num_ErrTxid {A : Nat → Addr} {w : World} (hE : Errs errG A w) : Calls Tryd.prog 19 #[errAt (A 11)] w fun e w' => e = .returned (.int .i64 11) ∧ w = w' := by
  have hn := eql_err_nil (A 11) w
  have cErrArg := hE.cell 0 (by decide)
  have qErrArg : (binOp .eql 30 (errAt (A 11)) (errAt (A 0))).run Tryd.prog w = .ok (.bool false) w := eql_err hE 11 0 (by decide) (by decide)
  have cErrText := hE.cell 1 (by decide)
  have qErrText : (binOp .eql 30 (errAt (A 11)) (errAt (A 1))).run Tryd.prog w = .ok (.bool false) w := eql_err hE 11 1 (by decide) (by decide)
  have cErrMany := hE.cell 2 (by decide)
  have qErrMany : (binOp .eql 30 (errAt (A 11)) (errAt (A 2))).run Tryd.prog w = .ok (.bool false) w := eql_err hE 11 2 (by decide) (by decide)
  have cErrShort := hE.cell 3 (by decide)
  have qErrShort : (binOp .eql 30 (errAt (A 11)) (errAt (A 3))).run Tryd.prog w = .ok (.bool false) w := eql_err hE 11 3 (by decide) (by decide)
  have cErrTwice := hE.cell 4 (by decide)
  have qErrTwice : (binOp .eql 30 (errAt (A 11)) (errAt (A 4))).run Tryd.prog w = .ok (.bool false) w := eql_err hE 11 4 (by decide) (by decide)
  have cErrLost := hE.cell 5 (by decide)
  have qErrLost : (binOp .eql 30 (errAt (A 11)) (errAt (A 5))).run Tryd.prog w = .ok (.bool false) w := eql_err hE 11 5 (by decide) (by decide)
  have cErrFull := hE.cell 6 (by decide)
  have qErrFull : (binOp .eql 30 (errAt (A 11)) (errAt (A 6))).run Tryd.prog w = .ok (.bool false) w := eql_err hE 11 6 (by decide) (by decide)
  have cErrDead := hE.cell 8 (by decide)
  have qErrDead : (binOp .eql 30 (errAt (A 11)) (errAt (A 8))).run Tryd.prog w = .ok (.bool false) w := eql_err hE 11 8 (by decide) (by decide)
  have cErrCorrupt := hE.cell 9 (by decide)
  have qErrCorrupt : (binOp .eql 30 (errAt (A 11)) (errAt (A 9))).run Tryd.prog w = .ok (.bool false) w := eql_err hE 11 9 (by decide) (by decide)
  have cErrStatus := hE.cell 10 (by decide)
  have qErrStatus : (binOp .eql 30 (errAt (A 11)) (errAt (A 10))).run Tryd.prog w = .ok (.bool false) w := eql_err hE 11 10 (by decide) (by decide)
  have cErrTxid := hE.cell 11 (by decide)
  have qErrTxid : (binOp .eql 30 (errAt (A 11)) (errAt (A 11))).run Tryd.prog w = .ok (.bool true) w := eql_err hE 11 11 (by decide) (by decide)
  have cErrOrder := hE.cell 7 (by decide)
  have qErrOrder : (binOp .eql 30 (errAt (A 11)) (errAt (A 7))).run Tryd.prog w = .ok (.bool false) w := eql_err hE 11 7 (by decide) (by decide)
  have cErrKind := hE.cell 12 (by decide)
  have qErrKind : (binOp .eql 30 (errAt (A 11)) (errAt (A 12))).run Tryd.prog w = .ok (.bool false) w := eql_err hE 11 12 (by decide) (by decide)
  clear hE
  go_enter Tryd.func19, Tryd.ntmps19
  go_wp2
  go_ret
  exact ⟨rfl, rfl⟩

set_option maxRecDepth 100000 in
set_option maxHeartbeats 800000 in
theorem num_ErrOrder {A : Nat → Addr} {w : World} (hE : Errs errG A w) : Calls Tryd.prog 19 #[errAt (A 7)] w fun e w' => e = .returned (.int .i64 12) ∧ w = w' := by
  have hn := eql_err_nil (A 7) w
  have cErrArg := hE.cell 0 (by decide)
  have qErrArg : (binOp .eql 30 (errAt (A 7)) (errAt (A 0))).run Tryd.prog w = .ok (.bool false) w := eql_err hE 7 0 (by decide) (by decide)
  have cErrText := hE.cell 1 (by decide)
  have qErrText : (binOp .eql 30 (errAt (A 7)) (errAt (A 1))).run Tryd.prog w = .ok (.bool false) w := eql_err hE 7 1 (by decide) (by decide)
  have cErrMany := hE.cell 2 (by decide)
  have qErrMany : (binOp .eql 30 (errAt (A 7)) (errAt (A 2))).run Tryd.prog w = .ok (.bool false) w := eql_err hE 7 2 (by decide) (by decide)
  have cErrShort := hE.cell 3 (by decide)
  have qErrShort : (binOp .eql 30 (errAt (A 7)) (errAt (A 3))).run Tryd.prog w = .ok (.bool false) w := eql_err hE 7 3 (by decide) (by decide)
  have cErrTwice := hE.cell 4 (by decide)
  have qErrTwice : (binOp .eql 30 (errAt (A 7)) (errAt (A 4))).run Tryd.prog w = .ok (.bool false) w := eql_err hE 7 4 (by decide) (by decide)
  have cErrLost := hE.cell 5 (by decide)
  have qErrLost : (binOp .eql 30 (errAt (A 7)) (errAt (A 5))).run Tryd.prog w = .ok (.bool false) w := eql_err hE 7 5 (by decide) (by decide)
  have cErrFull := hE.cell 6 (by decide)
  have qErrFull : (binOp .eql 30 (errAt (A 7)) (errAt (A 6))).run Tryd.prog w = .ok (.bool false) w := eql_err hE 7 6 (by decide) (by decide)
  have cErrDead := hE.cell 8 (by decide)
  have qErrDead : (binOp .eql 30 (errAt (A 7)) (errAt (A 8))).run Tryd.prog w = .ok (.bool false) w := eql_err hE 7 8 (by decide) (by decide)
  have cErrCorrupt := hE.cell 9 (by decide)
  have qErrCorrupt : (binOp .eql 30 (errAt (A 7)) (errAt (A 9))).run Tryd.prog w = .ok (.bool false) w := eql_err hE 7 9 (by decide) (by decide)
  have cErrStatus := hE.cell 10 (by decide)
  have qErrStatus : (binOp .eql 30 (errAt (A 7)) (errAt (A 10))).run Tryd.prog w = .ok (.bool false) w := eql_err hE 7 10 (by decide) (by decide)
  have cErrTxid := hE.cell 11 (by decide)
  have qErrTxid : (binOp .eql 30 (errAt (A 7)) (errAt (A 11))).run Tryd.prog w = .ok (.bool false) w := eql_err hE 7 11 (by decide) (by decide)
  have cErrOrder := hE.cell 7 (by decide)
  have qErrOrder : (binOp .eql 30 (errAt (A 7)) (errAt (A 7))).run Tryd.prog w = .ok (.bool true) w := eql_err hE 7 7 (by decide) (by decide)
  have cErrKind := hE.cell 12 (by decide)
  have qErrKind : (binOp .eql 30 (errAt (A 7)) (errAt (A 12))).run Tryd.prog w = .ok (.bool false) w := eql_err hE 7 12 (by decide) (by decide)
  clear hE
  go_enter Tryd.func19, Tryd.ntmps19
  go_wp2
  go_ret
  exact ⟨rfl, rfl⟩

set_option maxRecDepth 100000 in
set_option maxHeartbeats 800000 in
theorem num_ErrKind {A : Nat → Addr} {w : World} (hE : Errs errG A w) : Calls Tryd.prog 19 #[errAt (A 12)] w fun e w' => e = .returned (.int .i64 13) ∧ w = w' := by
  have hn := eql_err_nil (A 12) w
  have cErrArg := hE.cell 0 (by decide)
  have qErrArg : (binOp .eql 30 (errAt (A 12)) (errAt (A 0))).run Tryd.prog w = .ok (.bool false) w := eql_err hE 12 0 (by decide) (by decide)
  have cErrText := hE.cell 1 (by decide)
  have qErrText : (binOp .eql 30 (errAt (A 12)) (errAt (A 1))).run Tryd.prog w = .ok (.bool false) w := eql_err hE 12 1 (by decide) (by decide)
  have cErrMany := hE.cell 2 (by decide)
  have qErrMany : (binOp .eql 30 (errAt (A 12)) (errAt (A 2))).run Tryd.prog w = .ok (.bool false) w := eql_err hE 12 2 (by decide) (by decide)
  have cErrShort := hE.cell 3 (by decide)
  have qErrShort : (binOp .eql 30 (errAt (A 12)) (errAt (A 3))).run Tryd.prog w = .ok (.bool false) w := eql_err hE 12 3 (by decide) (by decide)
  have cErrTwice := hE.cell 4 (by decide)
  have qErrTwice : (binOp .eql 30 (errAt (A 12)) (errAt (A 4))).run Tryd.prog w = .ok (.bool false) w := eql_err hE 12 4 (by decide) (by decide)
  have cErrLost := hE.cell 5 (by decide)
  have qErrLost : (binOp .eql 30 (errAt (A 12)) (errAt (A 5))).run Tryd.prog w = .ok (.bool false) w := eql_err hE 12 5 (by decide) (by decide)
  have cErrFull := hE.cell 6 (by decide)
  have qErrFull : (binOp .eql 30 (errAt (A 12)) (errAt (A 6))).run Tryd.prog w = .ok (.bool false) w := eql_err hE 12 6 (by decide) (by decide)
  have cErrDead := hE.cell 8 (by decide)
  have qErrDead : (binOp .eql 30 (errAt (A 12)) (errAt (A 8))).run Tryd.prog w = .ok (.bool false) w := eql_err hE 12 8 (by decide) (by decide)
  have cErrCorrupt := hE.cell 9 (by decide)
  have qErrCorrupt : (binOp .eql 30 (errAt (A 12)) (errAt (A 9))).run Tryd.prog w = .ok (.bool false) w := eql_err hE 12 9 (by decide) (by decide)
  have cErrStatus := hE.cell 10 (by decide)
  have qErrStatus : (binOp .eql 30 (errAt (A 12)) (errAt (A 10))).run Tryd.prog w = .ok (.bool false) w := eql_err hE 12 10 (by decide) (by decide)
  have cErrTxid := hE.cell 11 (by decide)
  have qErrTxid : (binOp .eql 30 (errAt (A 12)) (errAt (A 11))).run Tryd.prog w = .ok (.bool false) w := eql_err hE 12 11 (by decide) (by decide)
  have cErrOrder := hE.cell 7 (by decide)
  have qErrOrder : (binOp .eql 30 (errAt (A 12)) (errAt (A 7))).run Tryd.prog w = .ok (.bool false) w := eql_err hE 12 7 (by decide) (by decide)
  have cErrKind := hE.cell 12 (by decide)
  have qErrKind : (binOp .eql 30 (errAt (A 12)) (errAt (A 12))).run Tryd.prog w = .ok (.bool true) w := eql_err hE 12 12 (by decide) (by decide)
  clear hE
  go_enter Tryd.func19, Tryd.ntmps19
  go_wp2
  go_ret
  exact ⟨rfl, rfl⟩
end Go.Proofs.YtocggojbafediaaDoor.E
