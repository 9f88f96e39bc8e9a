/- The start of every row: the heap that the program's own start leaves meets the lists; a slice of bytes of an argument, opened. -/
import Derived.Test.YtoenacghkpgnpaaDoorOwn
import Derived.Test.YtoenacghkpgnpaaDoorLaid
import Derived.Test.YtoenacghkpgnpaaDoorCards
import Derived.Test.YtoenacghkpgnpaaDoorTie
import Derived.WalkKit
import Derived.ProofKit
import Derived.OpenShut
import Derived.Lib.SmallJoins
import Derived.LaidMore
import Derived.Stop.Joined
import Derived.Carry
import Derived.SizedLaws
import Derived.ChangeSlices
namespace Go.Proofs.YtoenacghkpgnpaaDoor.Door
open Go.ChangeShapes Go.WideShapes Go.ChangeAt Go.RowKit Go.Proofs.YtoenacghkpgnpaaDoor.K Go.Proofs.YtoenacghkpgnpaaDoor.E Go.Proofs.YtoenacghkpgnpaaDoor.P1

theorem own : ownKnob Tryd.prog.godebug = none := by kernel_rfl
theorem laidOut : laidOutB Tryd.prog = true := by kernel_rfl
theorem metM (os : Os) (args : Array Value) : laidMetH Tryd.prog Rows.metaEncodesRow.laid ((World.doorLaid Tryd.prog 270 os).forCall (fun _ _ => 0) ⟨#[], args, []⟩).memory :=
  laidMetH_of_parts3 (fuel := 8) (laidMet_of_run' 8 (by kernel_rfl) (by kernel_rfl)) (by kernel_rfl) (by kernel_rfl)
theorem metS (os : Os) (args : Array Value) : laidMetH Tryd.prog Rows.sheetSealsRow.laid ((World.doorLaid Tryd.prog 270 os).forCall (fun _ _ => 0) ⟨#[], args, []⟩).memory :=
  laidMetH_of_parts3 (fuel := 8) (laidMet_of_run' 8 (by kernel_rfl) (by kernel_rfl)) (by kernel_rfl) (by kernel_rfl)
theorem shaped (os : Os) (args : Array Value) : ((World.doorLaid Tryd.prog 270 os).forCall (fun _ _ => 0) ⟨#[], args, []⟩).Shaped Tryd.prog := World.shaped_of_RefB (by kernel_rfl) (by kernel_rfl)

theorem bytesU8 : Tryd.prog.bytesOf 5 = 1 := by kernel_rfl
theorem cellsU8 : Tryd.prog.cellsOf 5 = 1 := by kernel_rfl
theorem open_bytes {H : Type} {enc : TypeId × Value → H} {W : World} {n : Nat} {v : Value} {y : DataW H × List MemPlace} (h : DataW.trod enc Tryd.prog W 0 (fun _ => true) true n 25 [v] = some y)
    (hz : ∀ m, m ∈ y.1.weights Tryd.prog 25 → m ≤ reachBytes) :
    ∃ (A : Option Addr) (len cap : Nat) (xs : List Int), v = .slice A len cap ∧ len = xs.length ∧ len ≤ cap ∧ RdB W A xs ∧ (∀ x, x ∈ xs → 0 ≤ x ∧ x ≤ 255) ∧ xs.length ≤ 140737488351232 := by
  rcases open_ints Tryd.underlying25 Tryd.underlying5 cellsU8 h with ⟨h0, -⟩ | ⟨a, len, cap, zs, hv, -, hlc, -, hzl, hy, hcell, hwf⟩
  · simp only [List.cons.injEq, and_true] at h0
    exact ⟨none, 0, 0, [], h0, rfl, Nat.le_refl _, RdB.nil _ _, by simp, by simp⟩
  · simp only [List.cons.injEq, and_true] at hv
    simp only [if_true] at hzl
    have hlen : (zs.take len).length = len := by rw [List.length_take]; omega
    have hw : cap ≤ 140737488351232 := by
      have := hz ((lits .u8 (zs.take len) : List (DataW H)).length + (lits .u8 (zs.drop len) : List (DataW H)).length |> (· * Tryd.prog.bytesOf 5)) (by
        rw [hy]
        unfold DataW.weights
        simp only [Tryd.underlying25, List.mem_cons, true_or])
      rw [bytesU8] at this
      have e1 : (lits .u8 (zs.take len) : List (DataW H)).length = (zs.take len).length := by simp [lits]
      have e2 : (lits .u8 (zs.drop len) : List (DataW H)).length = (zs.drop len).length := by simp [lits]
      simp only [e1, e2, List.length_take, List.length_drop] at this
      have hr : reachBytes = 140737488351232 := rfl
      omega
    refine ⟨some a, len, cap, zs.take len, hv, hlen.symm, hlc, fun _ => ⟨a, rfl, fun j hj => ?_⟩, fun x hx => bounds_u8 (hwf x (List.mem_of_mem_take hx)), by omega⟩
    rw [hlen] at hj
    rw [hcell j (by omega), List.getD_eq_getElem?_getD, List.getD_eq_getElem?_getD, List.getElem?_take, if_pos hj]
end Go.Proofs.YtoenacghkpgnpaaDoor.Door
