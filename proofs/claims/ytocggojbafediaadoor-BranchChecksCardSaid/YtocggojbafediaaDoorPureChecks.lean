/- BranchChecks, without Go. -/
import Derived.Test.YtocggojbafediaaDoorPureChk
import Derived.Test.YtocggojbafediaaDoorRef4
namespace Go.Proofs.YtocggojbafediaaDoor.Ref
set_option linter.unusedVariables false
set_option linter.unusedSimpArgs false
open Go.RowKit Go.Proofs.YtocggojbafediaaDoorW.PrintWords Go.Proofs.YtocggojbafediaaDoorW.PrintLast Go.Proofs.YtocggojbafediaaDoorW.PrintMore

theorem checks_true (a : Int) (l : List S48) (key : ByteArray) (i : Int) (lk : ByteArray) (lc : Int) (root : Bool) (hl : l.length ≤ 5864062014634) (k : Nat) (hk : 60000000000000000000000000 ≤ k) :
    copselaw8_BranchChecks.f k a l key i lk lc root = some true := by
  obtain ⟨v, hv, hvs, hc⟩ := check_eq2 a l root (by omega) k (by omega)
  unfold copselaw8_BranchChecks.f
  rw [lent_eq a l k (by omega) (by omega), Option.bind_some]
  simp only
  rw [size_eq a l (by omega) k (by omega), Option.bind_some, hv, Option.bind_some, rsize_eq a l (by omega) k (by omega), Option.bind_some, if_pos rfl, num_chk v hvs, Option.bind_some, hc, Option.bind_some, if_pos rfl, returned_eq a l k (by omega) (by omega), Option.bind_some]
end Go.Proofs.YtocggojbafediaaDoor.Ref
