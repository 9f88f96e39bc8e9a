/- The refusal of a number, as a value; and its number. -/
import Derived.Test.YtoenacghkpgnpaaDoorNum
namespace Go.Proofs.YtoenacghkpgnpaaDoor.D
open Go.RowKit Go.Proofs.YtoenacghkpgnpaaDoor.K Go.Proofs.YtoenacghkpgnpaaDoor.E

def errV (B : Nat → Addr) (n : Int) : Value :=
  if n = 1 then errAt (B 0) else if n = 2 then errAt (B 1) else if n = 9 then errAt (B 8) else .nilIface
theorem num_errV {B : Nat → Addr} (n : Int) (hn : n = 0 ∨ n = 1 ∨ n = 2 ∨ n = 9) (w : World) (hE : Errs errG B w) : Calls Tryd.prog 19 #[errV B n] w fun e w' => e = .returned (.int .i64 n) ∧ w = w' := by
  rcases hn with rfl | rfl | rfl | rfl
  · exact num_nil w
  · exact num_ErrArg hE
  · exact num_ErrText hE
  · exact num_ErrCorrupt hE

end Go.Proofs.YtoenacghkpgnpaaDoor.D
