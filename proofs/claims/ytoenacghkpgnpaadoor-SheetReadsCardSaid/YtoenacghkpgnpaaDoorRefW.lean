/- 'written' of the reference of layer 5 in the words of the printed functions, out of this session's own contract. -/
import Derived.Test.YtoenacghkpgnpaaDoorRef5
namespace Go.Proofs.YtoenacghkpgnpaaDoor.Ref
open Go.RowKit Go.Proofs.YtoenacghkpgnpaaDoorW.PrintWords Go.Proofs.YtoenacghkpgnpaaDoorW.PrintLast Go.Proofs.YtoenacghkpgnpaaDoorW.PrintMore

def copseref5_written.f (_k : Nat) (a0_0 : Int) (a0_1 : Int) (a0_2 : Int) (a1 : Int) : Option (List Int) := some (R5.lit (IntKind.u64.wrap a0_0) (IntKind.u64.wrap a0_1) a0_2 (IntKind.u64.wrap a1))
theorem copseref5_written.mono : ∀ a0 a1 a2 a3 k, LeO (copseref5_written.f k a0 a1 a2 a3) (copseref5_written.f (k + 1) a0 a1 a2 a3) := fun _ _ _ _ _ _ h => h
theorem copseref5_written.calls (k : Nat) (a0_0 : Int) (a0_1 : Int) (a0_2 : Int) (a1 : Int) (r : List Int) (w : World) (h : copseref5_written.f k a0_0 a0_1 a0_2 a1 = some r) :
    Calls Tryd.prog 52 #[.agg #[.int .i64 a0_0, .int .i64 a0_1, .int .u64 a0_2], .int .u32 a1] w fun e w' => ∃ v0_ : Value, e = .returned (v0_) ∧ Kd.R (Kd.int .u8) 5 w' w.heap.size (fun _ => True) v0_ r ∧ Below w.heap.size w w' := by
  obtain rfl := Option.some.inj h
  exact (R5.rwritten_calls a0_0 a0_1 a0_2 a1 w).mono fun e w' ⟨v, he, ho, hb⟩ => ⟨v, he, ho.to (fun _ _ => trivial), hb⟩
end Go.Proofs.YtoenacghkpgnpaaDoor.Ref
