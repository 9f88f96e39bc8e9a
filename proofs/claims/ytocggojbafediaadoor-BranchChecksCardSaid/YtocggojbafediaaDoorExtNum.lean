/- The number of a refusal, said of the sentinels as the printed functions know them. -/
import Derived.Test.YtocggojbafediaaDoorNum
import Derived.Test.YtocggojbafediaaDoorRef0
namespace Go.Proofs.YtocggojbafediaaDoor.Ref
set_option linter.unusedVariables false
set_option linter.unusedSimpArgs false
open Go.RowKit Go.Proofs.YtocggojbafediaaDoorW.PrintWords Go.Proofs.YtocggojbafediaaDoorW.PrintLast Go.Proofs.YtocggojbafediaaDoorW.PrintMore Go.Proofs.YtocggojbafediaaDoor.E

/-- Of a variable that holds a sentinel: its number. -/
def nG (g : Nat) : Int := if g = 0 then 1 else if g = 1 then 2 else if g = 2 then 3 else if g = 3 then 4 else if g = 4 then 5 else if g = 5 then 6 else if g = 6 then 7 else if g = 8 then 8 else if g = 9 then 9 else if g = 10 then 10 else if g = 11 then 11 else if g = 7 then 12 else 13
theorem nG_in : ∀ g ∈ errG, nG g ∈ ([1, 2, 3, 4, 5, 6, 7, 8, 9, 10, 11, 12, 13] : List Int) ∧ gE (nG g) = g := by decide
theorem nG_inj : ∀ g ∈ errG, ∀ h ∈ errG, nG g = nG h → g = h := by decide
theorem gE_in : ∀ c ∈ ([1, 2, 3, 4, 5, 6, 7, 8, 9, 10, 11, 12, 13] : List Int), gE c ∈ errG ∧ nG (gE c) = c := by decide
theorem gE_inj : ∀ c ∈ ([1, 2, 3, 4, 5, 6, 7, 8, 9, 10, 11, 12, 13] : List Int), ∀ d ∈ ([1, 2, 3, 4, 5, 6, 7, 8, 9, 10, 11, 12, 13] : List Int), gE c = gE d → c = d := by decide
theorem Sen.errs {B_ : Int → Addr} {w : World} (hE : Sen [1, 2, 3, 4, 5, 6, 7, 8, 9, 10, 11, 12, 13] B_ w) : Errs errG (fun g => B_ (nG g)) w :=
  ⟨fun g hg => by
    have h := hE.cell (nG g) (nG_in g hg).1
    rw [(nG_in g hg).2] at h
    exact h, fun g hg => hE.row _ (nG_in g hg).1, fun g h hg hh e => nG_inj g hg h hh (hE.apart _ _ (nG_in g hg).1 (nG_in h hh).1 e)⟩

section
variable {B_ : Int → Addr} {w : World}
theorem num_e1 (hE : Sen [1, 2, 3, 4, 5, 6, 7, 8, 9, 10, 11, 12, 13] B_ w) : Calls Tryd.prog 19 #[errW B_ (some 1)] w fun e w' => e = .returned (.int .i64 1) ∧ w = w' := num_ErrArg (A := fun g => B_ (nG g)) hE.errs
theorem num_e2 (hE : Sen [1, 2, 3, 4, 5, 6, 7, 8, 9, 10, 11, 12, 13] B_ w) : Calls Tryd.prog 19 #[errW B_ (some 2)] w fun e w' => e = .returned (.int .i64 2) ∧ w = w' := num_ErrText (A := fun g => B_ (nG g)) hE.errs
theorem num_e3 (hE : Sen [1, 2, 3, 4, 5, 6, 7, 8, 9, 10, 11, 12, 13] B_ w) : Calls Tryd.prog 19 #[errW B_ (some 3)] w fun e w' => e = .returned (.int .i64 3) ∧ w = w' := num_ErrMany (A := fun g => B_ (nG g)) hE.errs
theorem num_e4 (hE : Sen [1, 2, 3, 4, 5, 6, 7, 8, 9, 10, 11, 12, 13] B_ w) : Calls Tryd.prog 19 #[errW B_ (some 4)] w fun e w' => e = .returned (.int .i64 4) ∧ w = w' := num_ErrShort (A := fun g => B_ (nG g)) hE.errs
theorem num_e5 (hE : Sen [1, 2, 3, 4, 5, 6, 7, 8, 9, 10, 11, 12, 13] B_ w) : Calls Tryd.prog 19 #[errW B_ (some 5)] w fun e w' => e = .returned (.int .i64 5) ∧ w = w' := num_ErrTwice (A := fun g => B_ (nG g)) hE.errs
theorem num_e6 (hE : Sen [1, 2, 3, 4, 5, 6, 7, 8, 9, 10, 11, 12, 13] B_ w) : Calls Tryd.prog 19 #[errW B_ (some 6)] w fun e w' => e = .returned (.int .i64 6) ∧ w = w' := num_ErrLost (A := fun g => B_ (nG g)) hE.errs
theorem num_e7 (hE : Sen [1, 2, 3, 4, 5, 6, 7, 8, 9, 10, 11, 12, 13] B_ w) : Calls Tryd.prog 19 #[errW B_ (some 7)] w fun e w' => e = .returned (.int .i64 7) ∧ w = w' := num_ErrFull (A := fun g => B_ (nG g)) hE.errs
theorem num_e8 (hE : Sen [1, 2, 3, 4, 5, 6, 7, 8, 9, 10, 11, 12, 13] B_ w) : Calls Tryd.prog 19 #[errW B_ (some 8)] w fun e w' => e = .returned (.int .i64 8) ∧ w = w' := num_ErrDead (A := fun g => B_ (nG g)) hE.errs
theorem num_e9 (hE : Sen [1, 2, 3, 4, 5, 6, 7, 8, 9, 10, 11, 12, 13] B_ w) : Calls Tryd.prog 19 #[errW B_ (some 9)] w fun e w' => e = .returned (.int .i64 9) ∧ w = w' := num_ErrCorrupt (A := fun g => B_ (nG g)) hE.errs
theorem num_e10 (hE : Sen [1, 2, 3, 4, 5, 6, 7, 8, 9, 10, 11, 12, 13] B_ w) : Calls Tryd.prog 19 #[errW B_ (some 10)] w fun e w' => e = .returned (.int .i64 10) ∧ w = w' := num_ErrStatus (A := fun g => B_ (nG g)) hE.errs
theorem num_e11 (hE : Sen [1, 2, 3, 4, 5, 6, 7, 8, 9, 10, 11, 12, 13] B_ w) : Calls Tryd.prog 19 #[errW B_ (some 11)] w fun e w' => e = .returned (.int .i64 11) ∧ w = w' := num_ErrTxid (A := fun g => B_ (nG g)) hE.errs
theorem num_e12 (hE : Sen [1, 2, 3, 4, 5, 6, 7, 8, 9, 10, 11, 12, 13] B_ w) : Calls Tryd.prog 19 #[errW B_ (some 12)] w fun e w' => e = .returned (.int .i64 12) ∧ w = w' := num_ErrOrder (A := fun g => B_ (nG g)) hE.errs
theorem num_e13 (hE : Sen [1, 2, 3, 4, 5, 6, 7, 8, 9, 10, 11, 12, 13] B_ w) : Calls Tryd.prog 19 #[errW B_ (some 13)] w fun e w' => e = .returned (.int .i64 13) ∧ w = w' := num_ErrKind (A := fun g => B_ (nG g)) hE.errs
end
def copsekit_Num.f (a0 : Option Int) : Option Int := match a0 with | none => some 0 | some c => if 1 ≤ c ∧ c ≤ 13 then some c else none
theorem copsekit_Num.calls {B_ : Int → Addr} (a0 : Option Int) (r : Int) (w : World) (hE : Sen [1, 2, 3, 4, 5, 6, 7, 8, 9, 10, 11, 12, 13] B_ w) (h : copsekit_Num.f a0 = some r) :
    Calls Tryd.prog 19 #[errW B_ a0] w fun e w' => e = .returned (.int .i64 r) ∧ Drawn0 w w' := by
  have main : Calls Tryd.prog 19 #[errW B_ a0] w fun e w' => e = .returned (.int .i64 r) ∧ w = w' := by
    cases a0 with
    | none => obtain rfl : 0 = r := Option.some.inj h; exact num_nil w
    | some c =>
      unfold copsekit_Num.f at h
      by_cases hc : 1 ≤ c ∧ c ≤ 13
      · simp only [if_pos hc] at h
        obtain rfl : c = r := Option.some.inj h
        have hh : c = 1 ∨ c = 2 ∨ c = 3 ∨ c = 4 ∨ c = 5 ∨ c = 6 ∨ c = 7 ∨ c = 8 ∨ c = 9 ∨ c = 10 ∨ c = 11 ∨ c = 12 ∨ c = 13 := by omega
        rcases hh with rfl | rfl | rfl | rfl | rfl | rfl | rfl | rfl | rfl | rfl | rfl | rfl | rfl
        · exact num_e1 hE
        · exact num_e2 hE
        · exact num_e3 hE
        · exact num_e4 hE
        · exact num_e5 hE
        · exact num_e6 hE
        · exact num_e7 hE
        · exact num_e8 hE
        · exact num_e9 hE
        · exact num_e10 hE
        · exact num_e11 hE
        · exact num_e12 hE
        · exact num_e13 hE
      · simp only [if_neg hc] at h
        cases h
  exact main.mono fun _ _ ⟨h1, h2⟩ => ⟨h1, h2 ▸ Drawn0.refl _⟩
end Go.Proofs.YtocggojbafediaaDoor.Ref
