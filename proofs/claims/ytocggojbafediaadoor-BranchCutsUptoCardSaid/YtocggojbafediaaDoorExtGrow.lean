/- slices.Grow of no links: room for so many. -/
import Derived.Test.YtocggojbafediaaDoorRef0
namespace Go.Proofs.YtocggojbafediaaDoor.Ref
set_option linter.unusedVariables false
set_option linter.unusedSimpArgs false
open Go.RowKit Go.Proofs.YtocggojbafediaaDoorW.PrintWords Go.Proofs.YtocggojbafediaaDoorW.PrintLast Go.Proofs.YtocggojbafediaaDoorW.PrintMore

def Grow_Link.f (l0 : List S48) (a1 : Int) : Option (List S48) := if l0 = [] ∧ 0 ≤ a1 ∧ a1 < 5864062014805 then some [] else none
set_option maxHeartbeats 2000000 in
set_option maxRecDepth 100000 in
theorem Grow_Link.calls (A0 : Option Addr) (c0 : Nat) (l0 : List S48) (a1 : Int) (r : List S48) (w : World) (hr0 : Kd.C k48 w A0 l0.length l0) (hc0 : (if A0.isSome = true then 1 else 0) + c0 ≤ l0.length) (h : Grow_Link.f l0 a1 = some r) :
    Calls Tryd.prog 101 #[.slice A0 l0.length c0, .int .i64 a1] w fun e w' => ∃ v0_ : Value, e = .returned v0_ ∧ Kd.R k48 48 w' w.heap.size (fun _ => True) v0_ r ∧ Below w.heap.size w w' := by
  unfold Grow_Link.f at h
  by_cases hl : l0 = [] ∧ 0 ≤ a1 ∧ a1 < 5864062014805
  case neg => rw [if_neg hl] at h; cases h
  rw [if_pos hl] at h
  obtain rfl : [] = r := Option.some.inj h
  clear h hr0
  obtain ⟨rfl, h0, h1⟩ := hl
  obtain rfl : A0 = none := by
    cases A0 with
    | none => rfl
    | some ad => simp at hc0
  obtain rfl : c0 = 0 := by simpa using hc0
  clear hc0
  obtain ⟨n, rfl⟩ := Int.eq_ofNat_of_zero_le h0
  simp only [List.length_nil]
  by_cases hn : n = 0
  · subst hn
    clear h0 h1
    go_enter Tryd.func101, Tryd.ntmps101
    go_wp2
    go_ret
    exact ⟨_, rfl, Kd.R_nil _ _ _ _ _, Below.refl _ _⟩
  · have hw0 : wrap64 (n : Int) = (n : Int) := by unfold wrap64; omega
    obtain ⟨m, hm⟩ : ∃ m : Int, wrap64 (n : Int) = m := ⟨_, rfl⟩
    have hmw : IntKind.i64.wrap (n : Int) = m := (i64_w _).trans hm
    have HW := Aside0.mk (hm.symm.trans hw0 : m = (n : Int))
    have hwp : decide (0 < m) = true := by rw [HW.out]; exact decide_eq_true (by omega)
    clear hw0
    have HL := Aside0.mk h1
    clear h1
    have hp : (0 : Int) < (n : Int) := by omega
    have hp' : decide ((0 : Int) < (n : Int)) = true := decide_eq_true hp
    go_enter Tryd.func101, Tryd.ntmps101
    go_wp2_with (first
      | ((with_reducible refine gate_builtin (b := .append) (xs := #[.tmp 20, .tmp 21]) rfl ?_); at_builtin; refine Kd.R_append_zeros k48 (w0 := w) w.heap.size rfl (.tmp 20) (.tmp 21) 22 3 48 (.agg #[(.string ⟨#[]⟩), (.int .i64 0)]) 24 rfl Tryd.underlying22 Tryd.underlying3 info48 rfl (by decide) (by omega) (.slice none 0 0) [] z48 m (fun _ => True) rfl rfl (k48_mkM _ _ _ z48) (fun _ _ => trivial) (Kd.R_nil _ _ _ _ _) (by rw [HW.out]; exact h0) (Below.refl _ _) (Nat.le_refl _) (by rw [HW.out]; simp only [List.length_nil, Int.toNat_natCast]; have := HL.out; omega) ?_; intro v1 w1 ho hb hg_ hat_; obtain ⟨A1, c1, hv1, hlc, hC⟩ := Kd.R_reads ho; subst hv1; have HO := Aside0.mk ho; have HB := Aside0.mk hb; clear ho hb hg_ hat_ hC; clear hlc)
      | fail)
    go_ret
    exact ⟨_, rfl, Kd.R_take (m := 0) HO.out (Nat.zero_le _), HB.out⟩
end Go.Proofs.YtocggojbafediaaDoor.Ref
