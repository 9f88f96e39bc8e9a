/- What the bound of a narrowed statement gives of a branch. -/
import Derived.Test.YtocggojbafediaaDoorRows
import Derived.Test.YtocggojbafediaaDoorDoor
namespace Go.Proofs.YtocggojbafediaaDoor.Bulk
set_option linter.unusedVariables false
set_option linter.unusedSimpArgs false
open Go.Proofs.YtocggojbafediaaDoor.Ref

theorem one_le {H : Type} (d : DataW H) : 1 ≤ Rows.uptoBulk d := by
  cases d with
  | lit l => cases l <;> simp [Rows.uptoBulk]
  | nil => simp [Rows.uptoBulk]
  | ptr d => simp [Rows.uptoBulk]
  | slice elems spare => simp [Rows.uptoBulk]
  | agg parts => simp [Rows.uptoBulk]
  | iface t d => simp [Rows.uptoBulk]
  | map entries => simp [Rows.uptoBulk]
  | held h => simp [Rows.uptoBulk]
theorem part_le {H : Type} {d : DataW H} {l : List (DataW H)} (h : d ∈ l) : Rows.uptoBulk d ≤ Rows.uptoBulkAll l := by
  induction l with
  | nil => cases h
  | cons x r ih =>
    simp only [Rows.uptoBulkAll]
    cases List.mem_cons.1 h with
    | inl e => subst e; omega
    | inr e => have := ih e; omega
theorem length_le {H : Type} (l : List (DataW H)) : l.length ≤ Rows.uptoBulkAll l := by
  induction l with
  | nil => simp [Rows.uptoBulkAll]
  | cons x r ih => have := one_le x; simp only [Rows.uptoBulkAll, List.length_cons]; omega
theorem small {H : Type} {l : List (DataW H)} (hk : Rows.uptoSmall H l = true) : Rows.uptoBulkAll l ≤ 1048576 := of_decide_eq_true hk
theorem agg_le {H : Type} {d : DataW H} {ds : List (DataW H)} (i : Nat) (h : ds[i]? = some d) : Rows.uptoBulk d ≤ Rows.uptoBulk (.agg ds) := by
  have := part_le (List.mem_of_getElem? h)
  simp only [Rows.uptoBulk]
  omega
/-- A branch's links, and their keys. -/
theorem branch_le {H : Type} {d : DataW H} {l : List S48} {c : Nat} (h : Door.DB d l c) : l.length ≤ Rows.uptoBulk d ∧ ∀ x ∈ l, x.f0.size ≤ Rows.uptoBulk d := by
  obtain ⟨d0, d1, rfl, ⟨-, rfl⟩ | ⟨ds, sp, rfl, h1, h2, h3⟩⟩ := h
  · exact ⟨by simp, by simp⟩
  · have e : Rows.uptoBulk (.slice ds sp) ≤ Rows.uptoBulk (.agg [d0, .slice ds sp]) := agg_le 1 rfl
    have e2 : Rows.uptoBulkAll ds ≤ Rows.uptoBulk (.slice ds sp) := by simp only [Rows.uptoBulk]; omega
    refine ⟨by have := length_le ds; omega, fun x hx => ?_⟩
    obtain ⟨i, hi, rfl⟩ := List.getElem_of_mem hx
    obtain ⟨d2, hd⟩ := h3 i hi
    have e3 := part_le (List.mem_of_getElem? hd)
    have e4 : l[i].f0.size ≤ Rows.uptoBulk (.agg [.lit (.string l[i].f0.data.toList), d2] : DataW H) := by
      have : l[i].f0.data.toList.length = l[i].f0.size := by rw [Array.length_toList]; rfl
      simp only [Rows.uptoBulk, Rows.uptoBulkAll]
      omega
    omega
end Go.Proofs.YtocggojbafediaaDoor.Bulk
