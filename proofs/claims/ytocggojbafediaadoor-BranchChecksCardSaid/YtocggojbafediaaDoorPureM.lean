/- A branch that is lent, and looked at again, without Go. -/
import Derived.Test.YtocggojbafediaaDoorRefA
import Derived.Test.YtocggojbafediaaDoorExtPivot
namespace Go.Proofs.YtocggojbafediaaDoor.Ref
set_option linter.unusedVariables false
set_option linter.unusedSimpArgs false
open Go.RowKit Go.Proofs.YtocggojbafediaaDoorW.PrintWords Go.Proofs.YtocggojbafediaaDoorW.PrintLast Go.Proofs.YtocggojbafediaaDoorW.PrintMore

theorem rdT (xs : List S48) (i : Nat) (h : i < xs.length) : rd_T48 xs (i : Int) = xs[i] := by
  unfold rd_T48
  rw [Int.toNat_natCast, List.getD_eq_getElem?_getD, List.getElem?_eq_getElem h]; rfl
theorem cast1 (i : Nat) : ((i : Int) + 1) = ((i + 1 : Nat) : Int) := by omega
def mark : S48 := ⟨(⟨#[109, 97, 114, 107]⟩ : ByteArray), 77⟩
theorem mark_list : mark.f0.toList = ([109, 97, 114, 107] : List UInt8) := by kernel_rfl
def marks : List S48 := [mark, mark, mark, mark]
theorem lent_eq (a : Int) (l : List S48) (k : Nat) (hl : l.length ≤ 5864062014800) (hk : 5 ≤ k) : copselaw8_lent.f k a l = some (a, l, l ++ marks) := by
  obtain ⟨k, rfl⟩ : ∃ m, k = m + 5 := ⟨k - 5, by omega⟩
  have w1 : wrap64 (0 + 1) = 1 := wrap_id _ (by omega) (by omega)
  have w2 : wrap64 (1 + 1) = 2 := wrap_id _ (by omega) (by omega)
  have w3 : wrap64 (2 + 1) = 3 := wrap_id _ (by omega) (by omega)
  have w4 : wrap64 (3 + 1) = 4 := wrap_id _ (by omega) (by omega)
  unfold copselaw8_lent.f
  rw [if_pos (by simp; omega), List.nil_append]
  rw [show k + 5 = k + 4 + 1 by omega, copselaw8_lent.l0, if_pos (by decide), if_pos (by omega), w1]
  rw [show k + 4 = k + 3 + 1 by omega, copselaw8_lent.l0, if_pos (by decide), if_pos (by simp; omega), w2]
  rw [show k + 3 = k + 2 + 1 by omega, copselaw8_lent.l0, if_pos (by decide), if_pos (by simp; omega), w3]
  rw [show k + 2 = k + 1 + 1 by omega, copselaw8_lent.l0, if_pos (by decide), if_pos (by simp; omega), w4]
  rw [copselaw8_lent.l0, if_neg (by decide), if_pos (by omega), if_pos (by simp; omega)]
  simp [marks, mark]
theorem same_no (p q : S48) (h : p = q) : (!(p.f0.toList == q.f0.toList) || (!(p.f1 == q.f1))) = false := by subst h; simp
theorem returned_l0 (a : Int) (l : List S48) (hl : l.length ≤ 5864062014800) : ∀ (d i k : Nat), i + d = l.length + 4 → d < k → copselaw8_returned.l0 k (l ++ marks) (i : Int) a l = some true
  | 0, i, k, hi, hk => by
    obtain ⟨k, rfl⟩ : ∃ m, k = m + 1 := ⟨k - 1, by omega⟩
    simp only [copselaw8_returned.l0]
    rw [if_neg (by simp [marks]; omega)]
  | d + 1, i, k, hi, hk => by
    obtain ⟨k, rfl⟩ : ∃ m, k = m + 1 := ⟨k - 1, by omega⟩
    have hlen : (l ++ marks).length = l.length + 4 := by simp [marks]
    have ih := returned_l0 a l hl d (i + 1) k (by omega) (by omega)
    rw [copselaw8_returned.l0, if_pos (by omega)]
    by_cases hlt : i < l.length
    · have hq : rd_T48 (l ++ marks) (i : Int) = rd_T48 l (i : Int) := by rw [rdT _ i (by omega), rdT _ i hlt, List.getElem_append_left hlt]
      rw [if_pos (by omega), if_pos (by omega), hq, same_no _ _ rfl, if_neg (by simp), if_neg (by omega), wrap_id _ (by omega) (by omega), cast1]
      exact ih
    · have hq : rd_T48 (l ++ marks) (i : Int) = mark := by
        rw [rdT _ i (by omega), List.getElem_append_right (by omega)]
        have h4 : i - l.length < 4 := by omega
        have : ∀ j (h : j < marks.length), marks[j] = mark := by
          intro j h
          have : j < 4 := h
          match j, this with
          | 0, _ => rfl
          | 1, _ => rfl
          | 2, _ => rfl
          | 3, _ => rfl
        exact this _ _
      rw [if_neg (by omega), if_pos (by omega), if_pos (by omega), hq, if_pos (show mark.f1 = 77 from rfl), if_pos mark_list, wrap_id _ (by omega) (by omega), cast1]
      exact ih
theorem returned_eq (a : Int) (l : List S48) (k : Nat) (hl : l.length ≤ 5864062014800) (hk : 6000000000000 ≤ k) : copselaw8_returned.f k (l ++ marks) a l = some true := by
  unfold copselaw8_returned.f
  rw [wrap_id _ (by omega) (by omega), if_pos (by simp [marks])]
  exact returned_l0 a l hl (l.length + 4) 0 k (by omega) (by omega)
end Go.Proofs.YtocggojbafediaaDoor.Ref
