/- Lists of links, without Go: what the small functions of the reference and of the statements come to. -/
import Derived.Test.YtocggojbafediaaDoorRefA
import Derived.Test.YtocggojbafediaaDoorExtPivot
namespace Go.Proofs.YtocggojbafediaaDoor.Ref
set_option linter.unusedVariables false
set_option linter.unusedSimpArgs false
open Go.RowKit Go.Proofs.YtocggojbafediaaDoorW.PrintWords Go.Proofs.YtocggojbafediaaDoorW.PrintLast Go.Proofs.YtocggojbafediaaDoorW.PrintMore

theorem rdT (xs : List S48) (i : Nat) (h : i < xs.length) : rd_T48 xs (i : Int) = xs[i] := by
  unfold rd_T48
  rw [Int.toNat_natCast, List.getD_eq_getElem?_getD, List.getElem?_eq_getElem h]; rfl
theorem cast1 (i : Nat) : ((i : Int) + 1) = ((i + 1 : Nat) : Int) := by omega
theorem some_l0 (l : List S48) (t : Nat) (ht : t ≤ l.length) (hl : l.length ≤ 4000000) : ∀ (d i k : Nat) (acc : List S48), i + d = t → acc.length + d ≤ 8000000 → d < k →
    copseref8_some.l0 k l (t : Int) acc (i : Int) = some (acc ++ (l.take t).drop i)
  | 0, i, k, acc, hi, ha, hk => by
    obtain ⟨k, rfl⟩ : ∃ m, k = m + 1 := ⟨k - 1, by omega⟩
    simp only [copseref8_some.l0]
    rw [if_neg (by omega), List.drop_of_length_le (by rw [List.length_take]; omega), List.append_nil]
  | d + 1, i, k, acc, hi, ha, hk => by
    obtain ⟨k, rfl⟩ : ∃ m, k = m + 1 := ⟨k - 1, by omega⟩
    have hlt : i < l.length := by omega
    simp only [copseref8_some.l0]
    rw [if_pos (by omega), if_pos (by omega), if_pos (by omega), if_pos (by omega), wrap_id _ (by omega) (by omega), cast1, rdT l i hlt,
      some_l0 l t ht hl d (i + 1) k _ (by omega) (by simp; omega) (by omega), List.drop_eq_getElem_cons (l := l.take t) (i := i) (by rw [List.length_take]; omega)]
    simp
theorem some_eq (l : List S48) (f t k : Nat) (hf : f ≤ t) (ht : t ≤ l.length) (hl : l.length ≤ 4000000) (hk : 4000001 ≤ k) : copseref8_some.f k l (f : Int) (t : Int) = some ((l.take t).drop f) := by
  unfold copseref8_some.f
  rw [some_l0 l t ht hl (t - f) f k [] (by omega) (by simp; omega) (by omega)]; rfl
theorem some_all (l : List S48) (k : Nat) (hl : l.length ≤ 4000000) (hk : 4000001 ≤ k) : copseref8_some.f k l 0 (l.length : Int) = some l := by
  have h := some_eq l 0 l.length k (Nat.zero_le _) (Nat.le_refl _) hl hk
  simpa using h

def mark : S48 := ⟨(⟨#[109, 97, 114, 107]⟩ : ByteArray), 77⟩
theorem mark_list : mark.f0.toList = ([109, 97, 114, 107] : List UInt8) := by kernel_rfl
def marks : List S48 := [mark, mark, mark, mark]
theorem lent_eq (a : Int) (l : List S48) (k : Nat) (hl : l.length ≤ 4000000) (hk : 5 ≤ k) : copselaw8_lent.f k a l = some (a, l, l ++ marks) := by
  obtain ⟨k, rfl⟩ : ∃ m, k = m + 5 := ⟨k - 5, by omega⟩
  have w1 : wrap64 (0 + 1) = 1 := wrap_id _ (by omega) (by omega)
  have w2 : wrap64 (1 + 1) = 2 := wrap_id _ (by omega) (by omega)
  have w3 : wrap64 (2 + 1) = 3 := wrap_id _ (by omega) (by omega)
  have w4 : wrap64 (3 + 1) = 4 := wrap_id _ (by omega) (by omega)
  unfold copselaw8_lent.f
  rw [if_pos (by simp; omega), List.nil_append]
  rw [show k + 5 = k + 4 + 1 by omega, copselaw8_lent.l0, if_pos (by decide), if_pos (by omega), w1]
  rw [show k + 4 = k + 3 + 1 by omega, copselaw8_lent.l0, if_pos (by decide), if_pos (by simp; omega), w2]
  rw [show k + 3 = k + 2 + 1 by omega, copselaw8_lent.l0, if_pos (by decide), if_pos (by simp; omega), w3]
  rw [show k + 2 = k + 1 + 1 by omega, copselaw8_lent.l0, if_pos (by decide), if_pos (by simp; omega), w4]
  rw [copselaw8_lent.l0, if_neg (by decide), if_pos (by omega), if_pos (by simp; omega)]
  simp [marks, mark]
theorem same_no (p q : S48) (h : p = q) : (!(p.f0.toList == q.f0.toList) || (!(p.f1 == q.f1))) = false := by subst h; simp
theorem returned_l0 (a : Int) (l : List S48) (hl : l.length ≤ 4000000) : ∀ (d i k : Nat), i + d = l.length + 4 → d < k → copselaw8_returned.l0 k (l ++ marks) (i : Int) a l = some true
  | 0, i, k, hi, hk => by
    obtain ⟨k, rfl⟩ : ∃ m, k = m + 1 := ⟨k - 1, by omega⟩
    simp only [copselaw8_returned.l0]
    rw [if_neg (by simp [marks]; omega)]
  | d + 1, i, k, hi, hk => by
    obtain ⟨k, rfl⟩ : ∃ m, k = m + 1 := ⟨k - 1, by omega⟩
    have hlen : (l ++ marks).length = l.length + 4 := by simp [marks]
    have ih := returned_l0 a l hl d (i + 1) k (by omega) (by omega)
    rw [copselaw8_returned.l0, if_pos (by omega)]
    by_cases hlt : i < l.length
    · have hq : rd_T48 (l ++ marks) (i : Int) = rd_T48 l (i : Int) := by rw [rdT _ i (by omega), rdT _ i hlt, List.getElem_append_left hlt]
      rw [if_pos (by omega), if_pos (by omega), hq, same_no _ _ rfl, if_neg (by simp), if_neg (by omega), wrap_id _ (by omega) (by omega), cast1]
      exact ih
    · have hq : rd_T48 (l ++ marks) (i : Int) = mark := by
        rw [rdT _ i (by omega), List.getElem_append_right (by omega)]
        have h4 : i - l.length < 4 := by omega
        have : ∀ j (h : j < marks.length), marks[j] = mark := by
          intro j h
          have : j < 4 := h
          match j, this with
          | 0, _ => rfl
          | 1, _ => rfl
          | 2, _ => rfl
          | 3, _ => rfl
        exact this _ _
      rw [if_neg (by omega), if_pos (by omega), if_pos (by omega), hq, if_pos (show mark.f1 = 77 from rfl), if_pos mark_list, wrap_id _ (by omega) (by omega), cast1]
      exact ih
theorem returned_eq (a : Int) (l : List S48) (k : Nat) (hl : l.length ≤ 4000000) (hk : 4000010 ≤ k) : copselaw8_returned.f k (l ++ marks) a l = some true := by
  unfold copselaw8_returned.f
  rw [wrap_id _ (by omega) (by omega), if_pos (by simp [marks])]
  exact returned_l0 a l hl (l.length + 4) 0 k (by omega) (by omega)
theorem same_l0 (a b : Int) (l : List S48) (hl : l.length ≤ 4000000) : ∀ (d i k : Nat), i + d = l.length → d < k → copseref0_SameBranch.l0 k (i : Int) a l b l = some true
  | 0, i, k, hi, hk => by
    obtain ⟨k, rfl⟩ : ∃ m, k = m + 1 := ⟨k - 1, by omega⟩
    rw [copseref0_SameBranch.l0, if_neg (by omega)]
  | d + 1, i, k, hi, hk => by
    obtain ⟨k, rfl⟩ : ∃ m, k = m + 1 := ⟨k - 1, by omega⟩
    rw [copseref0_SameBranch.l0, if_pos (by omega), if_pos (by omega), if_pos (by omega), same_no _ _ rfl, if_neg (by simp), wrap_id _ (by omega) (by omega), cast1]
    exact same_l0 a b l hl d (i + 1) k (by omega) (by omega)
theorem same_eq (a : Int) (l : List S48) (k : Nat) (hl : l.length ≤ 4000000) (hk : 4000010 ≤ k) : copseref0_SameBranch.f k a l a l = some true := by
  obtain ⟨k, rfl⟩ : ∃ m, k = m + 1 := ⟨k - 1, by omega⟩
  unfold copseref0_SameBranch.f
  rw [if_pos rfl, copseref0_SameBranch.j0, if_neg (by simp)]
  exact same_l0 a a l hl l.length 0 k (by omega) (by omega)
end Go.Proofs.YtocggojbafediaaDoor.Ref
