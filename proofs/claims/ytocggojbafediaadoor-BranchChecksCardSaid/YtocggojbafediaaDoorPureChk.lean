/- What may be a branch, without Go: the program's way and the document's are one. -/
import Derived.Test.YtocggojbafediaaDoorPureM
import Derived.Test.YtocggojbafediaaDoorExtChk
import Derived.Test.YtocggojbafediaaDoorExtNum
namespace Go.Proofs.YtocggojbafediaaDoor.Ref
set_option linter.unusedVariables false
set_option linter.unusedSimpArgs false
open Go.RowKit Go.Proofs.YtocggojbafediaaDoorW.PrintWords Go.Proofs.YtocggojbafediaaDoorW.PrintLast Go.Proofs.YtocggojbafediaaDoorW.PrintMore

/-! ### The size -/
/-- The size's sum, as the machine adds. -/
def szF (acc : Int) : List S48 → Int
  | [] => acc
  | x :: r => szF (wrap64 (acc + wrap64 (7 + (x.f0.size : Int)))) r
theorem wrap_mid (x s : Int) : wrap64 (wrap64 (x + 7) + s) = wrap64 (x + wrap64 (7 + s)) := by unfold wrap64; omega
theorem size_l0 (l : List S48) (hl : l.length ≤ 5864062014800) : ∀ (d i k : Nat) (acc : Int), i + d = l.length → d < k →
    branch_Size.l0 k acc l (l.length : Int) (i : Int) = some (szF acc (l.drop i))
  | 0, i, k, acc, hi, hk => by
    obtain ⟨k, rfl⟩ : ∃ m, k = m + 1 := ⟨k - 1, by omega⟩
    rw [branch_Size.l0, if_neg (by omega), List.drop_of_length_le (by omega)]; rfl
  | d + 1, i, k, acc, hi, hk => by
    obtain ⟨k, rfl⟩ : ∃ m, k = m + 1 := ⟨k - 1, by omega⟩
    have hlt : i < l.length := by omega
    rw [branch_Size.l0, if_pos (by omega), if_pos (by omega), if_pos (by omega), branch_linkSize.f, Option.bind_some, rdT l i hlt, wrap_id ((i : Int) + 1) (by omega) (by omega), cast1,
      size_l0 l hl d (i + 1) k _ (by omega) (by omega), List.drop_eq_getElem_cons hlt]
    rfl
theorem size_eq (a : Int) (l : List S48) (hl : l.length ≤ 5864062014800) (k : Nat) (hk : l.length < k) : branch_Size.f k a l = some (szF 6 l) := by
  unfold branch_Size.f
  have h := size_l0 l hl l.length 0 k 6 (by omega) hk
  simpa using h
theorem rsize_l0 (a : Int) (l : List S48) (hl : l.length ≤ 5864062014800) : ∀ (d i k : Nat) (acc : Int), i + d = l.length → d < k →
    copseref8_Size.l0 k acc (i : Int) a l = some (szF acc (l.drop i))
  | 0, i, k, acc, hi, hk => by
    obtain ⟨k, rfl⟩ : ∃ m, k = m + 1 := ⟨k - 1, by omega⟩
    rw [copseref8_Size.l0, if_neg (by omega), List.drop_of_length_le (by omega)]; rfl
  | d + 1, i, k, acc, hi, hk => by
    obtain ⟨k, rfl⟩ : ∃ m, k = m + 1 := ⟨k - 1, by omega⟩
    have hlt : i < l.length := by omega
    rw [copseref8_Size.l0, if_pos (by omega), if_pos (by omega), rdT l i hlt, wrap_mid, wrap_id ((i : Int) + 1) (by omega) (by omega), cast1,
      rsize_l0 a l hl d (i + 1) k _ (by omega) (by omega), List.drop_eq_getElem_cons hlt]
    rfl
theorem rsize_eq (a : Int) (l : List S48) (hl : l.length ≤ 5864062014800) (k : Nat) (hk : l.length < k) : copseref8_Size.f k a l = some (szF 6 l) := by
  unfold copseref8_Size.f
  have h := rsize_l0 a l hl l.length 0 k 6 (by omega) hk
  simpa using h

/-! ### The children -/
theorem children_l0 (l : List S48) (hn : l.length ≤ 5864062014800) : ∀ (d i k : Nat) (acc : List Int), i + d = l.length → acc.length ≤ 1 + i → d < k →
    branch_children.l0 k acc l (l.length : Int) (i : Int) = some (acc ++ (l.drop i).map (·.f1))
  | 0, i, k, acc, hi, h1, hk => by
    obtain ⟨k, rfl⟩ : ∃ m, k = m + 1 := ⟨k - 1, by omega⟩
    rw [branch_children.l0, if_neg (by omega), List.drop_of_length_le (by omega)]; simp
  | d + 1, i, k, acc, hi, h1, hk => by
    obtain ⟨k, rfl⟩ : ∃ m, k = m + 1 := ⟨k - 1, by omega⟩
    have hlt : i < l.length := by omega
    rw [branch_children.l0, if_pos (by omega), if_pos (by omega), if_pos (by omega), if_pos (by omega), rdT l i hlt, wrap_id _ (by omega) (by omega), cast1,
      children_l0 l hn d (i + 1) k _ (by omega) (by simp; omega) (by omega), List.drop_eq_getElem_cons hlt]
    simp only [List.map_cons, List.append_assoc, List.singleton_append]
theorem children_eq (a : Int) (l : List S48) (hn : l.length ≤ 5864062014800) (k : Nat) (hk : l.length < k) : branch_children.f k a l = some (a :: l.map (·.f1)) := by
  unfold branch_children.f
  have h := children_l0 l hn l.length 0 k [a] (by omega) (by simp) hk
  simpa using h

/-! ### No two alike -/
theorem sorted_pair (zs : List Int) : (sorted zs).Pairwise fun x y => decide (x ≤ y) = true :=
  List.pairwise_mergeSort (fun a b c h1 h2 => by simp at h1 h2 ⊢; omega) (fun a b => by simp; omega) zs
theorem keeps_all (d : List Int) (hs : d.Pairwise fun x y => decide (x ≤ y) = true) : (Lib.compact d).length = d.length ↔ d.Nodup := by
  have e : (Lib.compact d).length = ((List.range d.length).filter (Lib.keeps d.toArray)).length := by simp [Lib.compact, Lib.compactUpTo]
  rw [e]
  have e2 : ((List.range d.length).filter (Lib.keeps d.toArray)).length = d.length ↔ ∀ j, j < d.length → Lib.keeps d.toArray j = true := by
    conv => lhs; rhs; rw [← List.length_range (n := d.length)]
    rw [List.length_filter_eq_length_iff]
    simp
  rw [e2]
  constructor
  · intro h
    rw [List.nodup_iff_pairwise_ne, List.pairwise_iff_getElem]
    have step : ∀ j (h1 : j + 1 < d.length), d[j] < d[j + 1] := by
      intro j h1
      have a := h (j + 1) h1
      have b := List.pairwise_iff_getElem.1 hs j (j + 1) (by omega) h1 (by omega)
      simp [Lib.keeps, getElem!_pos, h1, show j < d.length by omega] at a b
      omega
    have far : ∀ n j (h1 : j + n + 1 < d.length), d[j]'(by omega) < d[j + n + 1] := by
      intro n
      induction n with
      | zero => intro j h1; exact step j h1
      | succ n ih =>
        intro j h1
        have a := ih j (by omega)
        have b := step (j + n + 1) (by omega)
        exact Int.lt_trans a b
    intro i j hi hj hij
    have := far (j - i - 1) i (by omega)
    have e3 : i + (j - i - 1) + 1 = j := by omega
    simp only [e3] at this
    omega
  · intro h j hj
    simp only [Lib.keeps, decide_eq_true_eq]
    rcases Nat.eq_zero_or_pos j with h0 | h0
    · exact Or.inl h0
    · right
      rw [List.nodup_iff_pairwise_ne, List.pairwise_iff_getElem] at h
      have := h (j - 1) j (by omega) hj (by omega)
      simp [getElem!_pos, hj, show j - 1 < d.length by omega]
      exact fun e => this e.symm
theorem compact_iff (zs : List Int) : (Lib.compact (sorted zs)).length = zs.length ↔ zs.Nodup := by
  rw [← sorted_length zs, keeps_all _ (sorted_pair zs)]
  exact (List.mergeSort_perm zs _).nodup_iff

/-- Is the child of the i-th link the first one, or an earlier link's? -/
def hitAt (a : Int) (l : List S48) (i : Nat) : Prop := ∃ h : i < l.length, l[i].f1 = a ∨ ∃ j, ∃ hj : j < i, l[i].f1 = (l[j]'(by omega)).f1
open Classical in
theorem alike_l1 (a : Int) (l : List S48) (hn : l.length ≤ 5864062014800) (i : Nat) (hi : i < l.length) (K : Nat) (hrec : ∀ k, K ≤ k → copseref8_alike.l0 k ((i + 1 : Nat) : Int) a l = some (decide (∃ j, i + 1 ≤ j ∧ hitAt a l j))) :
    ∀ (d j k : Nat), j + d = i → d + K + 1 ≤ k → copseref8_alike.l1 k (i : Int) (j : Int) a l = some (decide ((∃ m, ∃ h : m < i, j ≤ m ∧ l[i].f1 = (l[m]'(by omega)).f1) ∨ ∃ j, i + 1 ≤ j ∧ hitAt a l j))
  | 0, j, k, hj, hk => by
    obtain ⟨k, rfl⟩ : ∃ m, k = m + 1 := ⟨k - 1, by omega⟩
    rw [copseref8_alike.l1, if_neg (by omega), wrap_id _ (by omega) (by omega), cast1, hrec k (by omega)]
    congr 1
    rw [decide_eq_decide]
    exact ⟨Or.inr, fun h => h.elim (fun ⟨m, h1, h2, _⟩ => by omega) id⟩
  | d + 1, j, k, hj, hk => by
    obtain ⟨k, rfl⟩ : ∃ m, k = m + 1 := ⟨k - 1, by omega⟩
    have hjl : j < l.length := by omega
    rw [copseref8_alike.l1, if_pos (by omega), if_pos (by omega), if_pos (by omega), if_pos (by omega), if_pos (by omega), rdT l i hi, rdT l j hjl]
    by_cases he : l[i].f1 = l[j].f1
    · rw [if_pos he, decide_eq_true (Or.inl ⟨j, by omega, Nat.le_refl _, he⟩)]
    · rw [if_neg he, wrap_id _ (by omega) (by omega), cast1, alike_l1 a l hn i hi K hrec d (j + 1) k (by omega) (by omega)]
      congr 1
      rw [decide_eq_decide]
      refine ⟨fun h => h.elim (fun ⟨m, h1, h2, h3⟩ => Or.inl ⟨m, h1, by omega, h3⟩) Or.inr, fun h => h.elim (fun ⟨m, h1, h2, h3⟩ => ?_) Or.inr⟩
      by_cases e : m = j
      · subst e; exact absurd h3 he
      · exact Or.inl ⟨m, h1, by omega, h3⟩
open Classical in
theorem alike_l0 (a : Int) (l : List S48) (hn : l.length ≤ 5864062014800) : ∀ (d i k : Nat), i + d = l.length → d * (l.length + 3) + 1 ≤ k → copseref8_alike.l0 k (i : Int) a l = some (decide (∃ j, i ≤ j ∧ hitAt a l j))
  | 0, i, k, hi, hk => by
    obtain ⟨k, rfl⟩ : ∃ m, k = m + 1 := ⟨k - 1, by omega⟩
    rw [copseref8_alike.l0, if_neg (by omega), decide_eq_false (fun ⟨j, h1, h2, _⟩ => by omega)]
  | d + 1, i, k, hi, hk => by
    have hm : (d + 1) * (l.length + 3) = d * (l.length + 3) + (l.length + 3) := Nat.succ_mul _ _
    obtain ⟨k, rfl⟩ : ∃ m, k = m + 1 := ⟨k - 1, by omega⟩
    have hlt : i < l.length := by omega
    rw [copseref8_alike.l0, if_pos (by omega), if_pos (by omega), rdT l i hlt]
    by_cases he : l[i].f1 = a
    · rw [if_pos he, decide_eq_true ⟨i, Nat.le_refl _, hlt, Or.inl he⟩]
    · rw [if_neg he]
      have h := alike_l1 a l hn i hlt (d * (l.length + 3) + 1) (fun k hk => alike_l0 a l hn d (i + 1) k (by omega) hk) i 0 k (by omega) (by omega)
      rw [show ((0 : Nat) : Int) = 0 from rfl] at h
      rw [h]
      congr 1
      rw [decide_eq_decide]
      constructor
      · rintro (⟨m, h1, h2, h3⟩ | ⟨j, h1, h2⟩)
        · exact ⟨i, Nat.le_refl _, hlt, Or.inr ⟨m, h1, h3⟩⟩
        · exact ⟨j, by omega, h2⟩
      · rintro ⟨j, h1, h2⟩
        by_cases e : j = i
        · subst e
          obtain ⟨_, h3 | ⟨m, h4, h5⟩⟩ := h2
          · exact absurd h3 he
          · exact Or.inl ⟨m, h4, Nat.zero_le _, h5⟩
        · exact Or.inr ⟨j, by omega, h2⟩
theorem hit_iff (a : Int) (l : List S48) : (∃ j, 0 ≤ j ∧ hitAt a l j) ↔ ¬ (a :: l.map (·.f1)).Nodup := by
  rw [List.nodup_cons]
  constructor
  · rintro ⟨j, -, hj, h | ⟨m, hm, h⟩⟩ ⟨h1, h2⟩
    · exact h1 (List.mem_map.2 ⟨l[j], List.getElem_mem hj, h⟩)
    · rw [List.nodup_iff_pairwise_ne, List.pairwise_iff_getElem] at h2
      exact h2 m j (by simp; omega) (by simpa using hj) hm (by simp [h])
  · intro hn
    by_cases h1 : a ∈ l.map (·.f1)
    · obtain ⟨x, hx, e⟩ := List.mem_map.1 h1
      obtain ⟨i, hi, rfl⟩ := List.getElem_of_mem hx
      exact ⟨i, Nat.zero_le _, hi, Or.inl e⟩
    · by_cases h2 : (l.map (·.f1)).Nodup
      · exact absurd ⟨h1, h2⟩ hn
      · rw [List.nodup_iff_pairwise_ne, List.pairwise_iff_getElem] at h2
        obtain ⟨i, h2⟩ := Classical.not_forall.1 h2
        obtain ⟨j, h2⟩ := Classical.not_forall.1 h2
        obtain ⟨hi, h2⟩ := Classical.not_forall.1 h2
        obtain ⟨hj, h2⟩ := Classical.not_forall.1 h2
        obtain ⟨hij, h2⟩ := Classical.not_forall.1 h2
        simp only [List.length_map] at hi hj
        refine ⟨j, Nat.zero_le _, hj, Or.inr ⟨i, hij, ?_⟩⟩
        have := Classical.not_not.1 h2
        simpa using this.symm
theorem alike_eq (a : Int) (l : List S48) (hn : l.length ≤ 5864062014800) (k : Nat) (hk : 40000000000000000000000000 ≤ k) : copseref8_alike.f k a l = some (decide (¬ (a :: l.map (·.f1)).Nodup)) := by
  have hb : l.length * (l.length + 3) ≤ 5864062014800 * 5864062014803 := Nat.mul_le_mul hn (by omega)
  unfold copseref8_alike.f
  have h := alike_l0 a l hn l.length 0 k (by omega) (by omega)
  rw [show ((0 : Nat) : Int) = 0 from rfl] at h
  rw [h]
  congr 1
  rw [decide_eq_decide]
  exact hit_iff a l

/-! ### The document's check -/
theorem child_eq (n : Int) : copseref8_child.f n = some (mayB n) := by
  unfold copseref8_child.f mayB
  by_cases h : n ≥ 2
  · rw [if_pos h, decide_eq_true (show 2 ≤ n from h), Bool.true_and]
  · rw [if_neg h, decide_eq_false (show ¬ 2 ≤ n from h), Bool.false_and]
theorem chk_l0 (root : Bool) (a : Int) (l : List S48) (hn : l.length ≤ 5864062014800) : ∀ (d i k : Nat) (x : Bool), i + d = l.length → d < k →
    copseref8_Check.l0 k root x (i : Int) a l = if (x && (l.drop i).all goodB) = true then copseref8_Check.l1 (k - d - 1) root 1 a l else some 1
  | 0, i, k, x, hi, hk => by
    obtain ⟨k, rfl⟩ : ∃ m, k = m + 1 := ⟨k - 1, by omega⟩
    rw [copseref8_Check.l0, if_neg (by omega), List.drop_of_length_le (by omega)]
    simp
  | d + 1, i, k, x, hi, hk => by
    obtain ⟨k, rfl⟩ : ∃ m, k = m + 1 := ⟨k - 1, by omega⟩
    have hlt : i < l.length := by omega
    have ih := fun x => chk_l0 root a l hn d (i + 1) k x (by omega) (by omega)
    rw [copseref8_Check.l0, if_pos (by omega), if_pos (by omega), rdT l i hlt, child_eq, Option.bind_some, wrap_id _ (by omega) (by omega), cast1, ih, ih, List.drop_eq_getElem_cons hlt, List.all_cons,
      show k + 1 - (d + 1) - 1 = k - d - 1 by omega]
    obtain ⟨q, hq⟩ : ∃ q, mayB l[i].f1 = q := ⟨_, rfl⟩
    have hg : goodB l[i] = (decide ((1 : Int) ≤ (l[i].f0.size : Int)) && decide ((l[i].f0.size : Int) ≤ 255) && q) := by rw [← hq]; rfl
    rw [hg, hq]
    obtain ⟨z, hz⟩ : ∃ z : Int, (l[i].f0.size : Int) = z := ⟨_, rfl⟩
    rw [hz]
    cases x <;> cases q <;> by_cases h1 : z ≥ 1 <;> by_cases h2 : z ≤ 255 <;> simp [h1, h2, show ((1 : Int) ≤ z) = (z ≥ 1) from rfl]
theorem chk_l1 (root : Bool) (a : Int) (l : List S48) (hn : l.length ≤ 5864062014800) : ∀ (d i k : Nat), i + 1 + d = l.length → d < k →
    copseref8_Check.l1 k root ((i + 1 : Nat) : Int) a l = if ords (l.drop i) = true then ((copseref8_alike.f (k - d - 1) a l).bind fun t => (if t = true then (some 5) else ((copseref8_Size.f (k - d - 1) a l).bind fun n => (if n > 4072 then (some 3) else (if root = true then (some 0) else (if n < 1777 then (some 4) else (some 0))))))) else some 12
  | 0, i, k, hi, hk => by
    obtain ⟨k, rfl⟩ : ∃ m, k = m + 1 := ⟨k - 1, by omega⟩
    rw [copseref8_Check.l1, if_neg (by omega), ords_short _ (by rw [List.length_drop]; omega), if_pos rfl]
    rfl
  | d + 1, i, k, hi, hk => by
    obtain ⟨k, rfl⟩ : ∃ m, k = m + 1 := ⟨k - 1, by omega⟩
    rw [copseref8_Check.l1, if_pos (by omega), if_pos (by omega), wrap_id (((i + 1 : Nat) : Int) - 1) (by omega) (by omega), show ((i + 1 : Nat) : Int) - 1 = (i : Int) by omega, if_pos (by omega), if_pos (by omega),
      wrap_id _ (by omega) (by omega), cast1 (i + 1), chk_l1 root a l hn d (i + 1) k (by omega) (by omega), ords_step l i (by omega), show k + 1 - (d + 1) - 1 = k - d - 1 by omega]
    by_cases h : Op.bytesLess (rd_T48 l (i : Int)).f0.toList (rd_T48 l ((i + 1 : Nat) : Int)).f0.toList = true
    · rw [if_pos h, h, Bool.true_and]
    · rw [if_neg h, Bool.eq_false_iff.2 h, Bool.false_and, if_neg Bool.false_ne_true]

theorem any_all (l : List S48) : l.any (fun x => !goodB x) = !(l.all goodB) := by
  induction l with
  | nil => rfl
  | cons x xs ih => rw [List.any_cons, List.all_cons, ih, Bool.not_and]
/-- What the two say of a branch. -/
theorem check_eq2 (a : Int) (l : List S48) (root : Bool) (hn : l.length ≤ 5864062014800) (k : Nat) (hk : 50000000000000000000000000 ≤ k) :
    ∃ v : Option Int, branch_Check.f a l root = some v ∧ (v = none ∨ v = some 1 ∨ v = some 3 ∨ v = some 4 ∨ v = some 5 ∨ v = some 12) ∧ copseref8_Check.f k a l root = some (v.getD 0) := by
  have hk1 : l.length < k := by omega
  unfold branch_Check.f copseref8_Check.f
  rw [if_pos (by omega)]
  by_cases h0 : l.length = 0
  · rw [if_pos h0, if_pos (by omega)]
    exact ⟨_, rfl, by simp, rfl⟩
  rw [if_neg h0, if_neg (show ¬ ((l.length : Int) = 0) from by omega), child_eq, Option.bind_some]
  have hc := chk_l0 root a l hn l.length 0 k (mayB a) (by omega) hk1
  rw [show ((0 : Nat) : Int) = 0 from rfl, List.drop_zero] at hc
  rw [hc]
  by_cases hm : mayB a = false
  · rw [if_pos hm, hm, Bool.false_and, if_neg Bool.false_ne_true]
    exact ⟨_, rfl, by simp, rfl⟩
  rw [if_neg hm, any_all, (by simpa using hm : mayB a = true), Bool.true_and]
  by_cases hg : l.all goodB = true
  case neg =>
    rw [if_neg hg, Bool.eq_false_iff.2 hg, if_pos (show (!false) = true from rfl)]
    exact ⟨_, rfl, by simp, rfl⟩
  rw [if_pos hg, hg, if_neg (by simp)]
  have h1 := chk_l1 root a l hn (l.length - 1) 0 (k - l.length - 1) (by omega) (by omega)
  rw [show ((0 + 1 : Nat) : Int) = 1 from rfl, List.drop_zero] at h1
  rw [h1]
  unfold checkRest
  by_cases ho : ords l = true
  case neg =>
    rw [if_neg ho, if_neg ho]
    exact ⟨_, rfl, by simp, rfl⟩
  rw [if_pos ho, if_pos ho, children_eq a l hn _ (by omega), Option.bind_some, if_neg (by simp; omega), alike_eq a l hn _ (by omega), Option.bind_some, wrap_id _ (by omega) (by omega)]
  have hci := compact_iff (a :: l.map (·.f1))
  have hlen : (a :: l.map (·.f1)).length = l.length + 1 := by simp
  rw [hlen] at hci
  by_cases hd : (a :: l.map (·.f1)).Nodup
  case neg =>
    rw [if_neg (fun e => hd (hci.1 (by omega))), if_pos (decide_eq_true hd)]
    exact ⟨_, rfl, by simp, rfl⟩
  rw [if_pos (by have := hci.2 hd; omega), if_neg (by simp [hd]), size_eq a l hn _ (by omega), Option.bind_some, rsize_eq a l hn _ (by omega), Option.bind_some]
  obtain ⟨n, hn2⟩ : ∃ n : Int, szF 6 l = n := ⟨_, rfl⟩
  rw [hn2]
  refine ⟨_, rfl, ?_, ?_⟩
  · unfold szErr; split
    · simp
    · split
      · split <;> simp
      · simp
  · unfold szErr
    by_cases h2 : n > 4072
    · rw [if_pos h2, if_pos h2]; rfl
    · rw [if_neg h2, if_neg h2]
      cases root with
      | true => simp
      | false =>
        by_cases h3 : n < 1777
        · simp [h3]
        · simp [h3]
theorem num_chk (v : Option Int) (h : v = none ∨ v = some 1 ∨ v = some 3 ∨ v = some 4 ∨ v = some 5 ∨ v = some 12) : copsekit_Num.f v = some (v.getD 0) := by
  rcases h with rfl | rfl | rfl | rfl | rfl | rfl <;> rfl
end Go.Proofs.YtocggojbafediaaDoor.Ref
