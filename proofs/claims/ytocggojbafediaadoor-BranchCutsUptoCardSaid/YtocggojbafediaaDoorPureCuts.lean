/- Cutting and joining branches, without Go: the program's way and the document's are one. -/
import Derived.Test.YtocggojbafediaaDoorRefB
import Derived.Test.YtocggojbafediaaDoorPureL
namespace Go.Proofs.YtocggojbafediaaDoor.Ref
set_option linter.unusedVariables false
set_option linter.unusedSimpArgs false
open Go.RowKit Go.Proofs.YtocggojbafediaaDoorW.PrintWords Go.Proofs.YtocggojbafediaaDoorW.PrintLast Go.Proofs.YtocggojbafediaaDoorW.PrintMore

/-! ### Joining -/
theorem concat_eq (l m n : List S48) (k : Nat) (hl : l.length ≤ 1100000) (hm : m.length ≤ 1100000) (hn : n.length ≤ 1100000) (hk : 20 ≤ k) : api_Link_57.f k [l, m, n] = some (l ++ m ++ n) := by
  obtain ⟨k, rfl⟩ : ∃ j, k = j + 8 := ⟨k - 8, by omega⟩
  have r0 : rd_L4 [l, m, n] 0 = l := rfl
  have r1 : rd_L4 [l, m, n] 1 = m := rfl
  have r2 : rd_L4 [l, m, n] 2 = n := rfl
  have w1 : wrap64 (0 + 1) = 1 := wrap_id _ (by omega) (by omega)
  have w2 : wrap64 (1 + 1) = 2 := wrap_id _ (by omega) (by omega)
  have w3 : wrap64 (2 + 1) = 3 := wrap_id _ (by omega) (by omega)
  have hlen : (([l, m, n] : List (List S48)).length : Int) = 3 := rfl
  unfold api_Link_57.f
  rw [hlen]
  rw [show k + 8 = k + 7 + 1 by omega, api_Link_57.l0, if_pos (by decide), if_pos (by decide), hlen, if_pos (by decide), r0, wrap_id (0 + (l.length : Int)) (by omega) (by omega), if_neg (by omega), w1]
  rw [show k + 7 = k + 6 + 1 by omega, api_Link_57.l0, if_pos (by decide), if_pos (by decide), hlen, if_pos (by decide), r1, wrap_id (0 + (l.length : Int) + (m.length : Int)) (by omega) (by omega), if_neg (by omega), w2]
  rw [show k + 6 = k + 5 + 1 by omega, api_Link_57.l0, if_pos (by decide), if_pos (by decide), hlen, if_pos (by decide), r2, wrap_id (0 + (l.length : Int) + (m.length : Int) + (n.length : Int)) (by omega) (by omega), if_neg (by omega), w3]
  rw [show k + 5 = k + 4 + 1 by omega, api_Link_57.l0, if_neg (by decide), hlen, Grow_Link.f, if_pos ⟨rfl, by omega, by omega⟩, Option.bind_some]
  rw [api_Link_57.l1, if_pos (by decide), if_pos (by decide), hlen, if_pos (by decide), r0, if_pos (by simp; omega), w1]
  rw [show k + 3 = k + 2 + 1 by omega, api_Link_57.l1, if_pos (by decide), if_pos (by decide), hlen, if_pos (by decide), r1, if_pos (by simp; omega), w2]
  rw [show k + 2 = k + 1 + 1 by omega, api_Link_57.l1, if_pos (by decide), if_pos (by decide), hlen, if_pos (by decide), r2, if_pos (by simp; omega), w3]
  rw [api_Link_57.l1, if_neg (by decide)]
  simp
theorem join_eq (a : Int) (l : List S48) (key : ByteArray) (b : Int) (n : List S48) (k : Nat) (hl : l.length ≤ 1100000) (hn : n.length ≤ 1100000) (hk : 20 ≤ k) : branch_Join.f k a l key b n = some (a, l ++ [⟨key, b⟩] ++ n) := by
  unfold branch_Join.f
  rw [concat_eq l _ n k hl (by simp) hn hk]; rfl
theorem rjoin_eq (a : Int) (l : List S48) (key : ByteArray) (b : Int) (n : List S48) (k : Nat) (hl : l.length ≤ 1100000) (hn : n.length ≤ 1100000) (hk : 4000001 ≤ k) : copseref8_Join.f k a l key b n = some (a, l ++ [⟨key, b⟩] ++ n) := by
  unfold copseref8_Join.f
  rw [some_all l k (by omega) hk, Option.bind_some, if_pos (by omega), Option.bind_some, some_all n k (by omega) hk, Option.bind_some, if_pos (by simp; omega)]

/-! ### The sizes -/
def szs (l : List S48) : List Int := l.map fun x => 7 + (x.f0.size : Int)
theorem szs_length (l : List S48) : (szs l).length = l.length := by simp [szs]
def Keys (l : List S48) : Prop := ∀ x ∈ l, x.f0.size ≤ 140737488355328
theorem szs_snoc (l : List S48) (i : Nat) (h : i < l.length) : szs (l.take i) ++ [7 + (l[i].f0.size : Int)] = szs (l.take (i + 1)) := by
  rw [List.take_succ_eq_append_getElem h]; unfold szs; rw [List.map_append]; rfl

/-! ### The place -/
theorem rsum_l0 (xs : List Int) (hs : ∀ x ∈ xs, SizeOk x) (hn : xs.length ≤ 4000000) (t : Nat) (ht : t ≤ xs.length) : ∀ (d i k : Nat) (acc : Int), i + d = t → 0 ≤ acc → acc ≤ 4072 * (i : Int) → d < k →
    copseref6_sum.l0 k xs (t : Int) acc (i : Int) = some (acc + ((xs.take t).drop i).sum)
  | 0, i, k, acc, hi, h0, h1, hk => by
    obtain ⟨k, rfl⟩ : ∃ m, k = m + 1 := ⟨k - 1, by omega⟩
    rw [copseref6_sum.l0, if_neg (by omega), List.drop_of_length_le (by rw [List.length_take]; omega)]; simp
  | d + 1, i, k, acc, hi, h0, h1, hk => by
    obtain ⟨k, rfl⟩ : ∃ m, k = m + 1 := ⟨k - 1, by omega⟩
    have hlt : i < xs.length := by omega
    have hr : rd xs (i : Int) = xs[i] := by unfold rd; rw [Int.toNat_natCast, List.getD_eq_getElem?_getD, List.getElem?_eq_getElem hlt]; rfl
    have hso := hs xs[i] (List.getElem_mem hlt)
    unfold SizeOk at hso
    rw [copseref6_sum.l0, if_pos (by omega), if_pos (by omega), if_pos (by omega), hr, wrap_id (acc + xs[i]) (by omega) (by omega), wrap_id _ (by omega) (by omega), cast1,
      rsum_l0 xs hs hn t ht d (i + 1) k _ (by omega) (by omega) (by omega) (by omega), List.drop_eq_getElem_cons (l := xs.take t) (i := i) (by rw [List.length_take]; omega)]
    simp only [List.getElem_take, List.sum_cons]
    rw [Int.add_assoc]
theorem fine_l0 (xs : List Int) (hn : xs.length ≤ 4000000) : ∀ (d i k : Nat), i + d = xs.length → d < k → copseref6_fine.l0 k xs (i : Int) = some (decide (∀ x ∈ xs.drop i, SizeOk x))
  | 0, i, k, hi, hk => by
    obtain ⟨k, rfl⟩ : ∃ m, k = m + 1 := ⟨k - 1, by omega⟩
    rw [copseref6_fine.l0, if_neg (by omega), List.drop_of_length_le (by omega)]; simp
  | d + 1, i, k, hi, hk => by
    obtain ⟨k, rfl⟩ : ∃ m, k = m + 1 := ⟨k - 1, by omega⟩
    have hlt : i < xs.length := by omega
    rw [copseref6_fine.l0, if_pos (by omega), if_pos (by omega), drop_cons_rd xs i hlt]
    obtain ⟨s, hs⟩ : ∃ s, rd xs (i : Int) = s := ⟨_, rfl⟩
    rw [hs]
    by_cases h1 : s < 1
    · rw [if_pos h1, decide_eq_false (fun h => by have := h s List.mem_cons_self; unfold SizeOk at this; omega)]
    · rw [if_neg h1]
      by_cases h2 : s > 4072
      · rw [if_pos h2, decide_eq_false (fun h => by have := h s List.mem_cons_self; unfold SizeOk at this; omega)]
      · rw [if_neg h2, wrap_id _ (by omega) (by omega), cast1, fine_l0 xs hn d (i + 1) k (by omega) (by omega)]
        have hso : SizeOk s := by unfold SizeOk; omega
        congr 1
        rw [decide_eq_decide]
        exact ⟨fun h x hx => by rcases List.mem_cons.1 hx with rfl | hx; exact hso; exact h x hx, fun h x hx => h x (List.mem_cons_of_mem _ hx)⟩
theorem fine_eq (xs : List Int) (hn : xs.length ≤ 4000000) (k : Nat) (hk : 4000001 ≤ k) : copseref6_fine.f k xs = some (decide (∀ x ∈ xs, SizeOk x)) := by
  unfold copseref6_fine.f
  have := fine_l0 xs hn xs.length 0 k (by omega) (by omega)
  simpa using this
theorem apart_eq (a b : Int) (h1 : -100000000000 ≤ a) (h2 : a ≤ 100000000000) (h3 : -100000000000 ≤ b) (h4 : b ≤ 100000000000) : copseref6_apart.f a b = some (((a - b).natAbs : Nat) : Int) := by
  unfold copseref6_apart.f
  by_cases h : a < b
  · rw [if_pos h, wrap_id _ (by omega) (by omega)]; congr 1; omega
  · rw [if_neg h, wrap_id _ (by omega) (by omega)]; congr 1; omega
/-- The sum of the first sizes. -/
theorem near_ahead (xs : List Int) (all : Int) : ∀ m, m < xs.length → (near xs all m).2.2 = (xs.take (m + 1)).sum
  | 0, h => by
    simp only [near]
    rw [List.take_succ_eq_append_getElem h, List.getD_eq_getElem?_getD, List.getElem?_eq_getElem h]; simp
  | m + 1, h => by
    have ih := near_ahead xs all m (by omega)
    have e : xs.getD (m + 1) 0 = xs[m + 1] := by rw [List.getD_eq_getElem?_getD, List.getElem?_eq_getElem h]; rfl
    simp only [near]
    rw [List.take_succ_eq_append_getElem h, List.sum_append, ← ih, e]
    split
    · simp
    · simp
theorem near_pos (xs : List Int) (all : Int) : ∀ m, 1 ≤ (near xs all (m + 1)).1
  | 0 => by simp [near]
  | m + 1 => by
    have ih := near_pos xs all m
    rw [near]
    split
    · simp
    · exact ih
theorem sum_split (xs : List Int) (i : Nat) : xs.sum = (xs.take i).sum + (xs.drop i).sum := by
  conv => lhs; rw [← List.take_append_drop i xs]
  rw [List.sum_append]
theorem part_bd (xs : List Int) (hs : ∀ x ∈ xs, SizeOk x) (i : Nat) : 0 ≤ (xs.take i).sum ∧ (xs.take i).sum ≤ 4072 * (xs.length : Int) ∧ 0 ≤ (xs.drop i).sum ∧ (xs.drop i).sum ≤ 4072 * (xs.length : Int) := by
  have h1 := sum_bd (xs.take i) (fun x hx => hs x (List.mem_of_mem_take hx))
  have h2 := sum_bd (xs.drop i) (fun x hx => hs x (List.mem_of_mem_drop hx))
  have h3 : (xs.take i).length ≤ xs.length := by rw [List.length_take]; omega
  have h4 : (xs.drop i).length ≤ xs.length := by rw [List.length_drop]; omega
  omega
theorem rnear_l0 (xs : List Int) (hs : ∀ x ∈ xs, SizeOk x) (hn : xs.length ≤ 4000000) (h3 : 3 ≤ xs.length) : ∀ (d m k : Nat), m + d = xs.length - 3 → d + 1 < k →
    copseref6_nearest.l0 k xs ((xs.length - 2 : Nat) : Int) 1 ((near xs xs.sum (m + 1)).1 : Int) (xs.take (m + 1)).sum (xs.drop (m + 2)).sum (near xs xs.sum (m + 1)).2.1 ((m + 2 : Nat) : Int) = some (((near xs xs.sum (xs.length - 2)).1 : Nat) : Int)
  | 0, m, k, hm, hk => by
    obtain ⟨k, rfl⟩ : ∃ j, k = j + 1 := ⟨k - 1, by omega⟩
    rw [copseref6_nearest.l0, if_neg (by omega), show xs.length - 2 = m + 1 by omega]
  | d + 1, m, k, hm, hk => by
    obtain ⟨k, rfl⟩ : ∃ j, k = j + 1 := ⟨k - 1, by omega⟩
    have hlt : m + 2 < xs.length := by omega
    have b1 := part_bd xs hs (m + 1)
    have b2 := part_bd xs hs (m + 2)
    have b3 := part_bd xs hs (m + 3)
    have e1 : xs[m + 1]'(by omega) = rd xs ((m + 1 : Nat) : Int) := by unfold rd; rw [Int.toNat_natCast, List.getD_eq_getElem?_getD, List.getElem?_eq_getElem (by omega)]; rfl
    have e2 : xs[m + 2] = rd xs ((m + 2 : Nat) : Int) := by unfold rd; rw [Int.toNat_natCast, List.getD_eq_getElem?_getD, List.getElem?_eq_getElem hlt]; rfl
    have s1 : (xs.take (m + 2)).sum = (xs.take (m + 1)).sum + rd xs ((m + 1 : Nat) : Int) := by
      rw [← e1, List.take_succ_eq_append_getElem (i := m + 1) (by omega), List.sum_append]; simp
    have s2 : (xs.drop (m + 2)).sum = rd xs ((m + 2 : Nat) : Int) + (xs.drop (m + 3)).sum := by
      rw [← e2, List.drop_eq_getElem_cons hlt, List.sum_cons]
    have s3 := sum_split xs (m + 2)
    have ha : (near xs xs.sum (m + 1)).2.2 = (xs.take (m + 2)).sum := near_ahead xs xs.sum (m + 1) (by omega)
    have hp := near_pos xs xs.sum m
    have hg : xs.getD (m + 2) 0 = rd xs ((m + 2 : Nat) : Int) := by unfold rd; rw [Int.toNat_natCast]
    rw [copseref6_nearest.l0, if_pos (by omega), wrap_id (((m + 2 : Nat) : Int) - 1) (by omega) (by omega), show ((m + 2 : Nat) : Int) - 1 = ((m + 1 : Nat) : Int) by omega, if_pos (by omega), if_pos (by omega),
      wrap_id (((m + 1 : Nat) : Int) + 1) (by omega) (by omega), show ((m + 1 : Nat) : Int) + 1 = ((m + 2 : Nat) : Int) by omega, if_pos (by omega), if_pos (by omega),
      wrap_id ((xs.take (m + 1)).sum + _) (by omega) (by omega), wrap_id ((xs.drop (m + 2)).sum - _) (by omega) (by omega), ← s1, show (xs.drop (m + 2)).sum - rd xs ((m + 2 : Nat) : Int) = (xs.drop (m + 3)).sum by omega,
      apart_eq _ _ (by omega) (by omega) (by omega) (by omega), Option.bind_some, wrap_id (((m + 2 : Nat) : Int) + 1) (by omega) (by omega), show ((m + 2 : Nat) : Int) + 1 = ((m + 1 + 2 : Nat) : Int) by omega]
    have ih := rnear_l0 xs hs hn h3 d (m + 1) k (by omega) (by omega)
    have hw : 2 * (near xs xs.sum (m + 1)).2.2 + xs.getD (m + 2) 0 - xs.sum = (xs.take (m + 2)).sum - (xs.drop (m + 3)).sum := by rw [ha, hg]; omega
    have hstep : near xs xs.sum (m + 2) = if (near xs xs.sum (m + 1)).1 = 0 ∨ ((((xs.take (m + 2)).sum - (xs.drop (m + 3)).sum).natAbs : Nat) : Int) < (near xs xs.sum (m + 1)).2.1 then (m + 2, ((((xs.take (m + 2)).sum - (xs.drop (m + 3)).sum).natAbs : Nat) : Int), (near xs xs.sum (m + 1)).2.2 + xs.getD (m + 2) 0) else ((near xs xs.sum (m + 1)).1, (near xs xs.sum (m + 1)).2.1, (near xs xs.sum (m + 1)).2.2 + xs.getD (m + 2) 0) := by
      conv => lhs; rw [near]
      rw [hw]
    rw [show m + 1 + 1 = m + 2 by omega, show m + 1 + 2 = m + 3 by omega] at ih
    rw [show m + 1 + 2 = m + 3 by omega]
    by_cases hc : ((((xs.take (m + 2)).sum - (xs.drop (m + 3)).sum).natAbs : Nat) : Int) < (near xs xs.sum (m + 1)).2.1
    · rw [if_pos (.inr hc)] at hstep
      rw [if_pos hc]
      rw [hstep] at ih
      exact ih
    · rw [if_neg (fun h => h.elim (by omega) hc)] at hstep
      rw [if_neg hc]
      rw [hstep] at ih
      exact ih
theorem rpivot_eq (xs : List Int) (hn : xs.length ≤ 4000000) (k : Nat) (hk : 4000010 ≤ k) : copseref6_Pivot.f k xs = if xs.length < 3 then some (0, 4) else if ∀ x ∈ xs, SizeOk x then some (((near xs xs.sum (xs.length - 2)).1 : Int), 0) else some (0, 1) := by
  unfold copseref6_Pivot.f
  by_cases h3 : xs.length < 3
  · rw [if_pos (by omega), if_pos h3]
  · rw [if_neg (by omega), if_neg h3, fine_eq xs hn k (by omega), Option.bind_some]
    by_cases hs : ∀ x ∈ xs, SizeOk x
    · rw [if_pos (decide_eq_true hs), if_pos hs]
      have hw : wrap64 ((xs.length : Int) - 2) = ((xs.length - 2 : Nat) : Int) := by rw [wrap_id _ (by omega) (by omega)]; omega
      have b1 := part_bd xs hs 1
      have b2 := part_bd xs hs 2
      have q1 : copseref6_sum.f k xs 0 1 = some (xs.take 1).sum := by
        unfold copseref6_sum.f
        have := rsum_l0 xs hs hn 1 (by omega) 1 0 k 0 (by omega) (by omega) (by omega) (by omega)
        simpa using this
      have q2 : copseref6_sum.f k xs 2 (xs.length : Int) = some (xs.drop 2).sum := by
        unfold copseref6_sum.f
        have := rsum_l0 xs hs hn xs.length (by omega) (xs.length - 2) 2 k 0 (by omega) (by omega) (by omega) (by omega)
        simpa using this
      have e0 : xs[0]'(by omega) = xs.getD 0 0 := by rw [List.getD_eq_getElem?_getD, List.getElem?_eq_getElem (by omega)]; rfl
      have t1 : (xs.take 1).sum = xs.getD 0 0 := by rw [← e0, List.take_succ_eq_append_getElem (i := 0) (by omega)]; simp
      have t2 : (xs.take 2).sum = xs.getD 0 0 + xs.getD 1 0 := by
        have e1 : xs[1]'(by omega) = xs.getD 1 0 := by rw [List.getD_eq_getElem?_getD, List.getElem?_eq_getElem (by omega)]; rfl
        rw [← t1, ← e1, List.take_succ_eq_append_getElem (i := 1) (by omega), List.sum_append]; simp
      have s3 := sum_split xs 2
      have hn1 : near xs xs.sum 1 = (1, ((((xs.take 1).sum - (xs.drop 2).sum).natAbs : Nat) : Int), xs.getD 0 0 + xs.getD 1 0) := by
        have e : near xs xs.sum 1 = (1, ((2 * xs.getD 0 0 + xs.getD 1 0 - xs.sum).natAbs : Int), xs.getD 0 0 + xs.getD 1 0) := by simp [near]
        rw [e, show 2 * xs.getD 0 0 + xs.getD 1 0 - xs.sum = (xs.take 1).sum - (xs.drop 2).sum by omega]
      have ih := rnear_l0 xs hs hn (by omega) (xs.length - 3) 0 k (by omega) (by omega)
      rw [hn1] at ih
      unfold copseref6_nearest.f
      rw [hw, q1, Option.bind_some, wrap_id (1 + 1) (by omega) (by omega), show (1 + 1 : Int) = 2 by rfl, q2, Option.bind_some, apart_eq _ _ (by omega) (by omega) (by omega) (by omega), Option.bind_some]
      rw [show ((0 + 2 : Nat) : Int) = 2 by rfl] at ih
      simp only at ih
      rw [show ((1 : Nat) : Int) = 1 by rfl] at ih
      rw [ih]; rfl
    · rw [if_neg (by simpa using hs), if_neg hs]
theorem pivot_eq (xs : List Int) (hn : xs.length ≤ 4000000) : cells_Pivot.f xs = if xs.length < 3 then some (0, some 4) else if ∀ x ∈ xs, SizeOk x then some (((near xs xs.sum (xs.length - 2)).1 : Int), none) else some (0, some 1) := by
  unfold cells_Pivot.f
  rw [if_pos (by omega)]

/-! ### Cutting -/
theorem cut_sizes (l : List S48) (hl : l.length ≤ 1100000) (hk' : ∀ x ∈ l, x.f0.size ≤ 1100000) (a : Int) : ∀ (d i k : Nat), i + d = l.length → d < k →
    branch_Cut.l0 (k + 1) (szs (l.take i)) l (l.length : Int) (i : Int) a l = branch_Cut.l0 (k + 1 - d) (szs l) l (l.length : Int) (l.length : Int) a l
  | 0, i, k, hi, hk => by
    obtain rfl : i = l.length := by omega
    rw [List.take_length]; rfl
  | d + 1, i, k, hi, hk => by
    have hlt : i < l.length := by omega
    have hsz := hk' l[i] (List.getElem_mem hlt)
    obtain ⟨k, rfl⟩ : ∃ j, k = j + 1 := ⟨k - 1, by omega⟩
    rw [branch_Cut.l0, if_pos (by omega), if_pos (by omega), if_pos (by omega), rdT l i hlt, branch_linkSize.f, Option.bind_some, if_pos (by rw [szs_length, List.length_take]; omega),
      wrap_id (7 + _) (by omega) (by omega), szs_snoc l i hlt, wrap_id _ (by omega) (by omega), cast1, cut_sizes l hl hk' a d (i + 1) k (by omega) (by omega), show k + 1 - d = k + 1 + 1 - (d + 1) by omega]
theorem rcut_sizes (l : List S48) (hl : l.length ≤ 1100000) (hk' : ∀ x ∈ l, x.f0.size ≤ 1100000) (a : Int) : ∀ (d i k : Nat), i + d = l.length → d < k →
    copseref8_Cut.l0 (k + 1) (szs (l.take i)) (i : Int) a l = copseref8_Cut.l0 (k + 1 - d) (szs l) (l.length : Int) a l
  | 0, i, k, hi, hk => by
    obtain rfl : i = l.length := by omega
    rw [List.take_length]; rfl
  | d + 1, i, k, hi, hk => by
    have hlt : i < l.length := by omega
    have hsz := hk' l[i] (List.getElem_mem hlt)
    obtain ⟨k, rfl⟩ : ∃ j, k = j + 1 := ⟨k - 1, by omega⟩
    rw [copseref8_Cut.l0, if_pos (by omega), if_pos (by omega), if_pos (by rw [szs_length, List.length_take]; omega), rdT l i hlt,
      wrap_id (7 + _) (by omega) (by omega), szs_snoc l i hlt, wrap_id _ (by omega) (by omega), cast1, rcut_sizes l hl hk' a d (i + 1) k (by omega) (by omega), show k + 1 - d = k + 1 + 1 - (d + 1) by omega]
/-- What a cut answers. -/
def cutR (a : Int) (l : List S48) : Int × List S48 × ByteArray × Int × List S48 × Int :=
  if l.length < 3 then (0, [], ⟨#[]⟩, 0, [], 4)
  else if ∀ x ∈ szs l, SizeOk x then (a, l.take (near (szs l) (szs l).sum (l.length - 2)).1, (rd_T48 l ((near (szs l) (szs l).sum (l.length - 2)).1 : Int)).f0, (rd_T48 l ((near (szs l) (szs l).sum (l.length - 2)).1 : Int)).f1, l.drop ((near (szs l) (szs l).sum (l.length - 2)).1 + 1), 0)
  else (0, [], ⟨#[]⟩, 0, [], 1)
theorem near_le (xs : List Int) (all : Int) : ∀ m, (near xs all m).1 ≤ m
  | 0 => Nat.le_refl _
  | m + 1 => by
    have ih := near_le xs all m
    rw [near]
    split
    · simp
    · exact Nat.le_succ_of_le ih
theorem cut_eq (a : Int) (l : List S48) (k : Nat) (hl : l.length ≤ 1100000) (hk' : ∀ x ∈ l, x.f0.size ≤ 1100000) (hk : 4000010 ≤ k) :
    branch_Cut.f k a l = some ((cutR a l).1, (cutR a l).2.1, (cutR a l).2.2.1, (cutR a l).2.2.2.1, (cutR a l).2.2.2.2.1, if (cutR a l).2.2.2.2.2 = 0 then none else some (cutR a l).2.2.2.2.2) := by
  obtain ⟨k, rfl⟩ : ∃ j, k = j + 1 := ⟨k - 1, by omega⟩
  have h1 := cut_sizes l hl hk' a l.length 0 k (by omega) (by omega)
  obtain ⟨j, hj⟩ : ∃ j, k + 1 - l.length = j + 1 := ⟨k - l.length, by omega⟩
  unfold branch_Cut.f
  rw [show ([] : List Int) = szs (l.take 0) from rfl, show (0 : Int) = ((0 : Nat) : Int) from rfl, h1, hj, branch_Cut.l0, if_neg (by omega), pivot_eq _ (by rw [szs_length]; omega), szs_length]
  unfold cutR
  by_cases h3 : l.length < 3
  · rw [if_pos h3, if_pos h3]; rfl
  · rw [if_neg h3, if_neg h3]
    by_cases hs : ∀ x ∈ szs l, SizeOk x
    · rw [if_pos hs, if_pos hs, Option.bind_some]
      have hp := near_le (szs l) (szs l).sum (l.length - 2)
      obtain ⟨p, hpe⟩ : ∃ p, (near (szs l) (szs l).sum (l.length - 2)).1 = p := ⟨_, rfl⟩
      rw [hpe] at hp ⊢
      simp only [Option.isNone_none, if_true]
      rw [if_pos (by omega), if_pos (by omega), if_pos (by omega), Int.toNat_natCast, Clone_Link.f, if_pos (by rw [List.length_take]; omega), Option.bind_some, wrap_id _ (by omega) (by omega), cast1, if_pos (by omega), if_pos (by omega), Int.toNat_natCast, Clone_Link.f, if_pos (by rw [List.length_drop]; omega), Option.bind_some]
      simp
    · rw [if_neg hs, if_neg hs]; rfl
theorem rcut_eq (a : Int) (l : List S48) (k : Nat) (hl : l.length ≤ 1100000) (hk' : ∀ x ∈ l, x.f0.size ≤ 1100000) (hk : 6000010 ≤ k) : copseref8_Cut.f k a l = some (cutR a l) := by
  obtain ⟨k, rfl⟩ : ∃ j, k = j + 1 := ⟨k - 1, by omega⟩
  have h1 := rcut_sizes l hl hk' a l.length 0 k (by omega) (by omega)
  obtain ⟨j, hj⟩ : ∃ j, k + 1 - l.length = j + 1 := ⟨k - l.length, by omega⟩
  unfold copseref8_Cut.f
  rw [show ([] : List Int) = szs (l.take 0) from rfl, show (0 : Int) = ((0 : Nat) : Int) from rfl, h1, hj, copseref8_Cut.l0, if_neg (by omega), rpivot_eq _ (by rw [szs_length]; omega) j (by omega), szs_length]
  unfold cutR
  by_cases h3 : l.length < 3
  · rw [if_pos h3, if_pos h3]; rfl
  · rw [if_neg h3, if_neg h3]
    by_cases hs : ∀ x ∈ szs l, SizeOk x
    · rw [if_pos hs, if_pos hs, Option.bind_some]
      have hp := near_le (szs l) (szs l).sum (l.length - 2)
      obtain ⟨p, hpe⟩ : ∃ p, (near (szs l) (szs l).sum (l.length - 2)).1 = p := ⟨_, rfl⟩
      rw [hpe] at hp ⊢
      simp only [if_true]
      have q1 := some_eq l 0 p j (Nat.zero_le _) (by omega) (by omega) (by omega)
      have q2 := some_eq l (p + 1) l.length j (by omega) (Nat.le_refl _) (by omega) (by omega)
      rw [show ((0 : Nat) : Int) = 0 from rfl, List.drop_zero] at q1
      rw [List.take_length] at q2
      rw [q1, Option.bind_some, if_pos (by omega), if_pos (by omega), wrap_id _ (by omega) (by omega), cast1, q2, Option.bind_some]
    · rw [if_neg hs, if_neg hs]; rfl
theorem cutR_len (a : Int) (l : List S48) : (cutR a l).2.1.length ≤ l.length ∧ (cutR a l).2.2.2.2.1.length ≤ l.length ∧ ((cutR a l).2.2.2.2.2 = 0 ∨ (cutR a l).2.2.2.2.2 = 4 ∨ (cutR a l).2.2.2.2.2 = 1) := by
  unfold cutR
  split
  · simp
  · split
    · refine ⟨by simp only [List.length_take]; omega, by simp only [List.length_drop]; omega, .inl rfl⟩
    · simp
/-- The statement's own function comes to true. -/
theorem cuts_true (a : Int) (l : List S48) (key : ByteArray) (b : Int) (n : List S48) (hl : l.length ≤ 1048576) (hn : n.length ≤ 1048576) (h1 : ∀ x ∈ l, x.f0.size ≤ 1048576) (h2 : ∀ x ∈ n, x.f0.size ≤ 1048576) : copselaw8_BranchCuts.f 7000000 a l key b n = some true := by
  have hk : (7000000 : Nat) = 6999999 + 1 := rfl
  obtain ⟨K, hK⟩ : ∃ K, K = 6999999 := ⟨_, rfl⟩
  rw [hk, ← hK]
  have c1 := cut_eq a l (K + 1) (by omega) (fun x hx => by have := h1 x hx; omega) (by omega)
  have c2 := rcut_eq a l (K + 1) (by omega) (fun x hx => by have := h1 x hx; omega) (by omega)
  obtain ⟨hq1, hq2, hq3⟩ := cutR_len a l
  obtain ⟨⟨x1, x2, x3, x4, x5, x6⟩, hR⟩ : ∃ R, cutR a l = R := ⟨_, rfl⟩
  rw [hR] at c1 c2 hq1 hq2 hq3
  simp only at c1 c2 hq1 hq2 hq3
  unfold copselaw8_BranchCuts.f
  rw [lent_eq a l _ (by omega) (by omega), Option.bind_some, lent_eq b n _ (by omega) (by omega), Option.bind_some, c1, Option.bind_some, c2, Option.bind_some, same_eq _ _ _ (by simp only; omega) (by omega), Option.bind_some, same_eq _ _ _ (by simp only; omega) (by omega), Option.bind_some,
    if_pos rfl, if_pos rfl, if_pos rfl]
  have hnum : copsekit_Num.f (if x6 = 0 then none else some x6) = some x6 := by
    rcases hq3 with h | h | h <;> subst h <;> rfl
  rw [hnum, Option.bind_some, copselaw8_BranchCuts.j0]
  simp only [bne_self_eq_false]
  rw [if_neg (by simp), join_eq a l key b n K (by omega) (by omega) (by omega), Option.bind_some, rjoin_eq a l key b n K (by omega) (by omega) (by omega), Option.bind_some]
  simp only
  rw [same_eq _ _ _ (by simp; omega) (by omega), Option.bind_some, if_pos rfl, returned_eq a l K (by omega) (by omega), Option.bind_some, if_pos rfl, returned_eq b n K (by omega) (by omega)]
  rfl
end Go.Proofs.YtocggojbafediaaDoor.Ref
