/- A meta's bytes are read back as that meta, in its slot and with its pages alone. -/
import Derived.Test.YtoenacghkpgnpaaDoorDecV
namespace Go.Proofs.YtoenacghkpgnpaaDoor.D
open Go.RowKit Go.Proofs.YtoenacghkpgnpaaDoor.K Go.Proofs.YtoenacghkpgnpaaDoor.E Go.Proofs.YtoenacghkpgnpaaDoor.P1 Go.Proofs.YtoenacghkpgnpaaDoor.Codec Go.Proofs.YtoenacghkpgnpaaDoor.Meta Go.Proofs.YtoenacghkpgnpaaDoor.R5

theorem be_snoc (n : Int) (k : Nat) : be n (k + 1) = be (n / 256) k ++ [n % 256] := by
  refine List.ext_getElem (by simp [be_length]) fun i h1 h2 => ?_
  rw [be_length] at h1
  by_cases hi : i < k
  · rw [List.getElem_append_left (by rw [be_length]; exact hi)]
    simp only [be, List.getElem_map, List.getElem_range]
    unfold byteAt
    have e : k + 1 - 1 - i = (k - 1 - i) + 1 := by omega
    rw [e, Int.pow_succ, Int.mul_comm, Int.ediv_ediv_of_nonneg (by omega)]
  · obtain rfl : i = k := by omega
    rw [List.getElem_append_right (by rw [be_length]; omega)]
    simp only [be, List.getElem_map, List.getElem_range, List.length_map, List.length_range]
    unfold byteAt
    simp
theorem num_be : ∀ (k : Nat) (n : Int), 0 ≤ n → n < 256 ^ k → num (be n k) = n
  | 0, n, h0, h1 => by
    have : n = 0 := by rw [Int.pow_zero] at h1; omega
    subst this; rfl
  | k + 1, n, h0, h1 => by
    rw [be_snoc, num_snoc, num_be k (n / 256) (by omega) (by rw [Int.pow_succ] at h1; omega)]
    omega

theorem mid_part (A B C : List Int) (o k : Nat) (hA : A.length = o) (hB : B.length = k) : ((A ++ (B ++ C)).drop o).take k = B := by
  subst hA hB
  rw [List.drop_left, List.take_left]
theorem gP_lit (p r t s : Int) (h0 : 0 ≤ p) (h1 : p < 4294967296) : gP (lit p r t s) = p := by
  have e : lit p r t s = sign ++ (be p 4 ++ (be r 4 ++ be t 8 ++ be s 4 ++ zs 484)) := by simp [lit, lit0]
  unfold gP
  rw [e, mid_part _ _ _ 8 4 rfl (be_length _ _)]
  exact num_be 4 p h0 h1
theorem gR_lit (p r t s : Int) (h0 : 0 ≤ r) (h1 : r < 4294967296) : gR (lit p r t s) = r := by
  have e : lit p r t s = (sign ++ be p 4) ++ (be r 4 ++ (be t 8 ++ be s 4 ++ zs 484)) := by simp [lit, lit0]
  unfold gR
  rw [e, mid_part _ _ _ 12 4 (by rw [List.length_append, be_length]; rfl) (be_length _ _)]
  exact num_be 4 r h0 h1
theorem gT_lit (p r t s : Int) (h0 : 0 ≤ t) (h1 : t < 18446744073709551616) : gT (lit p r t s) = t := by
  have e : lit p r t s = (sign ++ be p 4 ++ be r 4) ++ (be t 8 ++ (be s 4 ++ zs 484)) := by simp [lit, lit0]
  unfold gT
  rw [e, mid_part _ _ _ 16 8 (by rw [List.length_append, List.length_append, be_length, be_length]; rfl) (be_length _ _)]
  exact num_be 8 t h0 h1
theorem gP_wr (p r t : Int) (hm : MayM p r) : gP (wr p r t) = p := by rw [wr_lit]; exact gP_lit p r t _ (by unfold MayM at hm; omega) (by unfold MayM at hm; omega)
theorem gR_wr (p r t : Int) (hm : MayM p r) : gR (wr p r t) = r := by rw [wr_lit]; exact gR_lit p r t _ (by unfold MayM at hm; omega) (by unfold MayM at hm; omega)
theorem gT_wr (p r t : Int) (h0 : 0 ≤ t) (h1 : t < 18446744073709551616) : gT (wr p r t) = t := by rw [wr_lit]; exact gT_lit p r t _ h0 h1

theorem decR_back (p r t : Int) (hm : MayM p r) (h0 : 0 ≤ t) (h1 : t < 18446744073709551616) (s : Int) (hs : t % 2 = s) : decR (wr p r t) p s = (p, r, t, 0) := by
  subst hs
  have hP := gP_wr p r t hm
  have hR := gR_wr p r t hm
  have hT := gT_wr p r t h0 h1
  have ho : OkD (wr p r t) p (t % 2) := by
    unfold OkD
    show gP (wr p r t) = p ∧ gT (wr p r t) % 2 = t % 2 ∧ MayM (gP (wr p r t)) (gR (wr p r t)) ∧ wr (gP (wr p r t)) (gR (wr p r t)) (gT (wr p r t)) = wr p r t
    rw [hP, hR, hT]
    exact ⟨rfl, rfl, hm, rfl⟩
  unfold decR
  rw [if_pos ⟨by unfold PagesM; unfold MayM at hm; omega, by omega⟩, if_pos ⟨wr_length p r t, ho⟩, hP, hR, hT]
theorem decR_other (p r t : Int) (hm : MayM p r) (h0 : 0 ≤ t) (h1 : t < 18446744073709551616) (q s : Int) (hq : PagesM q) (hs : s = 0 ∨ s = 1) (hne : ¬ (q = p ∧ s = t % 2)) : decR (wr p r t) q s = (0, 0, 0, 2) := by
  have hP := gP_wr p r t hm
  have hT := gT_wr p r t h0 h1
  unfold decR
  rw [if_pos ⟨hq, hs⟩, if_neg]
  rintro ⟨-, h2, h3, -⟩
  rw [show num ((wr p r t).drop 8 |>.take 4) = gP (wr p r t) from rfl, hP] at h2
  rw [show num ((wr p r t).drop 16 |>.take 8) = gT (wr p r t) from rfl, hT] at h3
  exact hne ⟨h2.symm, h3.symm⟩
end Go.Proofs.YtoenacghkpgnpaaDoor.D
