/- A meta of which up to four bytes that follow one another were changed, all outside of its sum or all within, is none. -/
import Derived.Test.YtoenacghkpgnpaaDoorBack
import Derived.Test.YtoenacghkpgnpaaDoorBurst
namespace Go.Proofs.YtoenacghkpgnpaaDoor.D
open Go.RowKit Go.Proofs.YtoenacghkpgnpaaDoor.K Go.Proofs.YtoenacghkpgnpaaDoor.E Go.Proofs.YtoenacghkpgnpaaDoor.P1 Go.Proofs.YtoenacghkpgnpaaDoor.Codec Go.Proofs.YtoenacghkpgnpaaDoor.Meta Go.Proofs.YtoenacghkpgnpaaDoor.R5

/-- The bytes with their sum struck. -/
def zsum (L : List Int) : List Int := L.take 24 ++ (zs 4 ++ L.drop 28)
theorem lit_parts (p r t s : Int) : lit p r t s = (sign ++ be p 4 ++ be r 4 ++ be t 8) ++ (be s 4 ++ zs 484) := by simp [lit, lit0]
theorem head_length (p r t : Int) : (sign ++ be p 4 ++ be r 4 ++ be t 8).length = 24 := by
  rw [List.length_append, List.length_append, List.length_append, be_length, be_length, be_length]; rfl
theorem lit_take (p r t s : Int) : (lit p r t s).take 24 = sign ++ be p 4 ++ be r 4 ++ be t 8 := by
  rw [lit_parts, List.take_left' (head_length p r t)]
theorem lit_drop (p r t s : Int) : (lit p r t s).drop 28 = zs 484 := by
  rw [lit_parts, ← List.append_assoc, List.drop_left' (by rw [List.length_append, head_length, be_length])]
theorem lit_sum (p r t s : Int) : ((lit p r t s).drop 24).take 4 = be s 4 := by
  rw [lit_parts]; exact mid_part _ _ _ 24 4 (head_length p r t) (be_length _ _)
theorem zsum_wr (p r t : Int) : zsum (wr p r t) = w3 p r t := by
  rw [wr_lit, w3_lit0, zsum, lit_take, lit_drop, lit_parts, be_zero]
theorem sum_wr (p r t : Int) : num (((wr p r t).drop 24).take 4) = crc (w3 p r t) := by
  rw [wr_lit, lit_sum, num_be 4 _ (crc_range _).1 (Int.lt_of_le_of_lt (crc_range _).2 (by decide))]

theorem zsum_ahead (A B C : List Int) (h : A.length + B.length ≤ 24) : zsum (A ++ (B ++ C)) = A ++ (B ++ (C.take (24 - A.length - B.length) ++ (zs 4 ++ C.drop (28 - A.length - B.length)))) := by
  unfold zsum
  rw [List.take_append, List.take_append, List.drop_append, List.drop_append, List.take_of_length_le (by omega), List.take_of_length_le (by omega), List.drop_of_length_le (show A.length ≤ 28 by omega), List.drop_of_length_le (show B.length ≤ 28 - A.length by omega)]
  simp
theorem zsum_behind (A B C : List Int) (h : 28 ≤ A.length) : zsum (A ++ (B ++ C)) = (A.take 24 ++ (zs 4 ++ A.drop 28)) ++ (B ++ C) := by
  unfold zsum
  rw [List.take_append_of_le_length (by omega), List.drop_append_of_le_length h]
  simp

theorem burst_none (p r t : Int) (A B B' C : List Int) (hx : wr p r t = A ++ (B ++ C)) (hl : B.length = B'.length) (h4 : B.length ≤ 4) (hne : B ≠ B') (hB' : ∀ x, x ∈ B' → 0 ≤ x ∧ x ≤ 255)
    (hm : MayM p r) (ht0 : 0 ≤ t) (ht1 : t < 18446744073709551616)
    (hpl : A.length + B.length ≤ 24 ∨ 28 ≤ A.length ∨ (24 ≤ A.length ∧ A.length + B.length ≤ 28)) (q s : Int) : ¬ OkD (A ++ (B' ++ C)) q s := by
  rintro ⟨-, -, hm', hw⟩
  have hrange := wr_range p r t
  rw [hx] at hrange
  have hB : ∀ x, x ∈ B → 0 ≤ x ∧ x ≤ 255 := fun x h => hrange x (by simp [h])
  have hC : ∀ x, x ∈ C → 0 ≤ x ∧ x ≤ 255 := fun x h => hrange x (by simp [h])
  have hzr : ∀ n x, x ∈ zs n → 0 ≤ x ∧ x ≤ 255 := fun n => zs_range n
  obtain ⟨p', hp'⟩ : ∃ v, num (((A ++ (B' ++ C)).drop 8).take 4) = v := ⟨_, rfl⟩
  obtain ⟨r', hr'⟩ : ∃ v, num (((A ++ (B' ++ C)).drop 12).take 4) = v := ⟨_, rfl⟩
  obtain ⟨t', ht'⟩ : ∃ v, num (((A ++ (B' ++ C)).drop 16).take 8) = v := ⟨_, rfl⟩
  rw [hp', hr', ht'] at hw
  rcases hpl with h | h | ⟨h1, h2⟩
  · have hs : ((A ++ (B' ++ C)).drop 24).take 4 = ((A ++ (B ++ C)).drop 24).take 4 := by
      rw [List.drop_append, List.drop_append, List.drop_append, List.drop_append, hl]
      rw [List.drop_of_length_le (show B'.length ≤ 24 - A.length by omega), List.drop_of_length_le (show B.length ≤ 24 - A.length by omega)]
    have e1 := sum_wr p' r' t'
    rw [hw, hs, ← hx, sum_wr p r t, ← zsum_wr p r t, ← zsum_wr p' r' t', hw, hx, zsum_ahead A B C h, zsum_ahead A B' C (by omega), hl] at e1
    refine hne (Burst.crc_burst A B B' _ hl h4 hB hB' ?_ e1)
    intro x hxm
    rcases List.mem_append.1 hxm with h5 | h5
    · exact hC x (List.mem_of_mem_take h5)
    · rcases List.mem_append.1 h5 with h6 | h6
      · exact hzr 4 x h6
      · exact hC x (List.mem_of_mem_drop h6)
  · have hs : ((A ++ (B' ++ C)).drop 24).take 4 = ((A ++ (B ++ C)).drop 24).take 4 := by
      rw [List.drop_append_of_le_length (by omega), List.drop_append_of_le_length (by omega), List.take_append_of_le_length (by rw [List.length_drop]; omega), List.take_append_of_le_length (by rw [List.length_drop]; omega)]
    have e1 := sum_wr p' r' t'
    rw [hw, hs, ← hx, sum_wr p r t, ← zsum_wr p r t, ← zsum_wr p' r' t', hw, hx, zsum_behind A B C h, zsum_behind A B' C h] at e1
    exact hne (Burst.crc_burst _ B B' C hl h4 hB hB' hC e1)
  · have same : ∀ o k, o + k ≤ 24 → ((A ++ (B' ++ C)).drop o).take k = ((wr p r t).drop o).take k := fun o k h => by
      rw [hx, List.drop_append_of_le_length (by omega), List.drop_append_of_le_length (by omega), List.take_append_of_le_length (by rw [List.length_drop]; omega), List.take_append_of_le_length (by rw [List.length_drop]; omega)]
    rw [same 8 4 (by omega)] at hp'
    rw [same 12 4 (by omega)] at hr'
    rw [same 16 8 (by omega)] at ht'
    rw [show num (((wr p r t).drop 8).take 4) = gP (wr p r t) from rfl, gP_wr p r t hm] at hp'
    rw [show num (((wr p r t).drop 12).take 4) = gR (wr p r t) from rfl, gR_wr p r t hm] at hr'
    rw [show num (((wr p r t).drop 16).take 8) = gT (wr p r t) from rfl, gT_wr p r t ht0 ht1] at ht'
    rw [← hp', ← hr', ← ht', hx] at hw
    exact hne (List.append_cancel_right (List.append_cancel_left hw))
end Go.Proofs.YtoenacghkpgnpaaDoor.D
