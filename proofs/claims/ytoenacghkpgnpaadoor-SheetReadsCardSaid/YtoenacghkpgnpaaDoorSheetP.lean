/- Layer 4 without Go: the bytes of a page, as the document's answer lays them. -/
import Derived.Test.YtoenacghkpgnpaaDoorSheet1
import Derived.Test.YtoenacghkpgnpaaDoorRef5b
namespace Go.Proofs.YtoenacghkpgnpaaDoor.Sh
open Go.RowKit Go.Proofs.YtoenacghkpgnpaaDoor.K Go.Proofs.YtoenacghkpgnpaaDoor.E Go.Proofs.YtoenacghkpgnpaaDoor.P1 Go.Proofs.YtoenacghkpgnpaaDoor.Codec Go.Proofs.YtoenacghkpgnpaaDoor.S
open Go.Proofs.YtoenacghkpgnpaaDoorW.PrintWords (bt rd shr)

theorem splice_at (A B B' C : List Int) (o : Nat) (hA : A.length = o) (h : B'.length = B.length) : splice (A ++ (B ++ C)) o B' = A ++ (B' ++ C) := by
  subst hA
  exact splice_mid A B B' C h
def h1 (kd : Int) : List Int := be kd 1 ++ zs 1
def h2 (kd ct : Int) : List Int := h1 kd ++ be ct 2
def h3 (kd ct id : Int) : List Int := h2 kd ct ++ be id 4
def h4 (kd ct id tx : Int) : List Int := h3 kd ct id ++ be tx 8
theorem h1_length (kd : Int) : (h1 kd).length = 2 := by simp [h1, be_length, zs_length]
theorem h2_length (kd ct : Int) : (h2 kd ct).length = 4 := by rw [h2, List.length_append, h1_length, be_length]
theorem h3_length (kd ct id : Int) : (h3 kd ct id).length = 8 := by rw [h3, List.length_append, h2_length, be_length]
theorem h4_length (kd ct id tx : Int) : (h4 kd ct id tx).length = 16 := by rw [h4, List.length_append, h3_length, be_length]
/-- The page with such a sum. -/
def plit (kd ct id tx s : Int) (bd : List Int) : List Int := h4 kd ct id tx ++ (be s 4 ++ (zs 4 ++ bd))
theorem plit_length (kd ct id tx s : Int) (bd : List Int) : (plit kd ct id tx s bd).length = 24 + bd.length := by
  simp only [plit, List.length_append, h4_length, be_length, zs_length]; omega
theorem t1_lit (kd : Int) : t1 kd = h1 kd ++ zs 4094 := by
  unfold t1
  rw [show (4096 : Nat) = 1 + 4095 by rfl, zs_add]
  have := splice_at [] (zs 1) (be kd 1) (zs 4095) 0 rfl (by rw [be_length, zs_length])
  rw [List.nil_append, List.nil_append] at this
  rw [this, show (4095 : Nat) = 1 + 4094 by rfl, zs_add, h1, List.append_assoc]
theorem t2_lit (kd ct : Int) : t2 kd ct = h2 kd ct ++ zs 4092 := by
  unfold t2
  rw [t1_lit, show (4094 : Nat) = 2 + 4092 by rfl, zs_add, splice_at (h1 kd) (zs 2) (be ct 2) (zs 4092) 2 (h1_length _) (by rw [be_length, zs_length]), h2, List.append_assoc]
theorem t3_lit (kd ct id : Int) : t3 kd ct id = h3 kd ct id ++ zs 4088 := by
  unfold t3
  rw [t2_lit, show (4092 : Nat) = 4 + 4088 by rfl, zs_add, splice_at (h2 kd ct) (zs 4) (be id 4) (zs 4088) 4 (h2_length _ _) (by rw [be_length, zs_length]), h3, List.append_assoc]
theorem t4_lit (kd ct id tx : Int) : t4 kd ct id tx = h4 kd ct id tx ++ zs 4080 := by
  unfold t4
  rw [t3_lit, show (4088 : Nat) = 8 + 4080 by rfl, zs_add, splice_at (h3 kd ct id) (zs 8) (be tx 8) (zs 4080) 8 (h3_length _ _ _) (by rw [be_length, zs_length]), h4, List.append_assoc]
theorem t5_lit (kd ct id tx : Int) (bd : List Int) (hb : bd.length = 4072) : t5 kd ct id tx bd = plit kd ct id tx 0 bd := by
  unfold t5 plit
  rw [t4_lit, show (4080 : Nat) = (4 + 4) + 4072 by rfl, zs_add, be_zero, zs_add]
  have := splice_at (h4 kd ct id tx ++ (zs 4 ++ zs 4)) (zs 4072) bd [] 24 (by rw [List.length_append, h4_length, List.length_append, zs_length]) (by rw [hb, zs_length])
  simp only [List.append_nil] at this
  rw [← List.append_assoc, this]
  simp only [List.append_assoc]
theorem pg_lit (kd ct id tx : Int) (bd : List Int) (hb : bd.length = 4072) : pg kd ct id tx bd = plit kd ct id tx (crc (plit kd ct id tx 0 bd)) bd := by
  unfold pg
  rw [t5_lit kd ct id tx bd hb]
  obtain ⟨c, hc⟩ : ∃ c, crc (plit kd ct id tx 0 bd) = c := ⟨_, rfl⟩
  rw [hc]
  unfold plit
  exact splice_at (h4 kd ct id tx) (be 0 4) (be c 4) (zs 4 ++ bd) 16 (h4_length _ _ _ _) (by rw [be_length, be_length])

theorem h4_range (kd ct id tx : Int) : ∀ x, x ∈ h4 kd ct id tx → 0 ≤ x ∧ x ≤ 255 := by
  intro x hx
  simp only [h4, h3, h2, h1, List.mem_append] at hx
  rcases hx with (((h | h) | h) | h) | h
  · exact be_range _ _ x h
  · exact zs_range _ x h
  · exact be_range _ _ x h
  · exact be_range _ _ x h
  · exact be_range _ _ x h
theorem plit_range (kd ct id tx s : Int) (bd : List Int) (hb : ∀ x, x ∈ bd → 0 ≤ x ∧ x ≤ 255) : ∀ x, x ∈ plit kd ct id tx s bd → 0 ≤ x ∧ x ≤ 255 := by
  intro x hx
  simp only [plit, List.mem_append] at hx
  rcases hx with h | h | h | h
  · exact h4_range _ _ _ _ x h
  · exact be_range _ _ x h
  · exact zs_range _ x h
  · exact hb x h
theorem pg_range (kd ct id tx : Int) (bd : List Int) (hl : bd.length = 4072) (hb : ∀ x, x ∈ bd → 0 ≤ x ∧ x ≤ 255) : ∀ x, x ∈ pg kd ct id tx bd → 0 ≤ x ∧ x ≤ 255 := by
  rw [pg_lit _ _ _ _ _ hl]; exact plit_range _ _ _ _ _ _ hb
theorem t5_range (kd ct id tx : Int) (bd : List Int) (hl : bd.length = 4072) (hb : ∀ x, x ∈ bd → 0 ≤ x ∧ x ≤ 255) : ∀ x, x ∈ t5 kd ct id tx bd → 0 ≤ x ∧ x ≤ 255 := by
  rw [t5_lit _ _ _ _ _ hl]; exact plit_range _ _ _ _ _ _ hb

/-! ### The reference's number in bytes -/
theorem rput_one (k : Nat) (n : Int) (ys : List Int) (i : Int) : Ref.copseref1_Put.l0 (k + 1) n ys i = if i ≥ 0 then (if 0 ≤ (IntKind.u64.wrap (wrap64 (8 * i))) then (if ys.length < 140737488355328 then (Ref.copseref1_Put.l0 k n (ys ++ [(shr .u64 n (IntKind.u64.wrap (wrap64 (8 * i)))) % 256]) (wrap64 (i - 1))) else (none)) else (none)) else (some (ys, 0)) := rfl
theorem be_take_succ' (n : Int) (k j : Nat) (hj : j < k) : (be n k).take (j + 1) = (be n k).take j ++ [byteAt n (k - 1 - j)] := by
  rw [List.take_succ_eq_append_getElem (by rw [be_length]; exact hj)]
  simp [be]
theorem shr_byte (n : Int) (j : Nat) (hj : j < 8) : shr .u64 n (IntKind.u64.wrap (wrap64 (8 * (j : Int)))) = n / 2 ^ (8 * j) := by
  have e : IntKind.u64.wrap (wrap64 (8 * (j : Int))) = ((8 * j : Nat) : Int) := by
    have h1 : wrap64 (8 * (j : Int)) = 8 * (j : Int) := by unfold wrap64; omega
    rw [h1, u64w _ (by omega) (by omega)]; omega
  have hb : (IntKind.u64.bits : Nat) = 64 := rfl
  unfold shr
  rw [e, Int.toNat_natCast, hb, Nat.min_eq_left (by omega)]
theorem rput_l0 (n : Int) (w : Nat) (hw : w ≤ 8) : ∀ (m j k : Nat), w - j = m → j ≤ w → Ref.copseref1_Put.l0 (k + m + 1) n ((be n w).take j) ((w : Int) - 1 - j) = some (be n w, 0) := by
  intro m
  induction m with
  | zero =>
    intro j k hm hj
    obtain rfl : j = w := by omega
    rw [show k + 0 + 1 = k + 1 by rfl, rput_one, if_neg (by omega), List.take_of_length_le (by rw [be_length]; omega)]
  | succ m ih =>
    intro j k hm hj
    have hlt : j < w := by omega
    have hi : (w : Int) - 1 - j = ((w - 1 - j : Nat) : Int) := by omega
    have hs := shr_byte n (w - 1 - j) (by omega)
    have h2 := ih (j + 1) k (by omega) (by omega)
    have hwr : wrap64 ((w : Int) - 1 - j - 1) = (w : Int) - 1 - ((j + 1 : Nat) : Int) := by unfold wrap64; omega
    have h8 : wrap64 (8 * (((w - 1 - j : Nat) : Int))) = ((8 * (w - 1 - j) : Nat) : Int) := by unfold wrap64; omega
    rw [be_take_succ' n w j hlt, byteAt_shift, ← hs, ← hi] at h2
    rw [show k + (m + 1) + 1 = (k + m + 1) + 1 by omega, rput_one, if_pos (by omega), if_pos (by rw [hi, h8, u64w _ (by omega) (by omega)]; omega), if_pos (by rw [List.length_take, be_length]; omega), hwr, h2]
theorem rput_eval (n : Int) (w : Nat) (k : Nat) (h1 : 1 ≤ w) (h8 : w ≤ 8) (h0 : 0 ≤ n) (hn : n < 256 ^ w) : Ref.copseref1_Put.f (k + w + 2) n w = some (be n w, 0) := by
  have hl := rput_l0 n w h8 w 0 k (by omega) (by omega)
  have hj : Ref.copseref1_Put.j0 (k + w + 2) n w false = some (be n w, 0) := by
    rw [show k + w + 2 = (k + w + 1) + 1 by omega]
    show (if false = true then some (([] : List Int), (1 : Int)) else Ref.copseref1_Put.l0 (k + w + 1) n ([] : List Int) (wrap64 ((w : Int) - 1))) = _
    rw [if_neg (by simp), show wrap64 ((w : Int) - 1) = (w : Int) - 1 - (0 : Nat) by unfold wrap64; omega]
    exact hl
  unfold Ref.copseref1_Put.f
  rw [if_neg (by omega), if_neg (by omega)]
  by_cases h : w < 8
  · have hq : n / 2 ^ (8 * w) = 0 := by
      rw [Int.pow_mul]
      exact Int.ediv_eq_zero_of_lt h0 hn
    have h8' : wrap64 (8 * (w : Int)) = ((8 * w : Nat) : Int) := by unfold wrap64; omega
    rw [if_pos (by omega), if_pos (by rw [h8', u64w _ (by omega) (by omega)]; omega), shr_byte n w h, hq]
    exact hj
  · rw [if_neg (by omega)]
    exact hj
theorem rbytes_eval (n : Int) (w : Nat) (k : Nat) (h1 : 1 ≤ w) (h8 : w ≤ 8) (h0 : 0 ≤ n) (hn : n < 256 ^ w) (hn2 : n < 18446744073709551616) : Ref.copseref1_Bytes.f (k + w + 2) n w = some (be n w) := by
  unfold Ref.copseref1_Bytes.f
  rw [u64w n h0 hn2, rput_eval n w k h1 h8 h0 hn]
  rfl

/-! ### The reference's page -/
theorem page_one (k : Nat) (xs : List Int) (i a b c d : Int) (s : ByteArray) : Ref.copseref4_page.l0 (k + 1) xs i a b c d s = if i < (s.size : Int) then (if 0 ≤ i then (if xs.length < 140737488355328 then (Ref.copseref4_page.l0 k (xs ++ [bt s i]) (wrap64 (i + 1)) a b c d s) else (none)) else (none)) else (some xs) := rfl
theorem bt_sb (s : ByteArray) (i : Nat) (h : i < s.size) : bt s (i : Int) = (sb s)[i]'(by rw [sb_length]; exact h) := by
  unfold bt
  rw [dif_pos (by rw [Int.toNat_natCast]; exact h)]
  simp [sb]
  rfl
theorem page_l0 (xs : List Int) (hx : xs.length ≤ 1000) (a b c d : Int) (s : ByteArray) (hs : s.size ≤ 1000000000) : ∀ (m i k : Nat), s.size - i = m → i ≤ s.size → Ref.copseref4_page.l0 (k + m + 1) (xs ++ (sb s).take i) (i : Int) a b c d s = some (xs ++ sb s) := by
  intro m
  induction m with
  | zero =>
    intro i k hm hi
    obtain rfl : i = s.size := by omega
    rw [show k + 0 + 1 = k + 1 by rfl, page_one, if_neg (by omega), List.take_of_length_le (by rw [sb_length]; omega)]
  | succ m ih =>
    intro i k hm hi
    have hlt : i < s.size := by omega
    have h2 := ih (i + 1) k (by omega) (by omega)
    rw [List.take_succ_eq_append_getElem (by rw [sb_length]; exact hlt), ← bt_sb s i hlt, ← List.append_assoc] at h2
    rw [show k + (m + 1) + 1 = (k + m + 1) + 1 by omega, page_one, if_pos (by omega), if_pos (by omega), if_pos (by rw [List.length_append, List.length_take, sb_length]; omega), show ((i : Int) + 1) = ((i + 1 : Nat) : Int) by omega, wrapN (i + 1) (by omega), h2]
theorem be_one (n : Int) : be n 1 = [n % 256] := by
  simp [be, byteAt, List.range, List.range.loop]
theorem page_eval (kd ct id tx s : Int) (bd : ByteArray) (k : Nat) (hm : MayS kd ct id bd.size) (ht0 : 0 ≤ tx) (ht1 : tx < 18446744073709551616) (hs0 : 0 ≤ s) (hs1 : s ≤ 4294967295) :
    Ref.copseref4_page.f (k + 4073) kd id tx ct bd s = some (plit kd ct id tx s (sb bd)) := by
  unfold MayS at hm
  have b1 := rbytes_eval ct 2 (k + 4069) (by omega) (by omega) (by omega) (Int.lt_of_le_of_lt (show ct ≤ 65535 by omega) (by decide)) (by omega)
  have b2 := rbytes_eval id 4 (k + 4067) (by omega) (by omega) (by omega) (Int.lt_trans (show id < 1048576 by omega) (by decide)) (by omega)
  have b3 := rput_eval tx 8 (k + 4063) (by omega) (by omega) ht0 (Int.lt_of_lt_of_le ht1 (by decide))
  have b4 := rbytes_eval s 4 (k + 4067) (by omega) (by omega) hs0 (Int.lt_of_le_of_lt hs1 (by decide)) (by omega)
  have hw : wrap64 s = s := by unfold wrap64; omega
  have e1 : ([kd % 256, 0] : List Int) = h1 kd := by rw [h1, be_one]; rfl
  have c1 : Ref.copseref1_Bytes.f (k + 4073) ct 2 = some (be ct 2) := b1
  have c2 : Ref.copseref1_Bytes.f (k + 4073) id 4 = some (be id 4) := b2
  have c3 : Ref.copseref1_Put.f (k + 4073) tx 8 = some (be tx 8, 0) := b3
  have c4 : Ref.copseref1_Bytes.f (k + 4073) s 4 = some (be s 4) := b4
  unfold Ref.copseref4_page.f
  simp only [Option.bind_some, c1, c2, c3, c4, hw, e1]
  rw [if_pos (by rw [h1_length, be_length]; omega)]
  rw [show h1 kd ++ be ct 2 = h2 kd ct from rfl, if_pos (by rw [h2_length, be_length]; omega)]
  rw [show h2 kd ct ++ be id 4 = h3 kd ct id from rfl, if_pos (by rw [h3_length, be_length]; omega)]
  rw [show h3 kd ct id ++ be tx 8 = h4 kd ct id tx from rfl, if_pos (by rw [h4_length, be_length]; omega)]
  rw [if_pos (by rw [List.length_append, h4_length, be_length]; simp)]
  have hl := page_l0 (h4 kd ct id tx ++ be s 4 ++ [0, 0, 0, 0]) (by rw [List.length_append, List.length_append, h4_length, be_length]; simp) kd id tx ct bd (by omega) 4072 0 k (by omega) (by omega)
  rw [List.take_zero, List.append_nil] at hl
  refine Eq.trans hl ?_
  rw [plit, show ([0, 0, 0, 0] : List Int) = zs 4 from rfl]
  simp only [List.append_assoc]

theorem rmay_eval (kd ct id tx : Int) (bd : ByteArray) : Ref.copseref4_MayBe.f kd id tx ct bd = some (decide (MayS kd ct id bd.size)) := by
  have hsz : ((bd.size : Int) == 4072) = decide (bd.size = 4072) := by
    rw [Bool.eq_iff_iff, beq_iff_eq, decide_eq_true_iff]; omega
  unfold Ref.copseref4_MayBe.f MayS
  rw [hsz]
  by_cases h0 : kd = 66
  · by_cases h1 : id ≥ 2 <;> by_cases h2 : id < 1048576 <;> by_cases h3 : ct ≥ 0 <;> by_cases h4 : ct ≤ 65535 <;> simp [h0, h1, h2, h3, h4]
  · by_cases h5 : kd = 76
    · by_cases h1 : id ≥ 2 <;> by_cases h2 : id < 1048576 <;> by_cases h3 : ct ≥ 0 <;> by_cases h4 : ct ≤ 65535 <;> simp [h5, h1, h2, h3, h4]
    · simp [h0, h5]
/-- What the reference's Seal answers. -/
theorem rseal_eval (kd ct id tx : Int) (bd : ByteArray) (ht0 : 0 ≤ tx) (ht1 : tx < 18446744073709551616) : Ref.copseref4_Seal.f 50000 kd id tx ct bd = some (if MayS kd ct id bd.size then (pg kd ct id tx (sb bd), 0) else ([], 1)) := by
  unfold Ref.copseref4_Seal.f
  rw [rmay_eval]
  simp only [Option.bind_some]
  by_cases hm : MayS kd ct id bd.size
  · have hbl : (sb bd).length = 4072 := by rw [sb_length]; unfold MayS at hm; omega
    have hpl : (plit kd ct id tx 0 (sb bd)).length = 4096 := by rw [plit_length, hbl]
    have hcr := refCrc (plit kd ct id tx 0 (sb bd)) (plit_range _ _ _ _ _ _ (sb_range bd)) (by rw [hpl]; omega) 9039
    rw [hpl] at hcr
    have hc2 := crc_range (plit kd ct id tx 0 (sb bd))
    rw [if_pos (decide_eq_true hm), if_pos hm]
    have p1 := page_eval kd ct id tx 0 bd 45927 hm ht0 ht1 (by omega) (by omega)
    have p2 := page_eval kd ct id tx (crc (plit kd ct id tx 0 (sb bd))) bd 45927 hm ht0 ht1 hc2.1 hc2.2
    have q1 : Ref.copseref4_page.f 50000 kd id tx ct bd 0 = _ := p1
    have q2 : Ref.copseref4_page.f 50000 kd id tx ct bd (crc (plit kd ct id tx 0 (sb bd))) = _ := p2
    have q3 : Ref.copseref1_Crc.f 50000 (plit kd ct id tx 0 (sb bd)) = _ := hcr
    rw [q1]
    simp only [Option.bind_some]
    rw [q3]
    simp only [Option.bind_some]
    rw [q2]
    simp only [Option.bind_some]
    rw [pg_lit _ _ _ _ _ hbl]
  · rw [if_neg (by simp [hm]), if_neg hm]
theorem rseal_calls (kd ct id tx : Int) (bd : ByteArray) (w : World) (ht0 : 0 ≤ tx) (ht1 : tx < 18446744073709551616) (L : List Int) (n : Int) (hL : (if MayS kd ct id bd.size then (pg kd ct id tx (sb bd), (0 : Int)) else ([], 1)) = (L, n)) :
    Calls Tryd.prog 23 #[.agg #[.int .i64 kd, .int .i64 id, .int .u64 tx, .int .i64 ct, .string bd]] w fun e w' => ∃ v, e = .returned (.tuple #[v, .int .i64 n]) ∧ OwnB w' w.heap.size v L ∧ Below w.heap.size w w' :=
  (Ref.copseref4_Seal.calls 50000 kd id tx ct bd L n w (by rw [rseal_eval kd ct id tx bd ht0 ht1, hL])).mono fun _ _ ⟨v, he, ho, hb⟩ => ⟨v, he, .of ho, hb⟩
end Go.Proofs.YtoenacghkpgnpaaDoor.Sh
