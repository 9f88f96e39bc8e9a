/- The sum bit by bit is the sum by nibbles; when two lists of bytes are the same; the bytes of a meta, one behind the other. -/
import Derived.Test.YtoenacghkpgnpaaDoorRefW
import Derived.Test.YtoenacghkpgnpaaDoorRex1
namespace Go.Proofs.YtoenacghkpgnpaaDoor.P1
open Go.RowKit Go.Proofs.YtoenacghkpgnpaaDoor.K Go.Proofs.YtoenacghkpgnpaaDoor.Meta Go.Proofs.YtoenacghkpgnpaaDoor.R5

/-! ### One step of the register -/
def bs (x : Nat) : Nat := if x % 2 = 1 then (x / 2) ^^^ 2197175160 else x / 2
theorem bs_xor (a b : Nat) : bs (a ^^^ b) = bs a ^^^ bs b := by
  unfold bs
  have hm : (a ^^^ b) % 2 = (a % 2) ^^^ (b % 2) := Nat.xor_mod_two_pow (n := 1)
  have hd : (a ^^^ b) / 2 = a / 2 ^^^ b / 2 := Nat.xor_div_two_pow (n := 1)
  rw [hm, hd]
  rcases Nat.mod_two_eq_zero_or_one a with ha | ha <;> rcases Nat.mod_two_eq_zero_or_one b with hb | hb <;> rw [ha, hb]
  · rfl
  · simp [Nat.xor_assoc]
  · simp only [if_true]
    rw [show (1 ^^^ 0 : Nat) = 1 by rfl, if_pos rfl, if_neg (by decide), Nat.xor_assoc, Nat.xor_comm (b / 2), Nat.xor_assoc]
  · simp only [Nat.xor_self, if_true]
    rw [if_neg (by decide), Nat.xor_comm (b / 2), Nat.xor_assoc, ← Nat.xor_assoc 2197175160, Nat.xor_self, Nat.zero_xor]
theorem bs_two (h : Nat) : bs (2 * h) = h := by unfold bs; rw [if_neg (by omega)]; omega
theorem bs_lt (x : Nat) (h : x < 4294967296) : bs x < 4294967296 := by
  unfold bs
  split
  · exact Nat.xor_lt_two_pow (n := 32) (by omega) (by decide)
  · omega
def nibN (x : Nat) : Nat := bs (bs (bs (bs x)))
theorem nibN_split (h l : Nat) (hl : l < 16) : nibN (16 * h + l) = h ^^^ nibN l := by
  have e : 16 * h + l = (16 * h) ^^^ l := by
    have := Nat.shiftLeft_add_eq_or_of_lt (show l < 2 ^ 4 by omega) h
    rw [Nat.shiftLeft_eq] at this
    have hx : (16 * h) ^^^ l = (16 * h) ||| l := by
      have hand : (16 * h) &&& l = 0 := by
        apply Nat.eq_of_testBit_eq
        intro i
        rw [Nat.testBit_and, Nat.zero_testBit]
        by_cases hi : i < 4
        · have : (16 * h).testBit i = false := by
            rw [show 16 * h = 2 ^ 4 * h by omega, Nat.testBit_two_pow_mul]
            simp; omega
          simp [this]
        · have : l.testBit i = false := Nat.testBit_lt_two_pow (Nat.lt_of_lt_of_le hl (by
            have : 2 ^ 4 ≤ 2 ^ i := Nat.pow_le_pow_right (by omega) (by omega)
            omega))
          simp [this]
      apply Nat.eq_of_testBit_eq
      intro i
      have h1 : ((16 * h) &&& l).testBit i = false := by rw [hand]; exact Nat.zero_testBit i
      rw [Nat.testBit_and] at h1
      rw [Nat.testBit_xor, Nat.testBit_or]
      generalize (16 * h).testBit i = u at h1 ⊢
      generalize l.testBit i = v at h1 ⊢
      cases u <;> cases v <;> first | rfl | exact absurd h1 (by decide)
    rw [hx, show 16 * h = h * 2 ^ 4 by omega, ← this]
  unfold nibN
  rw [e, bs_xor, bs_xor, bs_xor, bs_xor, show 16 * h = 2 * (2 * (2 * (2 * h))) by omega, bs_two, bs_two, bs_two, bs_two]
theorem nibN_table : ∀ l : Nat, l < 16 → ((nibN l : Nat) : Int) = steps.getD l 0 := by decide
theorem nib_nat (x : Nat) (h : x < 4294967296) : nib (x : Int) = ((nibN x : Nat) : Int) := by
  have e := nibN_split (x / 16) (x % 16) (by omega)
  rw [show 16 * (x / 16) + x % 16 = x by omega] at e
  have ht := nibN_table (x % 16) (by omega)
  have hl : nibN (x % 16) < 4294967296 := bs_lt _ (bs_lt _ (bs_lt _ (bs_lt _ (by omega))))
  unfold nib
  rw [and15_nat x h, Int.toNat_natCast, ← ht, show ((x : Int) / 16) = ((x / 16 : Nat) : Int) by omega, xor32_nat _ _ (by omega) hl, ← e]

/-! ### The steps as the reference does them -/
def bsI (x : Int) : Int := if bits .and .u32 x 1 = 1 then bits .xor .u32 (x / 2) 2197175160 else x / 2
theorem and1_nat (a : Nat) (ha : a < 4294967296) : bits .and .u32 (a : Int) 1 = ((a % 2 : Nat) : Int) := by
  have h : a &&& 1 = a % 2 := Nat.and_one_is_mod a
  have h15 : BitVec.ofInt 32 1 = BitVec.ofNat 32 1 := by decide
  rw [bits32_and, BitVec.ofInt_natCast, h15, BitVec.toNat_and, BitVec.toNat_ofNat, BitVec.toNat_ofNat]
  rw [Nat.mod_eq_of_lt (show a < 2 ^ 32 by omega), Nat.mod_eq_of_lt (show 1 < 2 ^ 32 by omega), h]
  omega
theorem bsI_nat (x : Nat) (h : x < 4294967296) : bsI (x : Int) = ((bs x : Nat) : Int) := by
  unfold bsI bs
  rw [and1_nat x h]
  by_cases e : x % 2 = 1
  · rw [if_pos (by omega), if_pos e, show ((x : Int) / 2) = ((x / 2 : Nat) : Int) by omega]
    exact xor32_nat (x / 2) 2197175160 (by omega) (by decide)
  · rw [if_neg (by omega), if_neg e]; omega
/-- So many steps. -/
def stepsI : Nat → Int → Int
  | 0, x => x
  | n + 1, x => stepsI n (bsI x)
theorem steps8 (x : Nat) (h : x < 4294967296) : stepsI 8 (x : Int) = nib (nib (x : Int)) := by
  have h1 := bs_lt x h
  have h2 := bs_lt _ h1
  have h3 := bs_lt _ h2
  have h4 := bs_lt _ h3
  have h5 := bs_lt _ h4
  have h6 := bs_lt _ h5
  have h7 := bs_lt _ h6
  rw [nib_nat x h, nib_nat _ (show nibN x < 4294967296 from h4)]
  simp only [stepsI]
  rw [bsI_nat x h, bsI_nat _ h1, bsI_nat _ h2, bsI_nat _ h3, bsI_nat _ h4, bsI_nat _ h5, bsI_nat _ h6, bsI_nat _ h7]
  rfl

theorem wrapS (i : Int) (h0 : 0 ≤ i) (h1 : i < 9223372036854775807) : wrap64 (i + 1) = i + 1 := by unfold wrap64; omega

theorem l1_one (k : Nat) (xs : List Int) (x i j : Int) : Ref.copseref1_CrcMore.l1 (k + 1) xs x i j = if j < 8 then (if bits .and .u32 x 1 = 1 then Ref.copseref1_CrcMore.l1 k xs (bits .xor .u32 (x / 2) 2197175160) i (wrap64 (j + 1)) else Ref.copseref1_CrcMore.l1 k xs (x / 2) i (wrap64 (j + 1))) else Ref.copseref1_CrcMore.l0 k xs x (wrap64 (i + 1)) := by
  rw [Ref.copseref1_CrcMore.l1]
theorem l0_one (k : Nat) (xs : List Int) (x i : Int) : Ref.copseref1_CrcMore.l0 (k + 1) xs x i = if i < (xs.length : Int) then (if 0 ≤ i then Ref.copseref1_CrcMore.l1 k xs (bits .xor .u32 x ((Go.Proofs.YtoenacghkpgnpaaDoorW.PrintWords.rd xs i) % 4294967296)) i 0 else none) else some (bits .xor .u32 x 4294967295) := by
  rw [Ref.copseref1_CrcMore.l0]
theorem same_one (k : Nat) (xs ys : List Int) (i : Int) : Ref.copseref0_SameBytes.l0 (k + 1) xs ys i = if i < (xs.length : Int) then (if 0 ≤ i then (if i < (ys.length : Int) then (if Go.Proofs.YtoenacghkpgnpaaDoorW.PrintWords.rd xs i = Go.Proofs.YtoenacghkpgnpaaDoorW.PrintWords.rd ys i then Ref.copseref0_SameBytes.l0 k xs ys (wrap64 (i + 1)) else some false) else none) else none) else some true := by
  rw [Ref.copseref0_SameBytes.l0]
theorem l1_eval (xs : List Int) (i : Int) (k : Nat) : ∀ (n : Nat) (j : Int) (x : Int), 0 ≤ j → (8 - j : Int) = n → Ref.copseref1_CrcMore.l1 (k + n + 1) xs x i j = Ref.copseref1_CrcMore.l0 k xs (stepsI n x) (wrap64 (i + 1)) := by
  intro n
  induction n with
  | zero =>
    intro j x h0 hn
    rw [show k + 0 + 1 = k + 1 by rfl, l1_one, if_neg (by omega)]
    rfl
  | succ n ih =>
    intro j x h0 hn
    rw [show k + (n + 1) + 1 = (k + n + 1) + 1 by omega]
    rw [l1_one, if_pos (by omega), wrapS j h0 (by omega)]
    simp only [stepsI]
    unfold bsI
    by_cases e : bits .and .u32 x 1 = 1
    · rw [if_pos e, if_pos e, ih (j + 1) _ (by omega) (by omega)]
    · rw [if_neg e, if_neg e, ih (j + 1) _ (by omega) (by omega)]
theorem l0_eval (xs : List Int) (hx : ∀ x, x ∈ xs → 0 ≤ x ∧ x ≤ 255) (hl : xs.length < 9223372036854775807) : ∀ (n : Nat) (i : Nat) (r : Int) (k : Nat), xs.length - i = n → i ≤ xs.length → 0 ≤ r ∧ r ≤ 4294967295 →
    Ref.copseref1_CrcMore.l0 (k + 10 * n + 1) xs r (i : Int) = some (bits .xor .u32 (reg r (xs.drop i)) 4294967295) := by
  intro n
  induction n with
  | zero =>
    intro i r k hn hi hr
    obtain rfl : i = xs.length := by omega
    rw [show k + 10 * 0 + 1 = k + 1 by rfl, l0_one, if_neg (by omega), List.drop_length]
    rfl
  | succ n ih =>
    intro i r k hn hi hr
    have hlt : i < xs.length := by omega
    obtain ⟨b, hb⟩ : ∃ b, xs[i] = b := ⟨_, rfl⟩
    have hbr := hx b (hb ▸ List.getElem_mem hlt)
    have hrd : Go.Proofs.YtoenacghkpgnpaaDoorW.PrintWords.rd xs (i : Int) = b := by
      unfold Go.Proofs.YtoenacghkpgnpaaDoorW.PrintWords.rd
      rw [Int.toNat_natCast, List.getD_eq_getElem?_getD, List.getElem?_eq_getElem hlt, ← hb]; rfl
    rw [show k + 10 * (n + 1) + 1 = ((k + 10 * n + 1) + 8 + 1) + 1 by omega]
    rw [l0_one, if_pos (by omega), if_pos (by omega), l1_eval xs i (k + 10 * n + 1) 8 0 _ (by omega) (by omega), hrd, show b % 4294967296 = b by omega, wrapS (i : Int) (by omega) (by omega)]
    have hxr := bits32_range .xor r b
    obtain ⟨y, hy⟩ := Int.eq_ofNat_of_zero_le hxr.1
    rw [hy, steps8 y (by omega), ← hy]
    have := ih (i + 1) (byte r b) k (by omega) (by omega) (byte_range r b)
    rw [show ((i : Int) + 1) = ((i + 1 : Nat) : Int) by omega]
    refine this.trans ?_
    rw [List.drop_eq_getElem_cons hlt, hb]
    rfl
theorem xor_comm32 (a b : Int) : bits .xor .u32 a b = bits .xor .u32 b a := by rw [bits32_xor, bits32_xor, BitVec.xor_comm]
/-- The reference's sum. -/
theorem refCrc (xs : List Int) (hx : ∀ x, x ∈ xs → 0 ≤ x ∧ x ≤ 255) (hl : xs.length < 9223372036854775807) (k : Nat) : Ref.copseref1_Crc.f (k + 10 * xs.length + 1) xs = some (crc xs) := by
  unfold Ref.copseref1_Crc.f Ref.copseref1_CrcMore.f
  have h := l0_eval xs hx hl xs.length 0 (bits .xor .u32 0 4294967295) k (by omega) (by omega) (bits32_range _ _ _)
  have h' : Ref.copseref1_CrcMore.l0 (k + 10 * xs.length + 1) xs (bits .xor .u32 0 4294967295) 0 = _ := h
  rw [h']
  simp only [Option.bind_some, List.drop_zero]
  unfold crc
  rw [xor_comm32 4294967295 (reg _ _), xor_comm32 4294967295 0]

/-! ### The same bytes -/
theorem same_l0 (xs ys : List Int) (hl : xs.length = ys.length) (hm : xs.length < 9223372036854775807) : ∀ (n i k : Nat), xs.length - i = n → i ≤ xs.length →
    Ref.copseref0_SameBytes.l0 (k + n + 1) xs ys (i : Int) = some (decide (xs.drop i = ys.drop i)) := by
  intro n
  induction n with
  | zero =>
    intro i k hn hi
    obtain rfl : i = xs.length := by omega
    rw [show k + 0 + 1 = k + 1 by rfl, same_one, if_neg (by omega), List.drop_length, hl, List.drop_length]
    simp
  | succ n ih =>
    intro i k hn hi
    have hlt : i < xs.length := by omega
    have hlt' : i < ys.length := by omega
    have hrd : ∀ (zs : List Int) (h : i < zs.length), Go.Proofs.YtoenacghkpgnpaaDoorW.PrintWords.rd zs (i : Int) = zs[i] := fun zs h => by
      unfold Go.Proofs.YtoenacghkpgnpaaDoorW.PrintWords.rd
      rw [Int.toNat_natCast, List.getD_eq_getElem?_getD, List.getElem?_eq_getElem h]; rfl
    rw [show k + (n + 1) + 1 = (k + n + 1) + 1 by omega]
    rw [same_one, if_pos (by omega), if_pos (by omega), if_pos (by omega), hrd xs hlt, hrd ys hlt', show xs.drop i = xs[i] :: xs.drop (i + 1) from List.drop_eq_getElem_cons hlt, show ys.drop i = ys[i] :: ys.drop (i + 1) from List.drop_eq_getElem_cons hlt']
    by_cases e : xs[i] = ys[i]
    · rw [if_pos e, wrapS (i : Int) (by omega) (by omega), show ((i : Int) + 1) = ((i + 1 : Nat) : Int) by omega, ih (i + 1) k (by omega) (by omega)]
      refine congrArg some ?_
      rw [decide_eq_decide, List.cons.injEq]
      exact ⟨fun h => ⟨e, h⟩, fun h => h.2⟩
    · rw [if_neg e]
      exact congrArg some (decide_eq_false (fun h => e (List.cons.inj h).1)).symm
theorem same_eval (xs ys : List Int) (hm : xs.length < 9223372036854775807) (k : Nat) : Ref.copseref0_SameBytes.f (k + xs.length + 1) xs ys = some (decide (xs = ys)) := by
  unfold Ref.copseref0_SameBytes.f
  by_cases hl : xs.length = ys.length
  · rw [if_pos (by omega)]
    have := same_l0 xs ys hl hm xs.length 0 k (by omega) (by omega)
    simpa using this
  · rw [if_neg (by omega)]
    have : xs ≠ ys := fun e => hl (by rw [e])
    simp [this]

/-! ### The bytes of a meta -/
theorem splice_mid (A B B' C : List Int) (h : B'.length = B.length) : splice (A ++ (B ++ C)) A.length B' = A ++ (B' ++ C) := by
  unfold splice
  have e : (A ++ (B ++ C)).drop (A.length + B'.length) = C := by rw [h, ← List.append_assoc]; exact List.drop_left' (by simp)
  rw [List.take_left, e]
theorem zs_add (a b : Nat) : zs (a + b) = zs a ++ zs b := by simp [zs, List.replicate_append_replicate]
theorem be_zero (k : Nat) : be 0 k = zs k := by
  apply List.ext_getElem
  · simp [be, zs]
  · intro i h1 h2
    simp [be, zs, byteAt]
theorem w0_lit : w0 = sign ++ zs 504 := by
  unfold w0
  rw [show (512 : Nat) = 8 + 504 by rfl, zs_add]
  exact splice_mid [] (zs 8) sign (zs 504) rfl
theorem w1_lit (p : Int) : w1 p = (sign ++ be p 4) ++ zs 500 := by
  unfold w1
  rw [w0_lit, show (504 : Nat) = 4 + 500 by rfl, zs_add]
  have := splice_mid sign (zs 4) (be p 4) (zs 500) (by rw [be_length, zs_length])
  rw [show sign.length = 8 by rfl] at this
  rw [this, List.append_assoc]
theorem w2_lit (p r : Int) : w2 p r = ((sign ++ be p 4) ++ be r 4) ++ zs 496 := by
  unfold w2
  rw [w1_lit, show (500 : Nat) = 4 + 496 by rfl, zs_add]
  have := splice_mid (sign ++ be p 4) (zs 4) (be r 4) (zs 496) (by rw [be_length, zs_length])
  rw [show (sign ++ be p 4).length = 12 by rw [List.length_append, be_length]; rfl] at this
  rw [this, List.append_assoc (sign ++ be p 4)]
theorem w3_lit (p r t : Int) : w3 p r t = (((sign ++ be p 4) ++ be r 4) ++ be t 8) ++ zs 488 := by
  unfold w3
  rw [w2_lit, show (496 : Nat) = 8 + 488 by rfl, zs_add]
  have := splice_mid ((sign ++ be p 4) ++ be r 4) (zs 8) (be t 8) (zs 488) (by rw [be_length, zs_length])
  rw [show ((sign ++ be p 4) ++ be r 4).length = 16 by rw [List.length_append, List.length_append, be_length, be_length]; rfl] at this
  rw [this, List.append_assoc ((sign ++ be p 4) ++ be r 4)]
theorem w3_lit0 (p r t : Int) : w3 p r t = lit p r t 0 := by
  rw [w3_lit, lit, lit0, be_zero, show (488 : Nat) = 4 + 484 by rfl, zs_add, List.append_assoc _ (zs 4)]
theorem wr_lit (p r t : Int) : wr p r t = lit p r t (crc (w3 p r t)) := by
  unfold wr
  obtain ⟨c, hc⟩ : ∃ c, crc (w3 p r t) = c := ⟨_, rfl⟩
  rw [hc, w3_lit, show (488 : Nat) = 4 + 484 by rfl, zs_add]
  have := splice_mid (((sign ++ be p 4) ++ be r 4) ++ be t 8) (zs 4) (be c 4) (zs 484) (by rw [be_length, zs_length])
  rw [show (((sign ++ be p 4) ++ be r 4) ++ be t 8).length = 24 by rw [List.length_append, List.length_append, List.length_append, be_length, be_length, be_length]; rfl] at this
  rw [this, lit, lit0, List.append_assoc _ (be c 4)]

/-- What the reference's Encode answers. -/
theorem refEncode (p r t : Int) (k : Nat) : Ref.copseref5_Encode.f (k + 10 * 512 + 1) p r t = some (if MayM p r then (wr p r t, 0) else ([], 1)) := by
  unfold Ref.copseref5_Encode.f
  have hmay : Ref.copseref5_MayBe.f p r t = some (decide (MayM p r)) := by
    unfold Ref.copseref5_MayBe.f Ref.copseref5_pagesMayBe.f MayM
    by_cases h1 : p ≥ 4
    · by_cases h2 : p ≤ 1048576
      · by_cases h3 : r = 0
        · simp [h1, h2, h3]
        · by_cases h4 : r ≥ 2
          · simp [h1, h2, h3, h4]
          · simp [h1, h2, h3, h4]
      · simp [h1, h2]
    · simp [h1]
  rw [hmay]
  simp only [Option.bind_some]
  by_cases hm : MayM p r
  · rw [if_pos hm, if_pos (decide_eq_true hm)]
    have hw : ∀ x : Int, 0 ≤ x → x ≤ 4294967295 → IntKind.u64.wrap x = x := fun x h0 h1 => IntWalk.u64_in x (by omega)
    have hp : 4 ≤ p ∧ p ≤ 1048576 ∧ 0 ≤ r ∧ r ≤ 1048576 := by unfold MayM at hm; omega
    simp only [Ref.copseref5_written.f, Option.bind_some]
    rw [hw p (by omega) (by omega), hw r (by omega) (by omega), hw 0 (by omega) (by omega), ← w3_lit0]
    have hc := refCrc (w3 p r t) (w3_range p r t) (by rw [w3_length]; omega) k
    rw [w3_length] at hc
    rw [hc]
    simp only [Option.bind_some]
    have hcr := crc_range (w3 p r t)
    rw [hw _ hcr.1 hcr.2, ← wr_lit]
  · rw [if_neg hm, if_neg (by simp [hm])]
end Go.Proofs.YtoenacghkpgnpaaDoor.P1
