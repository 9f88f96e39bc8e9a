/- Layer 1 without Go: numbers in bytes; the sum by nibbles. -/
import Derived.Test.YtoenacghkpgnpaaDoorKit
namespace Go.Proofs.YtoenacghkpgnpaaDoor.P1
open Go.RowKit Go.Proofs.YtoenacghkpgnpaaDoor.K

/-- The table of the sum. -/
def steps : List Int := [0, 274646895, 549293790, 820201905, 1098587580, 1361435347, 1640403810, 1905808397, 2197175160, 2460548119, 2722870694, 2987750089, 3280807620, 3553878443, 3811616794, 4084100981]

theorem bits32_range (op : BinOp) (x y : Int) : 0 ≤ bits op .u32 x y ∧ bits op .u32 x y ≤ 4294967295 := by
  unfold bits
  simp only [IntKind.wrap_u32]
  omega
theorem bits32_xor (x y : Int) : bits .xor .u32 x y = (((BitVec.ofInt 32 x) ^^^ (BitVec.ofInt 32 y)).toNat : Int) % 4294967296 := by
  rw [← IntKind.wrap_u32]; rfl
theorem bits32_and (x y : Int) : bits .and .u32 x y = (((BitVec.ofInt 32 x) &&& (BitVec.ofInt 32 y)).toNat : Int) % 4294967296 := by
  rw [← IntKind.wrap_u32]; rfl
theorem xor32_nat (a b : Nat) (ha : a < 4294967296) (hb : b < 4294967296) : bits .xor .u32 (a : Int) (b : Int) = ((a ^^^ b : Nat) : Int) := by
  have h : a ^^^ b < 2 ^ 32 := Nat.xor_lt_two_pow (by omega) (by omega)
  rw [bits32_xor, BitVec.ofInt_natCast, BitVec.ofInt_natCast, BitVec.toNat_xor, BitVec.toNat_ofNat, BitVec.toNat_ofNat]
  rw [Nat.mod_eq_of_lt (show a < 2 ^ 32 by omega), Nat.mod_eq_of_lt (show b < 2 ^ 32 by omega)]
  omega
theorem and15_nat (a : Nat) (ha : a < 4294967296) : bits .and .u32 (a : Int) 15 = ((a % 16 : Nat) : Int) := by
  have h : a &&& 15 = a % 16 := Nat.and_two_pow_sub_one_eq_mod a 4
  have h15 : BitVec.ofInt 32 15 = BitVec.ofNat 32 15 := by decide
  rw [bits32_and, BitVec.ofInt_natCast, h15, BitVec.toNat_and, BitVec.toNat_ofNat, BitVec.toNat_ofNat]
  rw [Nat.mod_eq_of_lt (show a < 2 ^ 32 by omega), Nat.mod_eq_of_lt (show 15 < 2 ^ 32 by omega), h]
  omega

/-- Four steps of the register, by the table. -/
def nib (x : Int) : Int := bits .xor .u32 (x / 16) (steps.getD (bits .and .u32 x 15).toNat 0)
def byte (r b : Int) : Int := nib (nib (bits .xor .u32 r b))
def reg (r : Int) (xs : List Int) : Int := xs.foldl byte r
/-- The sum of some bytes. -/
def crc (xs : List Int) : Int := bits .xor .u32 4294967295 (reg (bits .xor .u32 4294967295 0) xs)

theorem nib_range (x : Int) : 0 ≤ nib x ∧ nib x ≤ 4294967295 := bits32_range _ _ _
theorem byte_range (r b : Int) : 0 ≤ byte r b ∧ byte r b ≤ 4294967295 := nib_range _
theorem reg_range (r : Int) (h : 0 ≤ r ∧ r ≤ 4294967295) (xs : List Int) : 0 ≤ reg r xs ∧ reg r xs ≤ 4294967295 := by
  induction xs generalizing r with
  | nil => exact h
  | cons x xs ih => exact ih _ (byte_range r x)
theorem crc_range (xs : List Int) : 0 ≤ crc xs ∧ crc xs ≤ 4294967295 := bits32_range _ _ _
theorem reg_snoc (r : Int) (xs : List Int) (b : Int) : reg r (xs ++ [b]) = byte (reg r xs) b := by simp [reg]
theorem nib_index (x : Int) (h0 : 0 ≤ x) (h1 : x ≤ 4294967295) : ∃ i : Nat, i < 16 ∧ bits .and .u32 x 15 = (i : Int) ∧ bits .xor .u32 (x / 16) (steps.getD i 0) = nib x := by
  obtain ⟨n, rfl⟩ := Int.eq_ofNat_of_zero_le h0
  have h := and15_nat n (by omega)
  exact ⟨n % 16, by omega, h, by unfold nib; rw [h, Int.toNat_natCast]⟩

/-! ### Numbers in bytes, the highest first -/
def byteAt (n : Int) (j : Nat) : Int := n / 256 ^ j % 256
def be (n : Int) (k : Nat) : List Int := (List.range k).map fun p => byteAt n (k - 1 - p)
theorem be_length (n : Int) (k : Nat) : (be n k).length = k := by simp [be]
theorem byteAt_range (n : Int) (j : Nat) : 0 ≤ byteAt n j ∧ byteAt n j ≤ 255 := by unfold byteAt; omega
theorem be_range (n : Int) (k : Nat) : ∀ x, x ∈ be n k → 0 ≤ x ∧ x ≤ 255 := by
  intro x hx
  obtain ⟨p, _, rfl⟩ := List.mem_map.1 hx
  exact byteAt_range _ _
theorem byteAt_shift (n : Int) (j : Nat) : byteAt n j = n / 2 ^ (8 * j) % 256 := by
  unfold byteAt
  rw [show (256 : Int) = 2 ^ 8 by rfl, ← Int.pow_mul]
/-- The eight places while they are filled from behind. -/
def all8 (n : Int) (k : Nat) : List Int := (List.range 8).map fun p => if 8 - k ≤ p then byteAt n (7 - p) else 0
theorem all8_length (n : Int) (k : Nat) : (all8 n k).length = 8 := by simp [all8]
theorem all8_zero (n : Int) : all8 n 0 = List.replicate 8 0 := by simp [all8, List.range, List.range.loop]
theorem all8_get (n : Int) (j : Nat) (h : j < 8) : (all8 n j)[7 - j]? = some 0 := by
  have h7 : 7 - j < 8 := by omega
  simp only [all8, List.getElem?_map, List.getElem?_range h7, Option.map_some]
  rw [if_neg (by omega)]
theorem all8_succ (n : Int) (j : Nat) (h : j < 8) : (all8 n j).set (7 - j) (n / 2 ^ (8 * j) % 256) = all8 n (j + 1) := by
  apply List.ext_getElem
  · simp [all8]
  · intro i hi1 hi2
    have hi : i < 8 := by simpa [all8] using hi2
    rw [List.getElem_set]
    simp only [all8, List.getElem_map, List.getElem_range]
    split
    · rename_i e; subst e
      rw [if_pos (by omega), byteAt_shift, show 7 - (7 - j) = j by omega]
    · by_cases h2 : 8 - (j + 1) ≤ i
      · rw [if_pos (by omega), if_pos h2]
      · rw [if_neg (by omega), if_neg h2]
theorem all8_tail (n : Int) (k : Nat) (h : k ≤ 8) : (all8 n 8).drop (8 - k) = be n k := by
  apply List.ext_getElem
  · simp [all8, be]; omega
  · intro i h1 h2
    have hi : i < k := by simpa [be] using h2
    simp only [List.getElem_drop, all8, be, List.getElem_map, List.getElem_range]
    rw [if_pos (by omega), show 7 - (8 - k + i) = k - 1 - i by omega]
/-- The number in some bytes, the highest first. -/
def num (xs : List Int) : Int := xs.foldl (fun n b => n * 256 + b) 0
theorem num_snoc (xs : List Int) (b : Int) : num (xs ++ [b]) = num xs * 256 + b := by simp [num]
theorem pow256_pos (a : Nat) : 0 < (256 : Int) ^ a := by
  induction a with
  | zero => decide
  | succ a ih => rw [Int.pow_succ]; omega
theorem pow256_le (a b : Nat) (h : a ≤ b) : (256 : Int) ^ a ≤ 256 ^ b := by
  induction b with
  | zero => obtain rfl : a = 0 := by omega
            exact Int.le_refl _
  | succ b ih =>
    rcases Nat.lt_or_ge b a with hb | hb
    · obtain rfl : a = b + 1 := by omega
      exact Int.le_refl _
    · have h1 := ih hb
      have h2 := pow256_pos b
      rw [Int.pow_succ (256 : Int) b]; omega
theorem num_from (xs : List Int) (hx : ∀ x, x ∈ xs → 0 ≤ x ∧ x ≤ 255) : ∀ (n : Int) (j : Nat), 0 ≤ n → n < 256 ^ j → 0 ≤ xs.foldl (fun n b => n * 256 + b) n ∧ xs.foldl (fun n b => n * 256 + b) n < 256 ^ (j + xs.length) := by
  induction xs with
  | nil => exact fun n j h0 h1 => ⟨h0, h1⟩
  | cons b xs ih =>
    intro n j h0 h1
    have hb := hx b (by simp)
    have h := ih (fun x hx' => hx x (by simp [hx'])) (n * 256 + b) (j + 1) (by omega) (by rw [Int.pow_succ]; omega)
    rw [List.length_cons, show j + (xs.length + 1) = j + 1 + xs.length by omega]
    exact h
theorem num_range (xs : List Int) (hx : ∀ x, x ∈ xs → 0 ≤ x ∧ x ≤ 255) : 0 ≤ num xs ∧ num xs < 256 ^ xs.length := by
  have h := num_from xs hx 0 0 (by omega) (by decide)
  rw [Nat.zero_add] at h
  exact h
theorem or_u64 (n b : Int) (h0 : 0 ≤ n) (h1 : n < 72057594037927936) (hb0 : 0 ≤ b) (hb1 : b ≤ 255) : bits .or .u64 (n * 256) b = n * 256 + b := by
  obtain ⟨n, rfl⟩ := Int.eq_ofNat_of_zero_le h0
  obtain ⟨b, rfl⟩ := Int.eq_ofNat_of_zero_le hb0
  have e : ((n : Int) * 256) = ((n * 256 : Nat) : Int) := by omega
  rw [e, bits_or_u64_nat _ _ (by omega) (by omega)]
  have h : n * 256 ||| b = n * 256 + b := by
    have := Nat.shiftLeft_add_eq_or_of_lt (show b < 2 ^ 8 by omega) n
    rw [Nat.shiftLeft_eq] at this
    exact this.symm
  rw [h]; omega
end Go.Proofs.YtoenacghkpgnpaaDoor.P1
