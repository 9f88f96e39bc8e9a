/- The sum of bytes tells a change within four bytes that follow one another. -/
import Derived.Test.YtoenacghkpgnpaaDoorPureRef1
namespace Go.Proofs.YtoenacghkpgnpaaDoor.Burst
open Go.RowKit Go.Proofs.YtoenacghkpgnpaaDoor.P1

theorem xlc {a b c : Nat} (h : a ^^^ b = a ^^^ c) : b = c := by
  have := congrArg (a ^^^ ·) h
  simpa [← Nat.xor_assoc] using this
theorem xrc {a b c : Nat} (h : a ^^^ c = b ^^^ c) : a = b := xlc (a := c) (by rw [Nat.xor_comm c a, Nat.xor_comm c b]; exact h)
theorem bs_inj (x y : Nat) (hx : x < 4294967296) (hy : y < 4294967296) (h : bs x = bs y) : x = y := by
  have top : ∀ z : Nat, z < 2147483648 → (z ^^^ 2197175160) / 2147483648 = 1 := fun z hz => by
    have := Nat.xor_div_two_pow (a := z) (b := 2197175160) (n := 31)
    rw [show (2 : Nat) ^ 31 = 2147483648 from rfl] at this
    rw [this, Nat.div_eq_of_lt hz]; decide
  unfold bs at h
  by_cases h1 : x % 2 = 1
  · by_cases h2 : y % 2 = 1
    · rw [if_pos h1, if_pos h2] at h
      have h3 : x / 2 = y / 2 := xrc h
      omega
    · rw [if_pos h1, if_neg h2] at h
      have := top (x / 2) (by omega)
      rw [h] at this
      omega
  · by_cases h2 : y % 2 = 1
    · rw [if_neg h1, if_pos h2] at h
      have := top (y / 2) (by omega)
      rw [← h] at this
      omega
    · rw [if_neg h1, if_neg h2] at h
      omega
def it : Nat → Nat → Nat
  | 0, x => x
  | n + 1, x => it n (bs x)
theorem it_xor : ∀ (n a b : Nat), it n (a ^^^ b) = it n a ^^^ it n b
  | 0, _, _ => rfl
  | n + 1, a, b => by rw [it, it, it, bs_xor, it_xor n]
theorem it_lt : ∀ (n x : Nat), x < 4294967296 → it n x < 4294967296
  | 0, _, h => h
  | n + 1, x, h => it_lt n _ (bs_lt x h)
theorem it_inj : ∀ (n x y : Nat), x < 4294967296 → y < 4294967296 → it n x = it n y → x = y
  | 0, _, _, _, _, h => h
  | n + 1, x, y, hx, hy, h => bs_inj x y hx hy (it_inj n _ _ (bs_lt x hx) (bs_lt y hy) h)
theorem it_add : ∀ (m n x : Nat), it (m + n) x = it n (it m x)
  | 0, n, x => by rw [Nat.zero_add]; rfl
  | m + 1, n, x => by rw [show m + 1 + n = (m + n) + 1 by omega, it, it, it_add m n]
theorem it_shift : ∀ (n h : Nat), it n (2 ^ n * h) = h
  | 0, h => by simp [it]
  | n + 1, h => by rw [it, show 2 ^ (n + 1) * h = 2 * (2 ^ n * h) by rw [Nat.pow_succ]; ac_rfl, bs_two, it_shift n]

theorem byte_nat (r b : Nat) (hr : r < 4294967296) (hb : b < 256) : byte (r : Int) (b : Int) = ((it 8 (r ^^^ b) : Nat) : Int) := by
  have hx : r ^^^ b < 4294967296 := Nat.xor_lt_two_pow (n := 32) hr (by omega)
  unfold byte
  rw [xor32_nat r b hr (by omega), nib_nat _ hx, show nibN (r ^^^ b) = it 4 (r ^^^ b) from rfl, nib_nat _ (it_lt 4 _ hx)]
  rfl
def nw : List Nat → Nat
  | [] => 0
  | b :: B => b ^^^ (2 ^ 8 * nw B)
theorem nw_lt : ∀ (B : List Nat), (∀ b, b ∈ B → b < 256) → nw B < 2 ^ (8 * B.length)
  | [], _ => by simp [nw]
  | b :: B, h => by
    have h1 := nw_lt B (fun x hx => h x (by simp [hx]))
    have h2 := h b (by simp)
    rw [nw, List.length_cons, show 8 * (B.length + 1) = 8 * B.length + 8 by omega]
    refine Nat.xor_lt_two_pow ?_ ?_
    · exact Nat.lt_of_lt_of_le (show b < 2 ^ 8 by omega) (Nat.pow_le_pow_right (by omega) (by omega))
    · rw [Nat.pow_add, Nat.mul_comm]; exact Nat.mul_lt_mul_of_pos_right h1 (by omega)
theorem nw_inj : ∀ (B B' : List Nat), B.length = B'.length → (∀ b, b ∈ B → b < 256) → (∀ b, b ∈ B' → b < 256) → nw B = nw B' → B = B'
  | [], [], _, _, _, _ => rfl
  | [], _ :: _, h, _, _, _ => by simp at h
  | _ :: _, [], h, _, _, _ => by simp at h
  | b :: B, b' :: B', hl, h, h', e => by
    have hb := h b (by simp)
    have hb' := h' b' (by simp)
    rw [nw, nw] at e
    have m := congrArg (· % 2 ^ 8) e
    have d := congrArg (· / 2 ^ 8) e
    simp only [Nat.xor_mod_two_pow, Nat.xor_div_two_pow] at m d
    rw [Nat.mul_mod_right, Nat.mul_mod_right, Nat.xor_zero, Nat.xor_zero, Nat.mod_eq_of_lt (by omega), Nat.mod_eq_of_lt (by omega)] at m
    rw [Nat.mul_div_cancel_left _ (by omega), Nat.mul_div_cancel_left _ (by omega), Nat.div_eq_of_lt (show b < 2 ^ 8 by omega), Nat.div_eq_of_lt (show b' < 2 ^ 8 by omega), Nat.zero_xor, Nat.zero_xor] at d
    rw [m, nw_inj B B' (by simpa using hl) (fun x hx => h x (by simp [hx])) (fun x hx => h' x (by simp [hx])) d]

theorem reg_nat : ∀ (B : List Nat) (r : Nat), r < 4294967296 → (∀ b, b ∈ B → b < 256) → reg (r : Int) (B.map Int.ofNat) = ((it (8 * B.length) (r ^^^ nw B) : Nat) : Int)
  | [], r, _, _ => by simp [reg, nw, it]
  | b :: B, r, hr, h => by
    have hb := h b (by simp)
    have hx : r ^^^ b < 4294967296 := Nat.xor_lt_two_pow (n := 32) hr (by omega)
    have e : reg (r : Int) ((b :: B).map Int.ofNat) = reg (byte (r : Int) (b : Int)) (B.map Int.ofNat) := rfl
    rw [e, byte_nat r b hr hb, reg_nat B (it 8 (r ^^^ b)) (it_lt 8 _ hx) (fun x hx => h x (by simp [hx])), List.length_cons, show 8 * (B.length + 1) = 8 + 8 * B.length by omega, it_add, nw, ← Nat.xor_assoc, it_xor 8 (r ^^^ b), it_shift 8]
theorem toNats (B : List Int) (h : ∀ x, x ∈ B → 0 ≤ x ∧ x ≤ 255) : ∃ N : List Nat, B = N.map Int.ofNat ∧ (∀ b, b ∈ N → b < 256) := by
  induction B with
  | nil => exact ⟨[], rfl, by simp⟩
  | cons x B ih =>
    obtain ⟨N, rfl, hN⟩ := ih (fun y hy => h y (by simp [hy]))
    obtain ⟨hx0, hx1⟩ := h x (by simp)
    obtain ⟨n, rfl⟩ := Int.eq_ofNat_of_zero_le hx0
    refine ⟨n :: N, rfl, fun b hb => ?_⟩
    rcases List.mem_cons.1 hb with rfl | hb
    · omega
    · exact hN b hb
theorem reg_burst (r : Int) (hr : 0 ≤ r ∧ r ≤ 4294967295) (B B' : List Int) (hl : B.length = B'.length) (h4 : B.length ≤ 4) (hB : ∀ x, x ∈ B → 0 ≤ x ∧ x ≤ 255) (hB' : ∀ x, x ∈ B' → 0 ≤ x ∧ x ≤ 255) (h : reg r B = reg r B') : B = B' := by
  obtain ⟨r, rfl⟩ := Int.eq_ofNat_of_zero_le hr.1
  obtain ⟨N, rfl, hN⟩ := toNats B hB
  obtain ⟨N', rfl, hN'⟩ := toNats B' hB'
  rw [List.length_map, List.length_map] at hl
  rw [List.length_map] at h4
  have hlt : ∀ M : List Nat, M.length ≤ 4 → (∀ b, b ∈ M → b < 256) → nw M < 2 ^ 32 := fun M hM hb => Nat.lt_of_lt_of_le (nw_lt M hb) (Nat.pow_le_pow_right (by omega) (by omega))
  rw [reg_nat N r (by omega) hN, reg_nat N' r (by omega) hN', hl] at h
  have e := it_inj _ _ _ (Nat.xor_lt_two_pow (n := 32) (show r < 2 ^ 32 by omega) (hlt N h4 hN)) (Nat.xor_lt_two_pow (n := 32) (show r < 2 ^ 32 by omega) (hlt N' (by omega) hN')) (Int.ofNat.inj h)
  rw [nw_inj N N' hl hN hN' (xlc e)]
theorem reg_inj : ∀ (C : List Int) (r r' : Int), 0 ≤ r ∧ r ≤ 4294967295 → 0 ≤ r' ∧ r' ≤ 4294967295 → (∀ x, x ∈ C → 0 ≤ x ∧ x ≤ 255) → reg r C = reg r' C → r = r'
  | [], _, _, _, _, _, h => h
  | b :: C, r, r', hr, hr', hC, h => by
    have e : byte r b = byte r' b := reg_inj C (byte r b) (byte r' b) (byte_range _ _) (byte_range _ _) (fun x hx => hC x (by simp [hx])) h
    obtain ⟨r, rfl⟩ := Int.eq_ofNat_of_zero_le hr.1
    obtain ⟨r', rfl⟩ := Int.eq_ofNat_of_zero_le hr'.1
    obtain ⟨hb0, hb1⟩ := hC b (by simp)
    obtain ⟨b, rfl⟩ := Int.eq_ofNat_of_zero_le hb0
    rw [byte_nat r b (by omega) (by omega), byte_nat r' b (by omega) (by omega)] at e
    have e2 := it_inj 8 _ _ (Nat.xor_lt_two_pow (n := 32) (show r < 2 ^ 32 by omega) (show b < 2 ^ 32 by omega)) (Nat.xor_lt_two_pow (n := 32) (show r' < 2 ^ 32 by omega) (show b < 2 ^ 32 by omega)) (Int.ofNat.inj e)
    rw [xrc e2]
theorem reg_append (r : Int) (A B : List Int) : reg r (A ++ B) = reg (reg r A) B := by simp [reg]
theorem crc_burst (A B B' C : List Int) (hl : B.length = B'.length) (h4 : B.length ≤ 4) (hB : ∀ x, x ∈ B → 0 ≤ x ∧ x ≤ 255) (hB' : ∀ x, x ∈ B' → 0 ≤ x ∧ x ≤ 255) (hC : ∀ x, x ∈ C → 0 ≤ x ∧ x ≤ 255)
    (h : crc (A ++ (B ++ C)) = crc (A ++ (B' ++ C))) : B = B' := by
  have xinj : ∀ a b : Int, 0 ≤ a ∧ a ≤ 4294967295 → 0 ≤ b ∧ b ≤ 4294967295 → bits .xor .u32 4294967295 a = bits .xor .u32 4294967295 b → a = b := fun a b ha hb e => by
    obtain ⟨a, rfl⟩ := Int.eq_ofNat_of_zero_le ha.1
    obtain ⟨b, rfl⟩ := Int.eq_ofNat_of_zero_le hb.1
    have e1 := xor32_nat 4294967295 a (by omega) (by omega)
    have e2 := xor32_nat 4294967295 b (by omega) (by omega)
    rw [show ((4294967295 : Nat) : Int) = 4294967295 from rfl] at e1 e2
    rw [e1, e2] at e
    rw [xlc (Int.ofNat.inj e)]
  have r0 : 0 ≤ bits .xor .u32 4294967295 0 ∧ bits .xor .u32 4294967295 0 ≤ 4294967295 := bits32_range _ _ _
  have rA := reg_range _ r0 A
  have e := xinj _ _ (reg_range _ r0 _) (reg_range _ r0 _) h
  rw [reg_append, reg_append, reg_append, reg_append] at e
  exact reg_burst _ rA B B' hl h4 hB hB' (reg_inj C _ _ (reg_range _ rA B) (reg_range _ rA B') hC e)
end Go.Proofs.YtoenacghkpgnpaaDoor.Burst
