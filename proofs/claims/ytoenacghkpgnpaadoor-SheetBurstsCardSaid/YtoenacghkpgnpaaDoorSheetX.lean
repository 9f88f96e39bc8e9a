/- A page in which bits were turned within thirty-two that follow one another, all ahead of the sum or all behind it, is none. -/
import Derived.Test.YtoenacghkpgnpaaDoorReadS
import Derived.Test.YtoenacghkpgnpaaDoorBurst
namespace Go.Proofs.YtoenacghkpgnpaaDoor.Burst
open Go.RowKit Go.Proofs.YtoenacghkpgnpaaDoor.K Go.Proofs.YtoenacghkpgnpaaDoor.P1 Go.Proofs.YtoenacghkpgnpaaDoor.Sh

theorem mul2_xor (n a b : Nat) : 2 ^ n * (a ^^^ b) = (2 ^ n * a) ^^^ (2 ^ n * b) := by
  rw [Nat.mul_comm, ← Nat.shiftLeft_eq, Nat.shiftLeft_xor_distrib, Nat.shiftLeft_eq, Nat.shiftLeft_eq, Nat.mul_comm a, Nat.mul_comm b]
theorem nw_append : ∀ (A B : List Nat), nw (A ++ B) = nw A ^^^ (2 ^ (8 * A.length) * nw B)
  | [], B => by simp [nw]
  | a :: A, B => by
    rw [List.cons_append, nw, nw_append A B, mul2_xor, nw, List.length_cons, show 8 * (A.length + 1) = 8 + 8 * A.length by omega, Nat.pow_add, Nat.mul_assoc, Nat.xor_assoc]
theorem nw_set : ∀ (B : List Nat) (j d : Nat) (h : j < B.length), nw (B.set j (B[j] ^^^ d)) = nw B ^^^ (2 ^ (8 * j) * d)
  | b :: B, 0, d, _ => by
    simp only [List.set_cons_zero, List.getElem_cons_zero, nw, Nat.mul_zero, Nat.pow_zero, Nat.one_mul]
    rw [Nat.xor_assoc, Nat.xor_comm d, Nat.xor_assoc]
  | b :: B, j + 1, d, h => by
    simp only [List.set_cons_succ, List.getElem_cons_succ, nw]
    rw [nw_set B j d (by simpa using h), mul2_xor, ← Nat.mul_assoc, ← Nat.pow_add, show 8 + 8 * j = 8 * (j + 1) by omega, Nat.xor_assoc]
theorem it_zero : ∀ n : Nat, it n 0 = 0
  | 0 => rfl
  | n + 1 => by rw [it, show bs 0 = 0 by decide, it_zero n]
theorem xor_self_eq {a b : Nat} (h : a = a ^^^ b) : b = 0 := by
  have h1 : a ^^^ 0 = a ^^^ b := by rw [Nat.xor_zero]; exact h
  exact (xlc h1).symm
/-- The sum tells two texts apart that differ in bits within thirty-two that follow one another. -/
theorem crc_bits (X Y : List Nat) (hX : ∀ x, x ∈ X → x < 256) (hY : ∀ x, x ∈ Y → x < 256) (hl : X.length = Y.length) (a T : Nat) (hT : T < 4294967296) (ha : a ≤ 8 * X.length) (hn : nw Y = nw X ^^^ (2 ^ a * T)) (h : crc (X.map Int.ofNat) = crc (Y.map Int.ofNat)) : T = 0 := by
  have xinj : ∀ a b : Int, 0 ≤ a ∧ a ≤ 4294967295 → 0 ≤ b ∧ b ≤ 4294967295 → bits .xor .u32 4294967295 a = bits .xor .u32 4294967295 b → a = b := fun a b ha hb e => by
    obtain ⟨a, rfl⟩ := Int.eq_ofNat_of_zero_le ha.1
    obtain ⟨b, rfl⟩ := Int.eq_ofNat_of_zero_le hb.1
    have e1 := xor32_nat 4294967295 a (by omega) (by omega)
    have e2 := xor32_nat 4294967295 b (by omega) (by omega)
    rw [show ((4294967295 : Nat) : Int) = 4294967295 from rfl] at e1 e2
    rw [e1, e2] at e
    rw [xlc (Int.ofNat.inj e)]
  have r0 : 0 ≤ bits .xor .u32 4294967295 0 ∧ bits .xor .u32 4294967295 0 ≤ 4294967295 := bits32_range _ _ _
  have e := xinj _ _ (reg_range _ r0 _) (reg_range _ r0 _) h
  obtain ⟨r, hr⟩ := Int.eq_ofNat_of_zero_le r0.1
  have hrl : r < 4294967296 := by omega
  rw [hr, reg_nat X r hrl hX, reg_nat Y r hrl hY, ← hl, hn, ← Nat.xor_assoc, it_xor _ (r ^^^ nw X)] at e
  have e2 := xor_self_eq (Int.ofNat.inj e)
  rw [show 8 * X.length = a + (8 * X.length - a) by omega, it_add, it_shift] at e2
  exact it_inj _ T 0 hT (by decide) (by rw [e2, it_zero])

theorem xor_top {x i : Nat} (h : x < 2 ^ i) : x ^^^ 2 ^ i = x + 2 ^ i := by
  have hp := Nat.two_pow_pos i
  have d : (x ^^^ 2 ^ i) / 2 ^ i = 1 := by rw [Nat.xor_div_two_pow, Nat.div_eq_of_lt h, Nat.div_self hp, Nat.zero_xor]
  have m : (x ^^^ 2 ^ i) % 2 ^ i = x := by rw [Nat.xor_mod_two_pow, Nat.mod_eq_of_lt h, Nat.mod_self, Nat.xor_zero]
  have e := Nat.div_add_mod (x ^^^ 2 ^ i) (2 ^ i)
  rw [d, m] at e
  omega
/-- One bit turned. -/
theorem turn_yes (P L : List Nat) (a T i q r : Nat) (hk : a + i = 8 * q + r) (hq : q < L.length) (hb : T / 2 ^ i % 2 = 1) (hn : nw L = nw P ^^^ (2 ^ a * (T % 2 ^ i))) : nw (L.set q (L[q] ^^^ 2 ^ r)) = nw P ^^^ (2 ^ a * (T % 2 ^ (i + 1))) := by
  have e : T % 2 ^ (i + 1) = T % 2 ^ i ^^^ 2 ^ i := by rw [xor_top (Nat.mod_lt _ (Nat.two_pow_pos i)), Nat.mod_pow_succ, hb, Nat.mul_one]
  rw [nw_set L q (2 ^ r) hq, hn, e, mul2_xor, ← Nat.pow_add, ← Nat.pow_add, hk, Nat.xor_assoc]
theorem turn_no (P L : List Nat) (a T i : Nat) (hb : T / 2 ^ i % 2 = 0) (hn : nw L = nw P ^^^ (2 ^ a * (T % 2 ^ i))) : nw L = nw P ^^^ (2 ^ a * (T % 2 ^ (i + 1))) := by
  rw [hn, Nat.mod_pow_succ, hb, Nat.mul_zero, Nat.add_zero]
theorem turn_lt {L : List Nat} (h : ∀ x, x ∈ L → x < 256) (q r : Nat) (hq : q < L.length) (hr : r < 8) : L[q] ^^^ 2 ^ r < 256 := by
  refine Nat.xor_lt_two_pow (n := 8) (h _ (List.getElem_mem hq)) ?_
  exact Nat.pow_lt_pow_right (by decide) hr
theorem turn_all {L : List Nat} (h : ∀ x, x ∈ L → x < 256) (q y : Nat) (hy : y < 256) : ∀ x, x ∈ L.set q y → x < 256 := fun x hx => by
  rcases List.mem_or_eq_of_mem_set hx with k | k
  · exact h x k
  · omega

/-- A page with its sum struck. -/
def zsum (L : List Nat) : List Nat := L.take 16 ++ (List.replicate 4 0 ++ L.drop 20)
theorem zsum_lt {L : List Nat} (h : ∀ x, x ∈ L → x < 256) : ∀ x, x ∈ zsum L → x < 256 := by
  intro x hx
  simp only [zsum, List.mem_append] at hx
  rcases hx with k | k | k
  · exact h x (List.mem_of_mem_take k)
  · have := List.eq_of_mem_replicate k; omega
  · exact h x (List.mem_of_mem_drop k)
theorem zsum_length {L : List Nat} (h : 20 ≤ L.length) : (zsum L).length = L.length := by
  simp only [zsum, List.length_append, List.length_take, List.length_replicate, List.length_drop]; omega
theorem mod_pow_lt {x n : Nat} (h : x < 2 ^ n) : x % 2 ^ n = x := Nat.mod_eq_of_lt h
theorem nw_lt' {B : List Nat} {k : Nat} (h : ∀ b, b ∈ B → b < 256) (hk : B.length = k) : nw B < 2 ^ (8 * k) := by subst hk; exact nw_lt B h
/-- Where the turned bits lie ahead of place o all that is behind it stands; where they lie behind it, all ahead. -/
theorem split_low (P1 P2 L1 L2 : List Nat) (o a T : Nat) (h1 : P1.length = o) (h2 : L1.length = o) (hl : L2.length = P2.length) (hP1 : ∀ x, x ∈ P1 → x < 256) (hP2 : ∀ x, x ∈ P2 → x < 256) (hL1 : ∀ x, x ∈ L1 → x < 256) (hL2 : ∀ x, x ∈ L2 → x < 256)
    (hT : 2 ^ a * T < 2 ^ (8 * o)) (hn : nw (L1 ++ L2) = nw (P1 ++ P2) ^^^ (2 ^ a * T)) : L2 = P2 ∧ nw L1 = nw P1 ^^^ (2 ^ a * T) := by
  have a1 := nw_lt' hP1 h1
  have a2 := nw_lt' hL1 h2
  rw [nw_append, nw_append, h1, h2] at hn
  have d := congrArg (· / 2 ^ (8 * o)) hn
  have m := congrArg (· % 2 ^ (8 * o)) hn
  simp only [Nat.xor_div_two_pow, Nat.xor_mod_two_pow, Nat.mul_div_cancel_left _ (Nat.two_pow_pos (8 * o)), Nat.mul_mod_right, Nat.div_eq_of_lt a1, Nat.div_eq_of_lt a2, Nat.div_eq_of_lt hT, Nat.mod_eq_of_lt a1, Nat.mod_eq_of_lt a2, Nat.mod_eq_of_lt hT, Nat.xor_zero, Nat.zero_xor] at d m
  exact ⟨nw_inj L2 P2 hl hL2 hP2 d, m⟩
theorem split_high (P1 P2 L1 L2 : List Nat) (o a T : Nat) (h1 : P1.length = o) (h2 : L1.length = o) (hP1 : ∀ x, x ∈ P1 → x < 256) (hL1 : ∀ x, x ∈ L1 → x < 256) (ha : 8 * o ≤ a)
    (hn : nw (L1 ++ L2) = nw (P1 ++ P2) ^^^ (2 ^ a * T)) : L1 = P1 ∧ nw L2 = nw P2 ^^^ (2 ^ (a - 8 * o) * T) := by
  have a1 := nw_lt' hP1 h1
  have a2 := nw_lt' hL1 h2
  have e : 2 ^ a * T = 2 ^ (8 * o) * (2 ^ (a - 8 * o) * T) := by rw [← Nat.mul_assoc, ← Nat.pow_add, show 8 * o + (a - 8 * o) = a by omega]
  rw [nw_append, nw_append, h1, h2, e] at hn
  have d := congrArg (· / 2 ^ (8 * o)) hn
  have m := congrArg (· % 2 ^ (8 * o)) hn
  simp only [Nat.xor_div_two_pow, Nat.xor_mod_two_pow, Nat.mul_div_cancel_left _ (Nat.two_pow_pos (8 * o)), Nat.mul_mod_right, Nat.div_eq_of_lt a1, Nat.div_eq_of_lt a2, Nat.mod_eq_of_lt a1, Nat.mod_eq_of_lt a2, Nat.xor_zero, Nat.zero_xor] at d m
  exact ⟨nw_inj L1 P1 (by rw [h1, h2]) hL1 hP1 m, d⟩
/-- Struck of their sums the two pages differ in the same bits; and their sums are the same bytes. -/
theorem zsum_bits (P L : List Nat) (hp : P.length = 4096) (hq : L.length = 4096) (hP : ∀ x, x ∈ P → x < 256) (hL : ∀ x, x ∈ L → x < 256) (a T : Nat) (hT : T < 4294967296) (ha : a ≤ 96 ∨ 160 ≤ a) (hn : nw L = nw P ^^^ (2 ^ a * T)) :
    nw (zsum L) = nw (zsum P) ^^^ (2 ^ a * T) ∧ (L.drop 16).take 4 = (P.drop 16).take 4 := by
  rcases ha with ha | ha
  · have hTl : 2 ^ a * T < 2 ^ (8 * 16) := by
      have h1 : 2 ^ a ≤ 2 ^ 96 := Nat.pow_le_pow_right (by omega) ha
      have h2 : 2 ^ a * T < 2 ^ a * 2 ^ 32 := Nat.mul_lt_mul_of_pos_left (by omega) (Nat.two_pow_pos a)
      have h3 : 2 ^ a * 2 ^ 32 ≤ 2 ^ 96 * 2 ^ 32 := Nat.mul_le_mul_right _ h1
      exact Nat.lt_of_lt_of_le h2 (Nat.le_trans h3 (by decide))
    have h := split_low (P.take 16) (P.drop 16) (L.take 16) (L.drop 16) 16 a T (by rw [List.length_take]; omega) (by rw [List.length_take]; omega) (by rw [List.length_drop, List.length_drop]; omega) (fun x hx => hP x (List.mem_of_mem_take hx)) (fun x hx => hP x (List.mem_of_mem_drop hx)) (fun x hx => hL x (List.mem_of_mem_take hx)) (fun x hx => hL x (List.mem_of_mem_drop hx)) hTl (by rw [List.take_append_drop, List.take_append_drop]; exact hn)
    obtain ⟨h1, h2⟩ := h
    have h3 : L.drop 20 = P.drop 20 := by
      have := congrArg (List.drop 4) h1
      rwa [List.drop_drop, List.drop_drop] at this
    refine ⟨?_, by rw [h1]⟩
    unfold zsum
    rw [h3, nw_append (L.take 16), nw_append (P.take 16), h2, List.length_take, List.length_take, hp, hq, Nat.xor_assoc, Nat.xor_comm (2 ^ a * T), ← Nat.xor_assoc]
  · have h := split_high (P.take 20) (P.drop 20) (L.take 20) (L.drop 20) 20 a T (by rw [List.length_take]; omega) (by rw [List.length_take]; omega) (fun x hx => hP x (List.mem_of_mem_take hx)) (fun x hx => hL x (List.mem_of_mem_take hx)) (by omega) (by rw [List.take_append_drop, List.take_append_drop]; exact hn)
    obtain ⟨h1, h2⟩ := h
    have h3 : L.take 16 = P.take 16 := by
      have := congrArg (List.take 16) h1
      rwa [List.take_take, List.take_take] at this
    have h4 : (L.drop 16).take 4 = (P.drop 16).take 4 := by
      have := congrArg (List.drop 16) h1
      rwa [List.drop_take, List.drop_take] at this
    refine ⟨?_, h4⟩
    have e : 2 ^ a * T = 2 ^ 128 * (2 ^ 32 * (2 ^ (a - 8 * 20) * T)) := by rw [← Nat.mul_assoc, ← Nat.mul_assoc, ← Nat.pow_add, ← Nat.pow_add, show 128 + 32 + (a - 8 * 20) = a by omega]
    unfold zsum
    rw [h3, nw_append (P.take 16), nw_append (P.take 16), nw_append (List.replicate 4 0), nw_append (List.replicate 4 0), h2, e, List.length_take, List.length_replicate, hp]
    simp only [show min 16 4096 = 16 by decide, show 8 * 16 = 128 by decide, show 8 * 4 = 32 by decide, mul2_xor, Nat.xor_assoc]
end Go.Proofs.YtoenacghkpgnpaaDoor.Burst
namespace Go.Proofs.YtoenacghkpgnpaaDoor.Sh
open Go.RowKit Go.Proofs.YtoenacghkpgnpaaDoor.K Go.Proofs.YtoenacghkpgnpaaDoor.P1 Go.Proofs.YtoenacghkpgnpaaDoor.Burst

theorem zsum_pg {kd ct id tx : Int} {bd : List Int} {N : List Nat} (hb : bd.length = 4072) (hN : N.map Int.ofNat = pg kd ct id tx bd) : (zsum N).map Int.ofNat = plit kd ct id tx 0 bd ∧ num (((N.map Int.ofNat).drop 16).take 4) = crc ((zsum N).map Int.ofNat) := by
  have e : (zsum N).map Int.ofNat = plit kd ct id tx 0 bd := by
    unfold zsum
    rw [List.map_append, List.map_append, List.map_take, List.map_drop, hN, pg_lit _ _ _ _ _ hb]
    unfold plit
    obtain ⟨c, hc⟩ : ∃ c, crc (h4 kd ct id tx ++ (be 0 4 ++ (zs 4 ++ bd))) = c := ⟨_, rfl⟩
    rw [hc, List.take_left' (h4_length _ _ _ _), ← List.append_assoc (h4 kd ct id tx) (be c 4), List.drop_left' (by rw [List.length_append, h4_length, be_length]), be_zero]
    rfl
  refine ⟨e, ?_⟩
  rw [e, hN, pg_lit _ _ _ _ _ hb]
  obtain ⟨c, hc⟩ : ∃ c, crc (plit kd ct id tx 0 bd) = c := ⟨_, rfl⟩
  have hr := crc_range (plit kd ct id tx 0 bd)
  rw [hc] at hr ⊢
  unfold plit
  rw [mid_part _ _ _ 16 4 (h4_length _ _ _ _) (be_length _ _)]
  exact num_be 4 c hr.1 (Int.lt_of_le_of_lt hr.2 (by decide))
theorem bits_none {kd ct id tx : Int} {bd : ByteArray} (hm : MayS kd ct id bd.size) (P L : List Nat) (hP : P.map Int.ofNat = pg kd ct id tx (sb bd)) (hPl : ∀ x, x ∈ P → x < 256) (hL : ∀ x, x ∈ L → x < 256) (hLl : L.length = 4096) (a T : Nat) (hT0 : T ≠ 0) (hT : T < 4294967296) (ha : a ≤ 96 ∨ 160 ≤ a ∧ a ≤ 32736)
    (hn : nw L = nw P ^^^ (2 ^ a * T)) (j : Int) : ¬ OkS (L.map Int.ofNat) j := by
  rintro ⟨hm', -, hw⟩
  have hb : (sb bd).length = 4072 := by rw [sb_length]; unfold MayS at hm; omega
  have hb' : (sb (gB (L.map Int.ofNat))).length = 4072 := by rw [sb_length]; unfold MayS at hm'; omega
  have hPlen : P.length = 4096 := by
    have := congrArg List.length hP
    rwa [List.length_map, pg_length _ _ _ _ _ hb] at this
  obtain ⟨h1, h2⟩ := zsum_bits P L hPlen hLl hPl hL a T hT (by omega) hn
  have s1 := (zsum_pg hb hP).2
  have s2 := (zsum_pg hb' hw.symm).2
  rw [← List.map_drop, ← List.map_take] at s1 s2
  rw [h2, s1] at s2
  exact hT0 (crc_bits (zsum P) (zsum L) (zsum_lt hPl) (zsum_lt hL) (by rw [zsum_length (by omega), zsum_length (by omega), hPlen, hLl]) a T hT (by rw [zsum_length (by omega), hPlen]; omega) h1 s2)
theorem rdS_bits {kd ct id tx : Int} {bd : ByteArray} (hm : MayS kd ct id bd.size) (P L : List Nat) (hP : P.map Int.ofNat = pg kd ct id tx (sb bd)) (hPl : ∀ x, x ∈ P → x < 256) (hL : ∀ x, x ∈ L → x < 256) (hLl : L.length = 4096) (a T : Nat) (hT0 : T ≠ 0) (hT : T < 4294967296) (ha : a ≤ 96 ∨ 160 ≤ a ∧ a ≤ 32736)
    (hn : nw L = nw P ^^^ (2 ^ a * T)) (j : Int) : rdS (L.map Int.ofNat) j = (0, 0, 0, 0, ⟨#[]⟩, 2) := by
  unfold rdS
  rw [if_neg (fun k => bits_none hm P L hP hPl hL hLl a T hT0 hT ha hn j k.2)]
end Go.Proofs.YtoenacghkpgnpaaDoor.Sh
