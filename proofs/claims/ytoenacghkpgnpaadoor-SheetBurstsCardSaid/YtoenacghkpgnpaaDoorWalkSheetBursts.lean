/- The walk of SheetBursts: a page in which bits were turned only within thirty-two, all ahead of the sum or all behind it, is none. -/
import Derived.Test.YtoenacghkpgnpaaDoorReadS
import Derived.Test.YtoenacghkpgnpaaDoorSheetX
namespace Go.Proofs.YtoenacghkpgnpaaDoor.LSheetBursts
open Go.RowKit Go.Proofs.YtoenacghkpgnpaaDoor.K Go.Proofs.YtoenacghkpgnpaaDoor.E Go.Proofs.YtoenacghkpgnpaaDoor.P1 Go.Proofs.YtoenacghkpgnpaaDoor.Codec Go.Proofs.YtoenacghkpgnpaaDoor.Sh Go.Proofs.YtoenacghkpgnpaaDoor.S Go.Proofs.YtoenacghkpgnpaaDoor.D

theorem pick_eval (a k : Int) (hk : 1 ≤ k) (hk2 : k ≤ 4611686018427387904) : ∃ r, Ref.copsekit_Pick.f a k = some r ∧ 0 ≤ r ∧ r < k := by
  have h1 := Int.tmod_lt_of_pos a (show 0 < k by omega)
  have h2 : -k < Int.tmod a k := by
    rcases Int.le_total 0 a with h | h
    · rw [Int.tmod_eq_emod_of_nonneg h]; have := Int.emod_nonneg a (show k ≠ 0 by omega); omega
    · have h3 := Int.tmod_lt_of_pos (-a) (show 0 < k by omega)
      rw [Int.neg_tmod] at h3; omega
  unfold Ref.copsekit_Pick.f
  rw [if_neg (by omega), if_neg (by omega)]
  by_cases h : Int.tmod a k < 0
  · rw [if_pos h]
    exact ⟨_, rfl, by unfold wrap64; omega, by unfold wrap64; omega⟩
  · rw [if_neg h]
    exact ⟨_, rfl, by omega, by omega⟩
theorem xor8_two (y r : Nat) (hy : y < 256) (hr : r < 8) : bits .xor .u8 (y : Int) ((2 : Int) ^ r % 256) = ((y ^^^ 2 ^ r : Nat) : Int) := by
  have hp : 2 ^ r < 2 ^ 8 := Nat.pow_lt_pow_right (by decide) hr
  have h : y ^^^ 2 ^ r < 2 ^ 8 := Nat.xor_lt_two_pow (by omega) hp
  have e : (2 : Int) ^ r % 256 = ((2 ^ r : Nat) : Int) := by
    have h1 : ((2 ^ r : Nat) : Int) = (2 : Int) ^ r := by simp
    rw [← h1]; exact Int.emod_eq_of_lt (Int.natCast_nonneg _) (Int.ofNat_lt.2 hp)
  have hx : bits .xor .u8 (y : Int) ((2 ^ r : Nat) : Int) = (((BitVec.ofInt 8 (y : Int)) ^^^ (BitVec.ofInt 8 ((2 ^ r : Nat) : Int))).toNat : Int) % 256 := rfl
  rw [e, hx, BitVec.ofInt_natCast, BitVec.ofInt_natCast, BitVec.toNat_xor, BitVec.toNat_ofNat, BitVec.toNat_ofNat, Nat.mod_eq_of_lt (show y < 2 ^ 8 by omega), Nat.mod_eq_of_lt hp]
  omega
theorem bit_calls (x : Int) (w : World) : Calls Tryd.prog 32 #[.int .i64 x] w fun e w' => ∃ a : Nat, e = .returned (.int .i64 a) ∧ (a ≤ 96 ∨ 160 ≤ a ∧ a ≤ 32736) ∧ Below w.heap.size w w' := by
  obtain ⟨r, hr, h0, h1⟩ := pick_eval x ((97 + 32608) - 31) (by decide) (by decide)
  by_cases h : r < 97
  · refine (Ref.copselaw4_bit.calls x r w ?_).mono fun e w' ⟨he, hd⟩ => ⟨r.toNat, by rw [he, Int.toNat_of_nonneg h0], .inl (by omega), below_drawn hd.out⟩
    unfold Ref.copselaw4_bit.f
    rw [hr]
    simp only [Option.bind_some]
    rw [if_pos h]
  · refine (Ref.copselaw4_bit.calls x (63 + r) w ?_).mono fun e w' ⟨he, hd⟩ => ⟨(63 + r).toNat, by rw [he, Int.toNat_of_nonneg (by omega)], .inr (by omega), below_drawn hd.out⟩
    unfold Ref.copselaw4_bit.f
    rw [hr]
    simp only [Option.bind_some]
    rw [if_neg h]
    refine congrArg some ?_
    unfold wrap64; omega

set_option maxRecDepth 100000 in
set_option maxHeartbeats 1000000 in
theorem walk_no {B : Nat → Addr} (kd id tx ct j at_ tn : Int) (bd : ByteArray) (w : World) (hE : Errs errG B w) (hs : TabOk w) (hh : HeadOk w) (hm : ¬ MayS kd ct id bd.size) :
    Calls Tryd.prog 8 #[.agg #[.int .i64 kd, .int .i64 id, .int .u64 tx, .int .i64 ct, .string bd, .int .i64 j, .int .i64 at_, .int .u32 tn]] w fun e w' => e = .returned (.bool true) ∧ Below w.heap.size w w' := by
  have HE : Hd (Errs errG B w ∧ TabOk w ∧ HeadOk w) := ⟨hE, hs, hh⟩
  have HM : Hd (¬ MayS kd ct id bd.size) := ⟨hm⟩
  clear hE hs hh hm
  go_enter Tryd.func8, Tryd.ntmps8
  go_upto_region 1 with (fail)
  have H0 : Hd (Below w.heap.size w (w.alloc (.cells #[.int .i64 kd, .int .i64 id, .int .u64 tx, .int .i64 ct, .string bd, .int .i64 j, .int .i64 at_, .int .u32 tn] 59)) ∧ (w.alloc (.cells #[.int .i64 kd, .int .i64 id, .int .u64 tx, .int .i64 ct, .string bd, .int .i64 j, .int .i64 at_, .int .u32 tn] 59)).heap[w.heap.size]? = some (.cells #[.int .i64 kd, .int .i64 id, .int .u64 tx, .int .i64 ct, .string bd, .int .i64 j, .int .i64 at_, .int .u32 tn] 59 (0, 0))) := ⟨below_alloc (Below.refl _ _) _, row_alloc_at _ _ _ rfl⟩
  obtain ⟨W0, hW0⟩ : ∃ W0, w.alloc (.cells #[.int .i64 kd, .int .i64 id, .int .u64 tx, .int .i64 ct, .string bd, .int .i64 j, .int .i64 at_, .int .u32 tn] 59) = W0 := ⟨_, rfl⟩
  rw [hW0] at H0 ⊢
  clear hW0
  go_upto_region 4 with (first
    | (go_at_call 31; refine (known_calls (B := B) _ (HE.out.1.below H0.out.1) (HE.out.2.1.below H0.out.1) (HE.out.2.2.below H0.out.1)).mono ?_; rintro e W1 ⟨rfl, hb⟩; have H1 : Hd (Below w.heap.size w W1 ∧ W1.heap[w.heap.size]? = some (.cells #[.int .i64 kd, .int .i64 id, .int .u64 tx, .int .i64 ct, .string bd, .int .i64 j, .int .i64 at_, .int .u32 tn] 59 (0, 0))) := ⟨below_step H0.out.1 hb, below_row hb H0.out.2⟩; clear hb)
    | fail)
  have j0 := mx H1.out.2 0 _ rfl; have j1 := mx H1.out.2 1 _ rfl; have j2 := mx H1.out.2 2 _ rfl; have j3 := mx H1.out.2 3 _ rfl; have j4 := mx H1.out.2 4 _ rfl; have j5 := mx H1.out.2 5 _ rfl; have j6 := mx H1.out.2 6 _ rfl; have j7 := mx H1.out.2 7 _ rfl
  have qe := neq_err_nil (B 0)
  go_wp2_with (first
    | (go_at_call 22; refine (seal_no kd id tx ct bd _ _ ((HE.out.1.below H1.out.1).cell 0 (by decide)) HM.out).mono ?_; rintro e W2 ⟨rfl, hb⟩; have H2 : Hd (Below w.heap.size w W2) := ⟨below_step H1.out.1 hb⟩; clear hb j0 j1 j2 j3 j4 j5 j6 j7)
    | fail)
  go_ret
  exact ⟨rfl, H2.out⟩

set_option maxRecDepth 100000 in
set_option maxHeartbeats 1000000 in
theorem walk_ok {B : Nat → Addr} (kd id tx ct j at_ tn : Int) (bd : ByteArray) (w : World) (hE : Errs errG B w) (hs : TabOk w) (hh : HeadOk w) (ht0 : 0 ≤ tx) (ht1 : tx < 18446744073709551616) (hn0 : 0 ≤ tn) (hn1 : tn < 4294967296) (hm : MayS kd ct id bd.size) :
    Calls Tryd.prog 8 #[.agg #[.int .i64 kd, .int .i64 id, .int .u64 tx, .int .i64 ct, .string bd, .int .i64 j, .int .i64 at_, .int .u32 tn]] w fun e w' => e = .returned (.bool true) ∧ Below w.heap.size w w' := by
  have HE : Hd (Errs errG B w ∧ TabOk w ∧ HeadOk w) := ⟨hE, hs, hh⟩
  have HT : Hd (0 ≤ tx ∧ tx < 18446744073709551616) := ⟨ht0, ht1⟩
  have HM : Hd (MayS kd ct id bd.size) := ⟨hm⟩
  have HL : Hd ((pg kd ct id tx (sb bd)).length = 4096 ∧ (∀ x, x ∈ (pg kd ct id tx (sb bd)) → 0 ≤ x ∧ x ≤ 255) ∧ rdS (pg kd ct id tx (sb bd)) id = (kd, id, tx, ct, bd, 0)) := ⟨pg_length _ _ _ _ _ (by rw [sb_length]; unfold MayS at hm; omega), pg_range _ _ _ _ _ (by rw [sb_length]; unfold MayS at hm; omega) (sb_range _), rdS_back hm ht0 ht1⟩
  obtain ⟨P, hP, hPl⟩ := Burst.toNats (pg kd ct id tx (sb bd)) HL.out.2.1
  have HP : Hd ((pg kd ct id tx (sb bd)) = P.map Int.ofNat ∧ (∀ b, b ∈ P → b < 256) ∧ P.length = 4096) := ⟨hP, hPl, by have := congrArg List.length hP; rw [HL.out.1, List.length_map] at this; exact this.symm⟩
  obtain ⟨T, rfl⟩ := Int.eq_ofNat_of_zero_le hn0
  have HN : Hd (T < 4294967296) := ⟨by omega⟩
  have qn := eql_nil_nil
  have qn' := neq_nil_nil
  clear hE hs hh ht0 ht1 hm hP hPl hn0 hn1
  go_enter Tryd.func8, Tryd.ntmps8
  go_upto_region 1 with (fail)
  have H0 : Hd (Below w.heap.size w (w.alloc (.cells #[.int .i64 kd, .int .i64 id, .int .u64 tx, .int .i64 ct, .string bd, .int .i64 j, .int .i64 at_, .int .u32 (T : Int)] 59)) ∧ (w.alloc (.cells #[.int .i64 kd, .int .i64 id, .int .u64 tx, .int .i64 ct, .string bd, .int .i64 j, .int .i64 at_, .int .u32 (T : Int)] 59)).heap[w.heap.size]? = some (.cells #[.int .i64 kd, .int .i64 id, .int .u64 tx, .int .i64 ct, .string bd, .int .i64 j, .int .i64 at_, .int .u32 (T : Int)] 59 (0, 0))) := ⟨below_alloc (Below.refl _ _) _, row_alloc_at _ _ _ rfl⟩
  obtain ⟨W0, hW0⟩ : ∃ W0, w.alloc (.cells #[.int .i64 kd, .int .i64 id, .int .u64 tx, .int .i64 ct, .string bd, .int .i64 j, .int .i64 at_, .int .u32 (T : Int)] 59) = W0 := ⟨_, rfl⟩
  rw [hW0] at H0 ⊢
  clear hW0
  go_upto_region 4 with (first
    | (go_at_call 31; refine (known_calls (B := B) _ (HE.out.1.below H0.out.1) (HE.out.2.1.below H0.out.1) (HE.out.2.2.below H0.out.1)).mono ?_; rintro e W1 ⟨rfl, hb⟩; have H1 : Hd (Below w.heap.size w W1 ∧ W1.heap[w.heap.size]? = some (.cells #[.int .i64 kd, .int .i64 id, .int .u64 tx, .int .i64 ct, .string bd, .int .i64 j, .int .i64 at_, .int .u32 (T : Int)] 59 (0, 0))) := ⟨below_step H0.out.1 hb, below_row hb H0.out.2⟩; clear hb)
    | fail)
  have j0 := mx H1.out.2 0 _ rfl; have j1 := mx H1.out.2 1 _ rfl; have j2 := mx H1.out.2 2 _ rfl; have j3 := mx H1.out.2 3 _ rfl; have j4 := mx H1.out.2 4 _ rfl; have j5 := mx H1.out.2 5 _ rfl; have j6 := mx H1.out.2 6 _ rfl; have j7 := mx H1.out.2 7 _ rfl
  go_upto_region 7 with (first
    | (go_at_call 22; refine (seal_ok kd id tx ct bd _ (HE.out.2.1.below H1.out.1) (HE.out.2.2.below H1.out.1) HM.out HT.out.1 HT.out.2).mono ?_; rintro e W2 ⟨g, rfl, hg, hrow, hb⟩; have H2 : Hd ((Below w.heap.size w W2 ∧ W2.heap[w.heap.size]? = some (.cells #[.int .i64 kd, .int .i64 id, .int .u64 tx, .int .i64 ct, .string bd, .int .i64 j, .int .i64 at_, .int .u32 (T : Int)] 59 (0, 0))) ∧ W2.heap[g]? = some (.cells (u8s (pg kd ct id tx (sb bd))) 5 (0, 0)) ∧ w.heap.size < g) := ⟨⟨below_step H1.out.1 hb, below_row hb H1.out.2⟩, hrow, Nat.lt_of_lt_of_le (row_lt H1.out.2) hg⟩; clear hrow hg hb j0 j1 j2 j3 j4 j5 j6 j7)
    | fail)
  have j0 := mx H2.out.1.2 0 _ rfl; have j1 := mx H2.out.1.2 1 _ rfl; have j2 := mx H2.out.1.2 2 _ rfl; have j3 := mx H2.out.1.2 3 _ rfl; have j4 := mx H2.out.1.2 4 _ rfl; have j5 := mx H2.out.1.2 5 _ rfl; have j6 := mx H2.out.1.2 6 _ rfl; have j7 := mx H2.out.1.2 7 _ rfl
  go_upto_block 0 with (first
    | (go_at_call 32; refine (bit_calls at_ _).mono ?_; rintro e W3 ⟨a, rfl, ha, hb⟩; have HA : Hd (a ≤ 96 ∨ 160 ≤ a ∧ a ≤ 32736) := ⟨ha⟩; have H3 : Hd ((Below w.heap.size w W3 ∧ W3.heap[w.heap.size]? = some (.cells #[.int .i64 kd, .int .i64 id, .int .u64 tx, .int .i64 ct, .string bd, .int .i64 j, .int .i64 at_, .int .u32 (T : Int)] 59 (0, 0))) ∧ W3.heap[g]? = some (.cells (u8s (P.map Int.ofNat)) 5 (0, 0)) ∧ w.heap.size < g) := ⟨⟨below_step H2.out.1.1 hb, below_row hb H2.out.1.2⟩, by rw [← HP.out.1]; exact below_row hb H2.out.2.1, H2.out.2.2⟩; clear ha hb j0 j1 j2 j3 j4 j5 j6 j7)
    | fail)
  have ha1 : (a : Int) ≤ 32736 := by have := HA.out; omega
  go_cut [4] from 34 to 61 (fun s4 wx => s4 = .slice (some ⟨g, 0, none⟩) 4096 4096 ∧ ∃ L : List Nat, Hd (Tch (fun i => i = g) W3 wx ∧ wx.heap[g]? = some (.cells (u8s (L.map Int.ofNat)) 5 (0, 0)) ∧ L.length = 4096 ∧ (∀ x, x ∈ L → x < 256) ∧ Burst.nw L = Burst.nw P ^^^ (2 ^ a * T)))
  case first =>
    go_wp2_with (fail)
    go_loopw [7] (fun s7 wx => ∃ (i : Nat) (L : List Nat), i ≤ 32 ∧ s7 = .int .i64 i ∧ Hd (Tch (fun i => i = g) W3 wx ∧ wx.heap[g]? = some (.cells (u8s (L.map Int.ofNat)) 5 (0, 0)) ∧ L.length = 4096 ∧ (∀ x, x ∈ L → x < 256) ∧ Burst.nw L = Burst.nw P ^^^ (2 ^ a * (T % 2 ^ i)))) (fun s7 _ => 32 - (intOf s7).toNat)
    case atStart => exact ⟨0, P, by omega, rfl, ⟨Tch.refl _ _, H3.out.2.1, HP.out.2.2, HP.out.2.1, by rw [Nat.pow_zero, Nat.mod_one, Nat.mul_zero, Nat.xor_zero]⟩⟩
    case round =>
      obtain ⟨i, L, hi, rfl, HI⟩ := hrel
      by_cases hlt : (i : Int) < 32
      · have hbox := HI.out.1.row H3.out.1.2 (by have := H3.out.2.2; omega)
        have k7 := mx hbox 7 _ rfl
        clear hbox
        have hb2 : T / 2 ^ i % 2 = 1 ∨ T / 2 ^ i % 2 = 0 := by omega
        have hand : bits .and .u32 ((T : Int) / 2 ^ i) 1 = ((T / 2 ^ i % 2 : Nat) : Int) := by
          have h := Go.Proofs.YtoenacghkpgnpaaDoor.P1.and1_nat (T / 2 ^ i) (Nat.lt_of_le_of_lt (Nat.div_le_self _ _) HN.out)
          rw [← h]
          congr 1
        rcases hb2 with hb2 | hb2
        · rw [hb2] at hand
          obtain ⟨k, hk⟩ : ∃ k, a + i = k := ⟨_, rfl⟩
          have hki : (a : Int) + (i : Int) = (k : Int) := by omega
          have hkl : (k : Int) ≤ 32767 := by have := HA.out; omega
          have hk0 : (0 : Int) ≤ (k : Int) := by omega
          obtain ⟨q, hq⟩ : ∃ q, k / 8 = q := ⟨_, rfl⟩
          obtain ⟨r, hr⟩ : ∃ r, k % 8 = r := ⟨_, rfl⟩
          have hqi : (k : Int) / 8 = (q : Int) := by omega
          have hri : (k : Int) % 8 = (r : Int) := by omega
          have hql : q < L.length := by rw [HI.out.2.2.1]; omega
          have hqz : (q : Int) < 4096 := by omega
          have hrl : (r : Int) < 8 := by omega
          have HY : Hd (Burst.nw (L.set q (L[q] ^^^ 2 ^ r)) = Burst.nw P ^^^ (2 ^ a * (T % 2 ^ (i + 1))) ∧ L[q] ^^^ 2 ^ r < 256) := ⟨Burst.turn_yes P L a T i q r (by omega) hql hb2 HI.out.2.2.2.2, Burst.turn_lt HI.out.2.2.2.1 q r hql (by omega)⟩
          obtain ⟨y, hy⟩ : ∃ y, L[q] = y := ⟨_, rfl⟩
          have cp : wr.cell? ⟨g, q, none⟩ = some (.int .u8 (y : Int)) := by
            rw [Joins.cell_of_block HI.out.2.1, K.u8s_at (L.map Int.ofNat) q (by rw [List.length_map]; exact hql), List.getD_eq_getElem?_getD, List.getElem?_map, List.getElem?_eq_getElem hql, hy]; rfl
          have fp := Joins.unfrozen_of_block HI.out.2.1
          rw [hy] at HY
          have HYL : Hd (y < 256) := ⟨by rw [← hy]; exact HI.out.2.2.2.1 _ (List.getElem_mem hql)⟩
          clear hk hq hr hb2 hy
          go_wp2
          go_roundw
          case rel =>
            refine ⟨i + 1, L.set q (y ^^^ 2 ^ r), by omega, by go_num, ⟨HI.out.1.setCell (.inl rfl) _, ?_, by rw [List.length_set]; exact HI.out.2.2.1, Burst.turn_all HI.out.2.2.2.1 q _ HY.out.2, HY.out.1⟩⟩
            rw [xor8_two y r HYL.out (by omega), List.map_set, ← u8s_set]
            exact Joins.block_setCell HI.out.2.1 _
          case measure => simp [intOf]; omega
        · rw [hb2] at hand
          have HY : Hd (Burst.nw L = Burst.nw P ^^^ (2 ^ a * (T % 2 ^ (i + 1)))) := ⟨Burst.turn_no P L a T i hb2 HI.out.2.2.2.2⟩
          clear hb2
          go_wp2
          go_roundw
          case rel => exact ⟨i + 1, L, by omega, by go_num, ⟨HI.out.1, HI.out.2.1, HI.out.2.2.1, HI.out.2.2.2.1, HY.out⟩⟩
          case measure => simp [intOf]; omega
      · obtain rfl : i = 32 := by omega
        go_wp2
        go_meet
        exact ⟨rfl, L, ⟨HI.out.1, HI.out.2.1, HI.out.2.2.1, HI.out.2.2.2.1, by have h := HI.out.2.2.2.2; rwa [Nat.mod_eq_of_lt HN.out] at h⟩⟩
  case rest =>
    obtain ⟨hs4, L, HI⟩ := hcut
    subst hs4
    have hne : ¬ w.heap.size = g := by have := H3.out.2.2; omega
    have HB : Hd ((Below w.heap.size w wc ∧ wc.heap[w.heap.size]? = some (.cells #[.int .i64 kd, .int .i64 id, .int .u64 tx, .int .i64 ct, .string bd, .int .i64 j, .int .i64 at_, .int .u32 (T : Int)] 59 (0, 0))) ∧ wc.heap[g]? = some (.cells (u8s (L.map Int.ofNat)) 5 (0, 0))) := ⟨⟨below_tch H3.out.1.1 HI.out.1 (fun i hi => by have := H3.out.2.2; omega), HI.out.1.row H3.out.1.2 hne⟩, HI.out.2.1⟩
    have HLL : Hd ((L.map Int.ofNat).length = 4096 ∧ ∀ x, x ∈ L.map Int.ofNat → 0 ≤ x ∧ x ≤ 255) := ⟨by rw [List.length_map]; exact HI.out.2.2.1, fun x hx => by
      obtain ⟨y, hy, rfl⟩ := List.mem_map.1 hx
      have := HI.out.2.2.2.1 y hy
      exact ⟨by simp, by simp; omega⟩⟩
    clear hne
    have hE0 : errV B 0 = .nilIface := rfl
    by_cases hT0 : T = 0
    · have hTb : ((T : Int) == 0) = true := by simp [hT0]
      have HR : Hd (rdS (L.map Int.ofNat) id = (kd, id, tx, ct, bd, 0)) := ⟨by
        have e : L = P := Burst.nw_inj L P (by rw [HI.out.2.2.1, HP.out.2.2]) HI.out.2.2.2.1 HP.out.2.1 (by rw [HI.out.2.2.2.2, hT0, Nat.mul_zero, Nat.xor_zero])
        rw [e, ← HP.out.1]; exact HL.out.2.2⟩
      obtain ⟨q, hq⟩ : ∃ q, rdS (L.map Int.ofNat) j = q := ⟨_, rfl⟩
      obtain ⟨z1, z2, z3, z4, z5, z6⟩ := q
      have HQ : Hd (rdS (L.map Int.ofNat) j = (z1, z2, z3, z4, z5, z6)) := ⟨hq⟩
      clear hq hT0
      have j0 := mx HB.out.1.2 0 _ rfl; have j1 := mx HB.out.1.2 1 _ rfl; have j2 := mx HB.out.1.2 2 _ rfl; have j3 := mx HB.out.1.2 3 _ rfl; have j4 := mx HB.out.1.2 4 _ rfl; have j5 := mx HB.out.1.2 5 _ rfl; have j6 := mx HB.out.1.2 6 _ rfl; have j7 := mx HB.out.1.2 7 _ rfl
      go_upto_region 15 with (first
        | (go_at_call 29; refine (read_calls (E := B) _ _ _ (L.map Int.ofNat) HLL.out.1.symm (Nat.le_refl _) id _ _ _ _ _ _ HR.out _ (HE.out.1.below HB.out.1.1) (HE.out.2.1.below HB.out.1.1) (HE.out.2.2.below HB.out.1.1) (RdB.of_row0 HB.out.2) HLL.out.2).mono ?_; rintro e W4 ⟨rfl, hb⟩; have H4 : Hd ((Below w.heap.size w W4 ∧ W4.heap[w.heap.size]? = some (.cells #[.int .i64 kd, .int .i64 id, .int .u64 tx, .int .i64 ct, .string bd, .int .i64 j, .int .i64 at_, .int .u32 (T : Int)] 59 (0, 0))) ∧ W4.heap[g]? = some (.cells (u8s (L.map Int.ofNat)) 5 (0, 0))) := ⟨⟨below_step HB.out.1.1 hb, below_row hb HB.out.1.2⟩, below_row hb HB.out.2⟩; clear hb j0 j1 j2 j3 j4 j5 j6 j7)
        | fail)
      have a0 := mxo H4.out.1.2 0 _ rfl; have a1 := mxo H4.out.1.2 1 _ rfl; have a2 := mxo H4.out.1.2 2 _ rfl; have a3 := mxo H4.out.1.2 3 _ rfl; have a4 := mxo H4.out.1.2 4 _ rfl; have a5 := mxo H4.out.1.2 5 _ rfl; have a6 := mxo H4.out.1.2 6 _ rfl; have a7 := mxo H4.out.1.2 7 _ rfl
      go_upto_region 16 with (first
        | (go_at_call 29; refine (read_calls (E := B) _ _ _ (L.map Int.ofNat) HLL.out.1.symm (Nat.le_refl _) j _ _ _ _ _ _ HQ.out _ (HE.out.1.below (below_alloc H4.out.1.1 _)) (HE.out.2.1.below (below_alloc H4.out.1.1 _)) (HE.out.2.2.below (below_alloc H4.out.1.1 _)) (RdB.of_row0 (below_row (below_alloc (Below.refl _ _) _) H4.out.2)) HLL.out.2).mono ?_; rintro e W5 ⟨rfl, hb⟩; have H5 : Hd (Below w.heap.size w W5 ∧ W5.heap[w.heap.size]? = some (.cells #[.int .i64 kd, .int .i64 id, .int .u64 tx, .int .i64 ct, .string bd, .int .i64 j, .int .i64 at_, .int .u32 (T : Int)] 59 (0, 0))) := ⟨below_step (below_alloc H4.out.1.1 _) hb, below_row hb (below_row (below_alloc (Below.refl _ _) _) H4.out.1.2)⟩; clear hb a0 a1 a2 a3 a4 a5 a6 a7)
        | fail)
      have a0 := mxo H5.out.2 0 _ rfl; have a1 := mxo H5.out.2 1 _ rfl; have a2 := mxo H5.out.2 2 _ rfl; have a3 := mxo H5.out.2 3 _ rfl; have a4 := mxo H5.out.2 4 _ rfl; have a5 := mxo H5.out.2 5 _ rfl; have a6 := mxo H5.out.2 6 _ rfl; have a7 := mxo H5.out.2 7 _ rfl
      go_wp2
      go_ret
      exact ⟨rfl, below_alloc H5.out.1 _⟩
    · have HR : Hd (rdS (L.map Int.ofNat) id = (0, 0, 0, 0, ⟨#[]⟩, 2)) := ⟨rdS_bits HM.out P L HP.out.1.symm HP.out.2.1 HI.out.2.2.2.1 HI.out.2.2.1 a T hT0 HN.out HA.out HI.out.2.2.2.2 id⟩
      have HQ : Hd (rdS (L.map Int.ofNat) j = (0, 0, 0, 0, ⟨#[]⟩, 2)) := ⟨rdS_bits HM.out P L HP.out.1.symm HP.out.2.1 HI.out.2.2.2.1 HI.out.2.2.1 a T hT0 HN.out HA.out HI.out.2.2.2.2 j⟩
      have hTb : ((T : Int) == 0) = false := by simp [hT0]
      clear hT0
      have j0 := mx HB.out.1.2 0 _ rfl; have j1 := mx HB.out.1.2 1 _ rfl; have j2 := mx HB.out.1.2 2 _ rfl; have j3 := mx HB.out.1.2 3 _ rfl; have j4 := mx HB.out.1.2 4 _ rfl; have j5 := mx HB.out.1.2 5 _ rfl; have j6 := mx HB.out.1.2 6 _ rfl; have j7 := mx HB.out.1.2 7 _ rfl
      go_upto_region 15 with (first
        | (go_at_call 29; refine (read_calls (E := B) _ _ _ (L.map Int.ofNat) HLL.out.1.symm (Nat.le_refl _) id _ _ _ _ _ _ HR.out _ (HE.out.1.below HB.out.1.1) (HE.out.2.1.below HB.out.1.1) (HE.out.2.2.below HB.out.1.1) (RdB.of_row0 HB.out.2) HLL.out.2).mono ?_; rintro e W4 ⟨rfl, hb⟩; have H4 : Hd ((Below w.heap.size w W4 ∧ W4.heap[w.heap.size]? = some (.cells #[.int .i64 kd, .int .i64 id, .int .u64 tx, .int .i64 ct, .string bd, .int .i64 j, .int .i64 at_, .int .u32 (T : Int)] 59 (0, 0))) ∧ W4.heap[g]? = some (.cells (u8s (L.map Int.ofNat)) 5 (0, 0))) := ⟨⟨below_step HB.out.1.1 hb, below_row hb HB.out.1.2⟩, below_row hb HB.out.2⟩; clear hb j0 j1 j2 j3 j4 j5 j6 j7)
        | fail)
      have a0 := mxo H4.out.1.2 0 _ rfl; have a1 := mxo H4.out.1.2 1 _ rfl; have a2 := mxo H4.out.1.2 2 _ rfl; have a3 := mxo H4.out.1.2 3 _ rfl; have a4 := mxo H4.out.1.2 4 _ rfl; have a5 := mxo H4.out.1.2 5 _ rfl; have a6 := mxo H4.out.1.2 6 _ rfl; have a7 := mxo H4.out.1.2 7 _ rfl
      go_upto_region 16 with (first
        | (go_at_call 29; refine (read_calls (E := B) _ _ _ (L.map Int.ofNat) HLL.out.1.symm (Nat.le_refl _) j _ _ _ _ _ _ HQ.out _ (HE.out.1.below (below_alloc H4.out.1.1 _)) (HE.out.2.1.below (below_alloc H4.out.1.1 _)) (HE.out.2.2.below (below_alloc H4.out.1.1 _)) (RdB.of_row0 (below_row (below_alloc (Below.refl _ _) _) H4.out.2)) HLL.out.2).mono ?_; rintro e W5 ⟨rfl, hb⟩; have H5 : Hd (Below w.heap.size w W5 ∧ W5.heap[w.heap.size]? = some (.cells #[.int .i64 kd, .int .i64 id, .int .u64 tx, .int .i64 ct, .string bd, .int .i64 j, .int .i64 at_, .int .u32 (T : Int)] 59 (0, 0))) := ⟨below_step (below_alloc H4.out.1.1 _) hb, below_row hb (below_row (below_alloc (Below.refl _ _) _) H4.out.1.2)⟩; clear hb a0 a1 a2 a3 a4 a5 a6 a7)
        | fail)
      have a0 := mxo H5.out.2 0 _ rfl; have a1 := mxo H5.out.2 1 _ rfl; have a2 := mxo H5.out.2 2 _ rfl; have a3 := mxo H5.out.2 3 _ rfl; have a4 := mxo H5.out.2 4 _ rfl; have a5 := mxo H5.out.2 5 _ rfl; have a6 := mxo H5.out.2 6 _ rfl; have a7 := mxo H5.out.2 7 _ rfl
      go_wp2_with (first
        | (go_at_call 19; refine (num_errV (B := B) 2 (by decide) _ (HE.out.1.below (below_alloc H5.out.1 _))).mono ?_; rintro e W' ⟨rfl, rfl⟩)
        | fail)
      go_ret
      exact ⟨rfl, below_alloc H5.out.1 _⟩
end Go.Proofs.YtoenacghkpgnpaaDoor.LSheetBursts
