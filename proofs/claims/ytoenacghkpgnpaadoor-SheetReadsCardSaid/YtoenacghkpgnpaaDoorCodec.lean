/- Layer 1: sums and numbers in bytes: what the calls come to. -/
import Derived.Test.YtoenacghkpgnpaaDoorEnv
import Derived.Test.YtoenacghkpgnpaaDoorPure1
namespace Go.Proofs.YtoenacghkpgnpaaDoor.Codec
open Go.RowKit Go.Proofs.YtoenacghkpgnpaaDoor.K Go.Proofs.YtoenacghkpgnpaaDoor.E Go.Proofs.YtoenacghkpgnpaaDoor.P1

theorem ret_int {k : IntKind} {a b : Int} (h : a = b) : Ending.returned (.int k a) = .returned (.int k b) := by rw [h]

set_option maxRecDepth 100000 in
set_option maxHeartbeats 400000 in
theorem crcMore_calls (r0 : Int) (A : Option Addr) (c : Nat) (xs : List Int) (w : World) (hr : RdB w A xs) (hs : TabOk w) (hx : ∀ x, x ∈ xs → 0 ≤ x ∧ x ≤ 255) (hl : xs.length ≤ 281474976710656) :
    Calls Tryd.prog 87 #[.int .u32 r0, .slice A xs.length c] w fun e w' => e = .returned (.int .u32 (bits .xor .u32 4294967295 (reg (bits .xor .u32 4294967295 r0) xs))) ∧ w = w' := by
  have hsg : IntKind.u32.signed = false := rfl
  have hmx : IntKind.u32.max = 4294967295 := rfl
  obtain ⟨q0, hq0⟩ : ∃ q0, bits .xor .u32 4294967295 r0 = q0 := ⟨_, rfl⟩
  have hqr : 0 ≤ q0 ∧ q0 ≤ 4294967295 := hq0 ▸ bits32_range .xor 4294967295 r0
  go_enter Tryd.func87, Tryd.ntmps87
  go_wp2
  go_loop [5, 12] (fun r i => ∃ (k : Nat) (q : Int), k ≤ xs.length ∧ i = .int .i64 k ∧ r = .int .u32 q ∧ 0 ≤ q ∧ q ≤ 4294967295 ∧ Hid (reg q0 (xs.take k) = q)) (fun _ i => xs.length - (intOf i).toNat)
  case atStart => exact ⟨0, _, by omega, rfl, rfl, hqr.1, hqr.2, rfl⟩
  case round =>
    obtain ⟨k, q, hk, rfl, rfl, hqa, hqb, HQ⟩ := hrel
    by_cases hlt : k < xs.length
    · obtain ⟨ad, rfl, hc0⟩ := hr.at_ k hlt
      obtain ⟨b, hb⟩ : ∃ b, xs.getD k 0 = b := ⟨_, rfl⟩
      have hmem : b ∈ xs := by
        rw [← hb, List.getD_eq_getElem?_getD, List.getElem?_eq_getElem hlt]; exact List.getElem_mem hlt
      have hsnoc : Hid (xs.take (k + 1) = xs.take k ++ [b]) := by
        show _ = _
        rw [List.take_succ_eq_append_getElem hlt, ← hb, List.getD_eq_getElem?_getD, List.getElem?_eq_getElem hlt]; rfl
      have hc : w.cell? (ad.add k) = some (.int .u8 b) := hb ▸ hc0
      obtain ⟨hb0, hb1⟩ := hx b hmem
      clear hc0 hb hmem
      have hbm : b % 4294967296 = b := by omega
      obtain ⟨x1, hx1⟩ : ∃ x, bits .xor .u32 q b = x := ⟨_, rfl⟩
      have hx1r : 0 ≤ x1 ∧ x1 ≤ 4294967295 := hx1 ▸ bits32_range .xor q b
      obtain ⟨i1, hi1, hi1e, hn1⟩ := nib_index x1 hx1r.1 hx1r.2
      have hc1 := hs i1 hi1
      obtain ⟨x2, hx2⟩ : ∃ x, nib x1 = x := ⟨_, rfl⟩
      have hx2r : 0 ≤ x2 ∧ x2 ≤ 4294967295 := hx2 ▸ nib_range x1
      obtain ⟨s1, hs1⟩ : ∃ s, P1.steps.getD i1 0 = s := ⟨_, rfl⟩
      rw [hs1] at hc1 hn1
      rw [hx2] at hn1
      obtain ⟨i2, hi2, hi2e, hn2⟩ := nib_index x2 hx2r.1 hx2r.2
      have hc2 := hs i2 hi2
      obtain ⟨s2, hs2⟩ : ∃ s, P1.steps.getD i2 0 = s := ⟨_, rfl⟩
      rw [hs2] at hc2 hn2
      obtain ⟨x3, hx3⟩ : ∃ x, nib x2 = x := ⟨_, rfl⟩
      rw [hx3] at hn2
      have hx3r : 0 ≤ x3 ∧ x3 ≤ 4294967295 := hx3 ▸ nib_range x2
      have HB : Hid (byte q b = x3) := by show nib (nib (bits .xor .u32 q b)) = x3; rw [hx1, hx2, hx3]
      have ha1 : 0 ≤ (i1 : Int) := by omega
      have ha2 : (i1 : Int) < 16 := by omega
      have ha3 : 0 ≤ (i2 : Int) := by omega
      have ha4 : (i2 : Int) < 16 := by omega
      clear hs1 hs2 hx2 hx3
      go_wp2
      go_round
      case rel => exact ⟨k + 1, x3, by omega, by go_num, rfl, hx3r.1, hx3r.2, by show _ = _; rw [hsnoc.out, reg_snoc, HQ.out, HB.out]⟩
      case measure => simp [intOf]; omega
    · go_wp2
      go_ret
      exact ⟨ret_int (by rw [← HQ.out, List.take_of_length_le (by omega)]), rfl⟩

set_option maxRecDepth 100000 in
set_option maxHeartbeats 400000 in
theorem crc_calls (A : Option Addr) (c : Nat) (xs : List Int) (nI : Nat) (hnI : nI = xs.length) (w : World) (hr : RdB w A xs) (hs : TabOk w) (hx : ∀ x, x ∈ xs → 0 ≤ x ∧ x ≤ 255) (hl : xs.length ≤ 281474976710656) :
    Calls Tryd.prog 59 #[.slice A nI c] w fun e w' => e = .returned (.int .u32 (crc xs)) ∧ w = w' := by
  subst hnI
  go_enter Tryd.func59, Tryd.ntmps59
  go_wp2_with (go_at_call 87; refine (crcMore_calls 0 A c xs _ hr hs hx hl).mono ?_; rintro e w' ⟨rfl, rfl⟩)
  go_ret
  exact ⟨rfl, rfl⟩

theorem u8info : (Tryd.prog.info? 5).map (fun i => (i.zero, i.size, i.bytes)) = some (some (.int .u8 0), 1, 1) := by kernel_rfl
theorem u8size : (Tryd.prog.info? 5).map (·.size) = some 1 := by kernel_rfl

theorem put_row (n : Int) (k : Nat) (w : World) (T e : TypeId) : ((w.alloc (.cells (u8s (all8 n 8)) T)).alloc (.cells (Array.replicate k (.int .u8 0)) e)).heap[w.heap.size + 1]? = some (.cells (u8s (List.replicate k 0)) e (0, 0)) := by
  rw [row_alloc_at _ _ _ (by simp), u8s_replicate]
theorem put_src (n : Int) (k : Nat) (h2 : k ≤ 8) (w : World) (T e : TypeId) : RdB ((w.alloc (.cells (u8s (all8 n 8)) T)).alloc (.cells (Array.replicate k (.int .u8 0)) e)) (some ⟨w.heap.size, 8 - k, none⟩) (be n k) := by
  refine RdB.of_row (cs := all8 n 8) (t := T) (fr := (0, 0)) ?_ _ fun j hj => ?_
  · rw [row_alloc_past _ _ _ (by simp), row_alloc_at _ _ _ rfl]
  · rw [← all8_tail n k h2] at hj ⊢
    rw [List.length_drop, all8_length] at hj
    rw [List.getD_eq_getElem?_getD, List.getElem?_drop, List.getElem?_eq_getElem (by rw [all8_length]; omega)]; rfl
theorem splice_whole (k : Nat) (xs : List Int) (h : xs.length = k) : splice (List.replicate k 0) 0 xs = xs := by
  simp [splice, h]
theorem put_done (n : Int) (k : Nat) (w : World) (T e : TypeId) :
    (((w.alloc (.cells (u8s (all8 n 8)) T)).alloc (.cells (Array.replicate k (.int .u8 0)) e)).setRow (w.heap.size + 1) (u8s (splice (List.replicate k 0) 0 (be n k)))).heap[w.heap.size + 1]? = some (.cells (u8s (be n k)) e (0, 0)) ∧
    Below w.heap.size w (((w.alloc (.cells (u8s (all8 n 8)) T)).alloc (.cells (Array.replicate k (.int .u8 0)) e)).setRow (w.heap.size + 1) (u8s (splice (List.replicate k 0) 0 (be n k)))) := by
  rw [splice_whole k _ (be_length n k)]
  exact ⟨setRow_heap _ _ _ _ _ _ (put_row n k w T e), below_setRow (below_alloc (below_alloc (Below.refl _ _) _) _) (by omega) _⟩

set_option maxRecDepth 100000 in
set_option maxHeartbeats 400000 in
/-- A number that fits, in so many bytes. -/
theorem put_calls (n : Int) (kI : Int) (k : Nat) (hkI : kI = k) (w : World) (h1 : 1 ≤ k) (h2 : k ≤ 8) (h0 : 0 ≤ n) (hn : n < 256 ^ k) :
    Calls Tryd.prog 57 #[.int .u64 n, .int .i64 kI] w fun e w' => ∃ g, e = .returned (.tuple #[.slice (some ⟨g, 0, none⟩) k k, .nilIface]) ∧ w.heap.size ≤ g ∧
      w'.heap[g]? = some (.cells (u8s (be n k)) 5 (0, 0)) ∧ Below w.heap.size w w' := by
  subst hkI
  have hq : k < 8 → (n / 2 ^ (8 * k) != 0) = false := fun _ => by
    have : n / 2 ^ (8 * k) = 0 := by
      rw [Int.pow_mul]
      exact Int.ediv_eq_zero_of_lt h0 hn
    simp [this]
  have main : (k < 8 ∧ (n / 2 ^ (8 * k) != 0) = false) ∨ k = 8 := by
    rcases Nat.lt_or_ge k 8 with h | h
    · exact .inl ⟨h, hq h⟩
    · exact .inr (by omega)
  clear hq hn
  have hb1 := put_row n k w 138 5
  have hb2 := put_src n k h2 w 138 5
  have hb3 := put_done n k w 138 5
  have HB : Hid (_ ∧ _ ∧ _) := ⟨hb1, hb2, hb3⟩
  clear hb1 hb2 hb3
  have hsl := fun (wx : World) (hk : 8 - k < 8) => run_arr_l (P := Tryd.prog) wx 138 5 8 Tryd.underlying138 u8size w.heap.size .i64 (8 - (k : Int)) (8 - k) (by omega) hk
  have hk8 : 8 - k < 8 := by omega
  rcases main with ⟨h8, hn⟩ | h8
  all_goals
    try subst h8
    go_enter Tryd.func57, Tryd.ntmps57
    go_wp2
    go_loopw [27] (fun c wr => ∃ j : Nat, j ≤ 8 ∧ c = .int .i64 j ∧ wr = w.alloc (.cells (u8s (all8 n j)) 138)) (fun c _ => 8 - (intOf c).toNat)
    case atStart => exact ⟨0, by omega, rfl, by rw [all8_zero]; rfl⟩
    case round =>
      obtain ⟨j, hj, rfl, rfl⟩ := hrel
      by_cases hlt : j < 8
      · have hg : (u8s (all8 n j))[7 - j]? = some (.int .u8 0) := by rw [u8s_get, all8_get n j hlt]; rfl
        have hset := u8s_set (all8 n j) (7 - j)
        go_wp2
        go_roundw
        case rel =>
          refine ⟨j + 1, by omega, by go_num, ?_⟩
          rw [all8_succ n j hlt]
        case measure => simp [intOf]; omega
      · obtain rfl : j = 8 := by omega
        go_wp2_with (first
          | (at_make; refine wpList_mk rfl _ _ 25 rfl 5 (.int .u8 0) 1 Tryd.underlying25 u8info rfl .i64 .i64 _ _ _ _ rfl rfl rfl rfl (by omega) (by omega) (by omega) ?_)
          | (refine wpList_cp rfl (.tmp 41) (.tmp 44) 25 25 rfl 5 Tryd.underlying25 u8size _ _ _ _ _ _ _ rfl rfl (List.replicate k 0) 5 HB.out.1 (be n k) (by rw [be_length]; show k = min _ _; omega) HB.out.2.1 (by rw [be_length, List.length_replicate]; omega) ?_)
          | (refine wpList_cp rfl (.tmp 41) (.tmp 44) 25 25 rfl 5 Tryd.underlying25 u8size _ _ _ _ _ _ _ rfl rfl (List.replicate 8 0) 5 HB.out.1 (be n 8) (by rw [be_length]; rfl) HB.out.2.1 (by rw [be_length, List.length_replicate]; omega) ?_))
        go_ret2
        exact ⟨_, rfl, by omega, HB.out.2.2⟩

set_option maxRecDepth 100000 in
set_option maxHeartbeats 400000 in
/-- The number in one to eight bytes. -/
theorem get_calls (A : Option Addr) (c : Nat) (xs : List Int) (nI : Nat) (hnI : nI = xs.length) (w : World) (hr : RdB w A xs) (hx : ∀ x, x ∈ xs → 0 ≤ x ∧ x ≤ 255) (h1 : 1 ≤ xs.length) (h8 : xs.length ≤ 8) :
    Calls Tryd.prog 66 #[.slice A nI c] w fun e w' => e = .returned (.tuple #[.int .u64 (num xs), .nilIface]) ∧ w = w' := by
  subst hnI
  have hsg : IntKind.u64.signed = false := rfl
  go_enter Tryd.func66, Tryd.ntmps66
  go_wp2
  go_loop [4, 17] (fun r i => ∃ (k : Nat) (q : Int), k ≤ xs.length ∧ i = .int .i64 k ∧ r = .int .u64 q ∧ Hid (num (xs.take k) = q)) (fun _ i => xs.length - (intOf i).toNat)
  case atStart => exact ⟨0, 0, by omega, rfl, rfl, rfl⟩
  case round =>
    obtain ⟨k, q, hk, rfl, rfl, HQ⟩ := hrel
    by_cases hlt : k < xs.length
    · obtain ⟨ad, rfl, hc0⟩ := hr.at_ k hlt
      obtain ⟨b, hb⟩ : ∃ b, xs.getD k 0 = b := ⟨_, rfl⟩
      have hmem : b ∈ xs := by
        rw [← hb, List.getD_eq_getElem?_getD, List.getElem?_eq_getElem hlt]; exact List.getElem_mem hlt
      have hsnoc : Hid (xs.take (k + 1) = xs.take k ++ [b]) := by
        show _ = _
        rw [List.take_succ_eq_append_getElem hlt, ← hb, List.getD_eq_getElem?_getD, List.getElem?_eq_getElem hlt]; rfl
      have hc : w.cell? (ad.add k) = some (.int .u8 b) := hb ▸ hc0
      obtain ⟨hb0, hb1⟩ := hx b hmem
      have hq : 0 ≤ q ∧ q < 72057594037927936 := by
        have h := num_range (xs.take k) fun x hx' => hx x (List.mem_of_mem_take hx')
        rw [HQ.out, List.length_take, Nat.min_eq_left hk] at h
        have h7 : (256 : Int) ^ k ≤ 256 ^ 7 := pow256_le k 7 (by omega)
        exact ⟨h.1, Int.lt_of_lt_of_le h.2 h7⟩
      have hor := or_u64 q b hq.1 hq.2 hb0 hb1
      clear hc0 hb hmem
      go_wp2
      go_round
      case rel => exact ⟨k + 1, q * 256 + b, by omega, by go_num, rfl, by show _ = _; rw [hsnoc.out, num_snoc, HQ.out]⟩
      case measure => simp [intOf]; omega
    · go_wp2
      have e : num xs = q := by rw [← HQ.out, List.take_of_length_le (by omega)]
      go_ret2
      exact ⟨by rw [e]; rfl, rfl⟩

end Go.Proofs.YtoenacghkpgnpaaDoor.Codec
