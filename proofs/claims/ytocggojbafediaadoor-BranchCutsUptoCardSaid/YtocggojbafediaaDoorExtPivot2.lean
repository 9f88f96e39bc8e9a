/- cells.Pivot, whole: what it answers of all sizes. -/
import Derived.Test.YtocggojbafediaaDoorRefA
import Derived.Test.YtocggojbafediaaDoorExtPivot
import Derived.Test.YtocggojbafediaaDoorExtNum
namespace Go.Proofs.YtocggojbafediaaDoor.Ref
set_option linter.unusedVariables false
set_option linter.unusedSimpArgs false
open Go.RowKit Go.Proofs.YtocggojbafediaaDoorW.PrintWords Go.Proofs.YtocggojbafediaaDoorW.PrintLast Go.Proofs.YtocggojbafediaaDoorW.PrintMore

theorem drop_cons_rd (xs : List Int) (i : Nat) (h : i < xs.length) : xs.drop i = rd xs (i : Int) :: xs.drop (i + 1) := by
  unfold rd
  rw [Int.toNat_natCast, List.drop_eq_getElem_cons h, List.getD_eq_getElem?_getD, List.getElem?_eq_getElem h]; rfl
theorem check_l0 (xs : List Int) (hn : xs.length ≤ 20000000000000) : ∀ (d i k : Nat) (acc : Int), i + d = xs.length → 0 ≤ acc → acc ≤ 4072 * (i : Int) → d < k →
    cells_check.l0 k acc xs (xs.length : Int) (i : Int) = if ∀ x ∈ xs.drop i, SizeOk x then some (acc + (xs.drop i).sum, none) else some (0, some 1)
  | 0, i, k, acc, hi, h0, h1, hk => by
    obtain ⟨k, rfl⟩ : ∃ m, k = m + 1 := ⟨k - 1, by omega⟩
    simp only [cells_check.l0]
    rw [if_neg (by omega), List.drop_of_length_le (by omega)]
    simp
  | d + 1, i, k, acc, hi, h0, h1, hk => by
    obtain ⟨k, rfl⟩ : ∃ m, k = m + 1 := ⟨k - 1, by omega⟩
    have hlt : i < xs.length := by omega
    simp only [cells_check.l0]
    rw [if_pos (by omega), if_pos (by omega), if_pos (by omega), drop_cons_rd xs i hlt]
    obtain ⟨s, hs⟩ : ∃ s, rd xs (i : Int) = s := ⟨_, rfl⟩
    rw [hs]
    by_cases hlo : s < 1
    · rw [if_pos hlo, if_neg (fun h => by have := h s List.mem_cons_self; unfold SizeOk at this; omega)]
    · rw [if_neg hlo]
      by_cases hhi : s > 4072
      · rw [if_pos hhi, if_neg (fun h => by have := h s List.mem_cons_self; unfold SizeOk at this; omega)]
      · rw [if_neg hhi, wrap_id (acc + s) (by omega) (by omega), wrap_id ((i : Int) + 1) (by omega) (by omega), show ((i : Int) + 1) = ((i + 1 : Nat) : Int) by omega,
          check_l0 xs hn d (i + 1) k (acc + s) (by omega) (by omega) (by omega) (by omega)]
        have hso : SizeOk s := by unfold SizeOk; omega
        by_cases hr : ∀ x ∈ xs.drop (i + 1), SizeOk x
        · rw [if_pos hr, if_pos (fun x hx => by rcases List.mem_cons.1 hx with rfl | hx; exact hso; exact hr x hx), List.sum_cons, Int.add_assoc]
        · rw [if_neg hr, if_neg (fun h => hr (fun x hx => h x (List.mem_cons_of_mem _ hx)))]
theorem check_eq (xs : List Int) (hn : xs.length ≤ 20000000000000) (least : Int) : cells_check.f (xs.length + 1) xs least = if (xs.length : Int) < least then some (0, some 4) else if ∀ x ∈ xs, SizeOk x then some (xs.sum, none) else some (0, some 1) := by
  unfold cells_check.f
  by_cases h : (xs.length : Int) < least
  · rw [if_pos h, if_pos h]
  · rw [if_neg h, if_neg h]
    have := check_l0 xs hn xs.length 0 (xs.length + 1) 0 (by omega) (by omega) (by omega) (by omega)
    simpa using this

def cells_Pivot.f (l0 : List Int) : Option (Int × Option Int) :=
  if l0.length ≤ 20000000000000 then (if l0.length < 3 then some (0, some 4) else if ∀ x ∈ l0, SizeOk x then some (((near l0 l0.sum (l0.length - 2)).1 : Int), none) else some (0, some 1)) else none
set_option maxHeartbeats 2000000 in
set_option maxRecDepth 100000 in
theorem pivot_no {B_ : Int → Addr} (A0 : Option Addr) (c0 : Nat) (l0 : List Int) (c : Int) (w : World) (hE : Sen [1, 4] B_ w) (hr0 : Kd.C (Kd.int .i64) w A0 l0.length l0) (hc0 : l0.length ≤ c0) (k : Nat) (h : cells_check.f k l0 3 = some (0, some c)) :
    Calls Tryd.prog 52 #[.slice A0 l0.length c0] w fun e w' => e = .returned (.tuple #[.int .i64 0, errW B_ (some c)]) ∧ Below w.heap.size w w' := by
  have hu := Tryd.underlying30
  have hq := fun (a : Addr) (W : World) => E.neq_err_nil a W
  have hq2 := E.neq_nil_nil
  have HC := fun (W : World) (hb : Below w.heap.size w W) => cells_check.calls (B_ := B_) k A0 c0 l0 3 0 (some c) W (hE.below hb) (Kd.C_below hr0 hb) hc0 h
  have HC' := Aside0.mk HC
  clear HC hE hr0 hc0 h
  go_enter Tryd.func52, Tryd.ntmps52
  go_wp2_with fail
  refine (HC'.out _ (Below.refl _ _)).mono ?_
  rintro e W1 ⟨rfl, hd1⟩
  have HB1 := Aside0.mk hd1.below
  clear hd1
  simp only [errW_some]
  go_wp2
  go_ret2
  exact ⟨rfl, below_alloc HB1.out _⟩
set_option maxHeartbeats 2000000 in
set_option maxRecDepth 100000 in
theorem pivot_yes {B_ : Int → Addr} (A0 : Option Addr) (c0 : Nat) (l0 : List Int) (w : World) (hE : Sen [1, 4] B_ w) (hr0 : Kd.C (Kd.int .i64) w A0 l0.length l0) (hc0 : l0.length ≤ c0) (h3 : 3 ≤ l0.length) (hn : l0.length ≤ 20000000000000) (hs : ∀ x ∈ l0, SizeOk x) :
    Calls Tryd.prog 52 #[.slice A0 l0.length c0] w fun e w' => e = .returned (.tuple #[.int .i64 ((near l0 l0.sum (l0.length - 2)).1 : Int), .nilIface]) ∧ Below w.heap.size w w' := by
  have hu := Tryd.underlying30
  have hq := fun (a : Addr) (W : World) => E.neq_err_nil a W
  have hq2 := E.neq_nil_nil
  have hck : cells_check.f (l0.length + 1) l0 3 = some (l0.sum, none) := by rw [check_eq l0 hn, if_neg (by omega), if_pos hs]
  have hsb := sum_bd l0 hs
  obtain ⟨all, hall⟩ : ∃ a, l0.sum = a := ⟨_, rfl⟩
  rw [hall] at hck hsb ⊢
  have HC := fun (W : World) (hb : Below w.heap.size w W) => cells_check.calls (B_ := B_) (l0.length + 1) A0 c0 l0 3 all none W (hE.below hb) (Kd.C_below hr0 hb) hc0 hck
  obtain ⟨la, hla⟩ : ∃ la : Nat, l0.length - 2 = la := ⟨_, rfl⟩
  have hl2 : (la : Int) = (l0.length : Int) - 2 := by omega
  have HN := fun (W : World) (g : Nat) (hb : Below w.heap.size w W) (hg : W.cell? ⟨g, 0, none⟩ = some (.int .i64 all)) => nearest_calls A0 c0 l0 g la all W hg (Kd.C_below hr0 hb) hs (by omega) (by omega) hn (by omega)
  rw [hl2] at HN
  rw [hla]
  have HC' := Aside0.mk HC
  have HN' := Aside0.mk HN
  have h0 : (0 : Int) ≤ (l0.length : Int) - 2 := by omega
  clear HC HN hE hr0 hc0 hck hall hsb hs h3 hla hl2
  go_enter Tryd.func52, Tryd.ntmps52
  go_wp2_with fail
  refine (HC'.out _ (Below.refl _ _)).mono ?_
  rintro e W1 ⟨rfl, hd1⟩
  have HB1 := Aside0.mk hd1.below
  clear hd1
  simp only [errW_none]
  go_wp2_with fail
  refine (HN'.out _ _ ?hb ?hc).mono ?_
  case hb => exact below_alloc HB1.out _
  case hc => first | rfl | (rw [World.cell?_alloc_at _ _ _ _ rfl]; rfl) | (simp; done) | (go_simp; done) | (rw [World.cell?_alloc_at _ _ _ _ (by simp)]; rfl)
  rintro e w' ⟨rfl, rfl⟩
  go_wp2
  go_ret2
  exact ⟨rfl, below_alloc HB1.out _⟩
theorem cells_Pivot.calls {B_ : Int → Addr} (A0 : Option Addr) (c0 : Nat) (l0 : List Int) (r1 : Int) (r2 : Option Int) (w : World) (hE : Sen [1, 4] B_ w) (hr0 : Kd.C (Kd.int .i64) w A0 l0.length l0) (hc0 : l0.length ≤ c0) (h : cells_Pivot.f l0 = some (r1, r2)) :
    Calls Tryd.prog 52 #[.slice A0 l0.length c0] w fun e w' => e = .returned (.tuple #[.int .i64 r1, errW B_ r2]) ∧ Below w.heap.size w w' := by
  unfold cells_Pivot.f at h
  by_cases hn : l0.length ≤ 20000000000000
  · rw [if_pos hn] at h
    by_cases h3 : l0.length < 3
    · rw [if_pos h3] at h
      simp only [Option.some.injEq, Prod.mk.injEq] at h
      obtain ⟨rfl, rfl⟩ := h
      exact pivot_no A0 c0 l0 4 w hE hr0 hc0 (l0.length + 1) (by rw [check_eq l0 hn, if_pos (by omega)])
    · rw [if_neg h3] at h
      by_cases hs : ∀ x ∈ l0, SizeOk x
      · rw [if_pos hs] at h
        simp only [Option.some.injEq, Prod.mk.injEq] at h
        obtain ⟨rfl, rfl⟩ := h
        exact pivot_yes A0 c0 l0 w hE hr0 hc0 (by omega) hn hs
      · rw [if_neg hs] at h
        simp only [Option.some.injEq, Prod.mk.injEq] at h
        obtain ⟨rfl, rfl⟩ := h
        exact pivot_no A0 c0 l0 1 w hE hr0 hc0 (l0.length + 1) (by rw [check_eq l0 hn, if_neg (by omega), if_neg hs])
  · rw [if_neg hn] at h
    cases h
end Go.Proofs.YtocggojbafediaaDoor.Ref
