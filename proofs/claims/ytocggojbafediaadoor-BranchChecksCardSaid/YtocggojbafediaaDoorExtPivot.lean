/- cells.Pivot: the first place whose two sums are as near as any's. -/
import Derived.Test.YtocggojbafediaaDoorRef1
import Derived.Test.YtocggojbafediaaDoorKit
namespace Go.Proofs.YtocggojbafediaaDoor.Ref
set_option linter.unusedVariables false
set_option linter.unusedSimpArgs false
open Go.RowKit Go.Proofs.YtocggojbafediaaDoorW.PrintWords Go.Proofs.YtocggojbafediaaDoorW.PrintLast Go.Proofs.YtocggojbafediaaDoorW.PrintMore

theorem wrap_id (x : Int) (h1 : -4000000000000000000 ≤ x) (h2 : x ≤ 4000000000000000000) : wrap64 x = x := by unfold wrap64; omega
theorem wrap_neg (d : Int) (h1 : -1000000000000000000 ≤ d) (h2 : d ≤ 1000000000000000000) : wrap64 (-d) = -d := wrap_id _ (by omega) (by omega)
/-- The best place of 1 .. m, its difference, the sum up to the place m. -/
def near (sizes : List Int) (all : Int) : Nat → Nat × Int × Int
  | 0 => (0, 0, sizes.getD 0 0)
  | m + 1 =>
    let p := near sizes all m
    let s := sizes.getD (m + 1) 0
    let w := ((2 * p.2.2 + s - all).natAbs : Int)
    if p.1 = 0 ∨ w < p.2.1 then (m + 1, w, p.2.2 + s) else (p.1, p.2.1, p.2.2 + s)
def SizeOk (n : Int) : Prop := 1 ≤ n ∧ n ≤ 4072
instance (n : Int) : Decidable (SizeOk n) := by unfold SizeOk; infer_instance
theorem near_sum (sizes : List Int) (all : Int) (hs : ∀ x ∈ sizes, SizeOk x) : ∀ m, m < sizes.length → 0 ≤ (near sizes all m).2.2 ∧ (near sizes all m).2.2 ≤ 4072 * (m + 1 : Nat) ∧ (near sizes all m).1 ≤ m
  | 0, h => by
    have := hs (sizes.getD 0 0) (by rw [List.getD_eq_getElem?_getD, List.getElem?_eq_getElem h]; exact List.getElem_mem h)
    unfold SizeOk at this
    simp only [near]
    omega
  | m + 1, h => by
    have ih := near_sum sizes all hs m (by omega)
    have := hs (sizes.getD (m + 1) 0) (by rw [List.getD_eq_getElem?_getD, List.getElem?_eq_getElem h]; exact List.getElem_mem h)
    unfold SizeOk at this
    simp only [near]
    split
    · simp only; omega
    · simp only; omega

set_option maxRecDepth 100000 in
theorem worth_calls (a s all : Int) (g : Nat) (w : World) (hc : w.cell? ⟨g, 0, none⟩ = some (.int .i64 all)) (d : Int) (hd : wrap64 (wrap64 (wrap64 (2 * a) + s) - all) = d) :
    Calls Tryd.prog 98 #[.int .i64 a, .int .i64 s, .pointer (some ⟨g, 0, none⟩)] w fun e w' => e = .returned (.int .i64 d) ∧ w = w' := by
  have HD := Aside0.mk hd
  clear hd
  go_enter Tryd.func98, Tryd.ntmps98
  go_wp2
  go_ret
  exact ⟨congrArg (fun z => Ending.returned (Value.int .i64 z)) HD.out, rfl⟩

theorem sum_bd (sizes : List Int) (hs : ∀ x ∈ sizes, SizeOk x) : 0 ≤ sizes.sum ∧ sizes.sum ≤ 4072 * (sizes.length : Int) := by
  induction sizes with
  | nil => simp
  | cons x xs ih =>
    have h1 := ih (fun y hy => hs y (List.mem_cons_of_mem _ hy))
    have h2 := hs x List.mem_cons_self
    unfold SizeOk at h2
    simp only [List.sum_cons, List.length_cons]
    omega

set_option maxHeartbeats 2000000 in
set_option maxRecDepth 100000 in
theorem nearest_calls (A : Option Addr) (c : Nat) (sizes : List Int) (g : Nat) (last : Nat) (all : Int) (w : World) (hc : w.cell? ⟨g, 0, none⟩ = some (.int .i64 all)) (hr : Kd.C (Kd.int .i64) w A sizes.length sizes)
    (hs : ∀ x ∈ sizes, SizeOk x) (ha0 : 0 ≤ all) (ha1 : all ≤ 100000000000000000) (hn : sizes.length ≤ 20000000000000) (hl : last < sizes.length) :
    Calls Tryd.prog 97 #[.slice A sizes.length c, .int .i64 last, .func (.func 98) #[] #[.pointer (some ⟨g, 0, none⟩)]] w fun e w' => e = .returned (.int .i64 (near sizes all last).1) ∧ w = w' := by
  obtain ⟨ad, rfl, -⟩ := Kd.at_int hr 0 (by omega) (by omega)
  have HR := Aside0.mk hr
  have HS := Aside0.mk hs
  have hx0 : w.cell? ad = some (.int .i64 (sizes.getD 0 0)) := by
    obtain ⟨ad', e, h⟩ := Kd.at_int hr 0 (by omega) (by omega)
    cases e
    simpa [Addr.add, rd] using h
  obtain ⟨s0, hs0⟩ : ∃ s, sizes.getD 0 0 = s := ⟨_, rfl⟩
  rw [hs0] at hx0
  have HS0 := Aside0.mk hs0
  clear hs0
  have h0l : (0 : Nat) < sizes.length := by omega
  have h0l' : (0 : Int) < (sizes.length : Int) := by omega
  have HL := Aside0.mk hl
  have HN := Aside0.mk hn
  have HA := Aside0.mk (And.intro ha0 ha1)
  clear hr hs hl hn ha0 ha1
  go_enter Tryd.func97, Tryd.ntmps97
  go_wp2
  go_loop [7, 8, 9, 10] (fun b l a i => ∃ (j bn : Nat) (ln an : Int), b = .int .i64 bn ∧ l = .int .i64 ln ∧ a = .int .i64 an ∧ i = .int .i64 (j : Int) ∧ Aside0 (1 ≤ j ∧ j ≤ last + 1) ∧ Aside0 (near sizes all (j - 1) = (bn, ln, an))) (fun _ _ _ i => last + 1 - (intOf i).toNat)
  case atStart => exact ⟨1, 0, 0, _, rfl, rfl, rfl, rfl, ⟨by omega⟩, ⟨by simp only [near, Nat.sub_self, HS0.out]⟩⟩
  case round =>
    obtain ⟨j, bn, ln, an, rfl, rfl, rfl, rfl, HJB, HJ⟩ := hrel
    by_cases hlt : j ≤ last
    · obtain ⟨m, hm⟩ : ∃ m, j = m + 1 := ⟨j - 1, by have := HJB.out; omega⟩
      have hmj : j - 1 = m := by omega
      have hb := near_sum sizes all HS.out m (by have := HL.out; omega)
      rw [hmj] at HJ
      rw [HJ.out] at hb
      simp only at hb
      have hjl : j < sizes.length := by have := HL.out; omega
      have hlt' : decide ((j : Int) ≤ (last : Int)) = true := decide_eq_true (by omega)
      have hlt2 : decide (j ≤ last) = true := decide_eq_true (by omega)
      have hi0 : (0 : Int) ≤ (j : Int) := by omega
      have hi1 : (j : Int) < (sizes.length : Int) := by omega
      have hjb : j ≤ 20000000000000 := by have h1 := HN.out; omega
      obtain ⟨sv, hsv⟩ : ∃ s, sizes.getD j 0 = s := ⟨_, rfl⟩
      have hso : SizeOk sv := HS.out sv (by rw [← hsv, List.getD_eq_getElem?_getD, List.getElem?_eq_getElem hjl]; exact List.getElem_mem hjl)
      have hxj : w.cell? (ad.add j) = some (.int .i64 sv) := by
        obtain ⟨ad', e, h⟩ := Kd.at_int HR.out (j : Int) (by omega) (by omega)
        cases e
        have h2 : rd sizes (j : Int) = sv := by unfold rd; rw [Int.toNat_natCast]; exact hsv
        rw [h2, Int.toNat_natCast] at h
        exact h
      have HSV := Aside0.mk hsv
      unfold SizeOk at hso
      obtain ⟨d, hd⟩ : ∃ d, wrap64 (wrap64 (wrap64 (2 * an) + sv) - all) = d := ⟨_, rfl⟩
      have HDV := Aside0.mk (show d = 2 * an + sv - all from by
        have h1 := HN.out; have h2 := HA.out; have h3 := HL.out
        rw [← hd, wrap_id (2 * an) (by omega) (by omega), wrap_id (2 * an + sv) (by omega) (by omega), wrap_id _ (by omega) (by omega)])
      have hdb := Aside0.mk (show -1000000000000000000 ≤ d ∧ d ≤ 1000000000000000000 from by
        have h1 := HN.out; have h2 := HA.out; have h3 := HL.out; have h4 := HDV.out
        omega)
      have HD := Aside0.mk hd
      obtain ⟨t, ht⟩ : ∃ t : Int, wrap64 (an + sv) = t := ⟨_, rfl⟩
      have htw : IntKind.i64.wrap (an + sv) = t := (i64_w _).trans ht
      have HT := Aside0.mk (show an + sv = t from by have h1 := HN.out; have h3 := HL.out; rw [← ht, wrap_id _ (by omega) (by omega)])
      obtain ⟨nd, hneg⟩ : ∃ x : Int, wrap64 (-d) = x := ⟨_, rfl⟩
      have hnegw : IntKind.i64.wrap (-d) = nd := (i64_w _).trans hneg
      have HND := Aside0.mk (show nd = -d from hneg.symm.trans (wrap_neg d hdb.out.1 hdb.out.2))
      have HNX := Aside0.mk (show near sizes all (j + 1 - 1) = if bn = 0 ∨ ((d.natAbs : Nat) : Int) < ln then (j, ((d.natAbs : Nat) : Int), t) else (bn, ln, t) from by
        rw [Nat.add_sub_cancel, hm]
        simp only [near, HJ.out]
        rw [← hm, HSV.out, ← HDV.out, HT.out])
      have HLT := Aside0.mk hlt
      clear hd hsv hb hso hlt hm hmj
      by_cases hd0 : d < 0
      · have hab : ((d.natAbs : Nat) : Int) = nd := by rw [HND.out]; exact Int.ofNat_natAbs_of_nonpos (Int.le_of_lt hd0)
        rw [hab] at HNX
        have hd0' : decide (d < 0) = true := decide_eq_true hd0
        clear hab hd0
        by_cases hb0 : bn = 0
        · have HN2 := Aside0.mk (show near sizes all (j + 1 - 1) = (j, nd, t) from HNX.out.trans (if_pos (.inl hb0)))
          have hb0' : (((bn : Nat) : Int) == 0) = true := by rw [hb0]; rfl
          have hb1' : (bn == 0) = true := by rw [hb0]; rfl
          clear HNX hb0
          go_wp2_with fail
          refine (worth_calls an sv all g _ hc d HD.out).mono ?_
          rintro e w' ⟨rfl, rfl⟩
          go_wp2
          go_round
          case rel => exact ⟨j + 1, j, _, _, rfl, rfl, rfl, by go_num, ⟨⟨Nat.le_add_left _ _, Nat.succ_le_succ HLT.out⟩⟩, HN2⟩
          case measure => have := HLT.out; clear hneg hnegw ht htw; simp [intOf]; omega
        · have hb0' : (((bn : Nat) : Int) == 0) = false := by rw [beq_eq_false_iff_ne]; exact fun h => hb0 (Int.ofNat.inj h)
          have hb1' : (bn == 0) = false := by rw [beq_eq_false_iff_ne]; exact hb0
          by_cases hw : nd < ln
          · have HN2 := Aside0.mk (show near sizes all (j + 1 - 1) = (j, nd, t) from HNX.out.trans (if_pos (.inr hw)))
            have hw' : decide (nd < ln) = true := decide_eq_true hw
            clear HNX hw hb0
            go_wp2_with fail
            refine (worth_calls an sv all g _ hc d HD.out).mono ?_
            rintro e w' ⟨rfl, rfl⟩
            go_wp2
            go_round
            case rel => exact ⟨j + 1, j, _, _, rfl, rfl, rfl, by go_num, ⟨⟨Nat.le_add_left _ _, Nat.succ_le_succ HLT.out⟩⟩, HN2⟩
            case measure => have := HLT.out; clear hneg hnegw ht htw; simp [intOf]; omega
          · have HN2 := Aside0.mk (show near sizes all (j + 1 - 1) = (bn, ln, t) from HNX.out.trans (if_neg (fun h => h.elim hb0 hw)))
            have hw' : decide (nd < ln) = false := decide_eq_false hw
            clear HNX hw hb0
            go_wp2_with fail
            refine (worth_calls an sv all g _ hc d HD.out).mono ?_
            rintro e w' ⟨rfl, rfl⟩
            go_wp2
            go_round
            case rel => exact ⟨j + 1, bn, _, _, rfl, rfl, rfl, by go_num, ⟨⟨Nat.le_add_left _ _, Nat.succ_le_succ HLT.out⟩⟩, HN2⟩
            case measure => have := HLT.out; clear hneg hnegw ht htw; simp [intOf]; omega
      · have hab : ((d.natAbs : Nat) : Int) = d := Int.natAbs_of_nonneg (Int.not_lt.1 hd0)
        rw [hab] at HNX
        have hd0' : decide (d < 0) = false := decide_eq_false hd0
        clear hab hd0
        by_cases hb0 : bn = 0
        · have HN2 := Aside0.mk (show near sizes all (j + 1 - 1) = (j, d, t) from HNX.out.trans (if_pos (.inl hb0)))
          have hb0' : (((bn : Nat) : Int) == 0) = true := by rw [hb0]; rfl
          have hb1' : (bn == 0) = true := by rw [hb0]; rfl
          clear HNX hb0
          go_wp2_with fail
          refine (worth_calls an sv all g _ hc d HD.out).mono ?_
          rintro e w' ⟨rfl, rfl⟩
          go_wp2
          go_round
          case rel => exact ⟨j + 1, j, _, _, rfl, rfl, rfl, by go_num, ⟨⟨Nat.le_add_left _ _, Nat.succ_le_succ HLT.out⟩⟩, HN2⟩
          case measure => have := HLT.out; clear hneg hnegw ht htw; simp [intOf]; omega
        · have hb0' : (((bn : Nat) : Int) == 0) = false := by rw [beq_eq_false_iff_ne]; exact fun h => hb0 (Int.ofNat.inj h)
          have hb1' : (bn == 0) = false := by rw [beq_eq_false_iff_ne]; exact hb0
          by_cases hw : d < ln
          · have HN2 := Aside0.mk (show near sizes all (j + 1 - 1) = (j, d, t) from HNX.out.trans (if_pos (.inr hw)))
            have hw' : decide (d < ln) = true := decide_eq_true hw
            clear HNX hw hb0
            go_wp2_with fail
            refine (worth_calls an sv all g _ hc d HD.out).mono ?_
            rintro e w' ⟨rfl, rfl⟩
            go_wp2
            go_round
            case rel => exact ⟨j + 1, j, _, _, rfl, rfl, rfl, by go_num, ⟨⟨Nat.le_add_left _ _, Nat.succ_le_succ HLT.out⟩⟩, HN2⟩
            case measure => have := HLT.out; clear hneg hnegw ht htw; simp [intOf]; omega
          · have HN2 := Aside0.mk (show near sizes all (j + 1 - 1) = (bn, ln, t) from HNX.out.trans (if_neg (fun h => h.elim hb0 hw)))
            have hw' : decide (d < ln) = false := decide_eq_false hw
            clear HNX hw hb0
            go_wp2_with fail
            refine (worth_calls an sv all g _ hc d HD.out).mono ?_
            rintro e w' ⟨rfl, rfl⟩
            go_wp2
            go_round
            case rel => exact ⟨j + 1, bn, _, _, rfl, rfl, rfl, by go_num, ⟨⟨Nat.le_add_left _ _, Nat.succ_le_succ HLT.out⟩⟩, HN2⟩
            case measure => have := HLT.out; clear hneg hnegw ht htw; simp [intOf]; omega
    · have hl' : last = j - 1 := by have := HJB.out; omega
      have hlt' : decide ((j : Int) ≤ (last : Int)) = false := decide_eq_false (by omega)
      have hlt2 : decide (j ≤ last) = false := decide_eq_false (by omega)
      rw [← hl'] at HJ
      clear hlt hl'
      go_wp2
      go_ret
      exact ⟨by show Ending.returned (Value.int .i64 (bn : Int)) = _; rw [HJ.out], rfl⟩
end Go.Proofs.YtocggojbafediaaDoor.Ref
