/- branch.Check, whole: what it says of every branch. -/
import Derived.Test.YtocggojbafediaaDoorExtChkA
import Derived.Test.YtocggojbafediaaDoorExtSort
import Derived.Test.YtocggojbafediaaDoorRefA
import Derived.Deep.RegionWith
import Derived.Laws.EntriesVeiled
namespace Go.Proofs.YtocggojbafediaaDoor.Ref
set_option linter.unusedVariables false
set_option linter.unusedSimpArgs false
open Go.RowKit Go.Proofs.YtocggojbafediaaDoorW.PrintWords Go.Proofs.YtocggojbafediaaDoorW.PrintLast Go.Proofs.YtocggojbafediaaDoorW.PrintMore
attribute [local go_sem] str_leq_ str_geq_ str_gtr_

/-- A row of ints of the call's own, opened. -/
theorem R_ints {w : World} {base : Nat} {ok : Nat → Prop} {v : Value} {xs : List Int} (h : Kd.R (Kd.int .i64) 3 w base ok v xs) (hx : xs ≠ []) :
    ∃ g cap cur, v = .slice (some ⟨g, 0, none⟩) xs.length cap ∧ base ≤ g ∧ w.heap[g]? = some (.cells cur 3 (0, 0)) ∧ xs.length ≤ cap ∧ xs.length ≤ cur.size ∧ cur.toList.take xs.length = xs.map (Value.int .i64) := by
  obtain ⟨_, inner, ⟨hl, ho⟩, hr1, hr2⟩ := h
  have hp : 0 < xs.length := List.length_pos_iff.2 hx
  rcases ho with ⟨_, h0⟩ | ⟨g, cap, cur, rfl, hg, hh, hn, hm, hs, ht⟩
  · omega
  · refine ⟨g, cap, cur, rfl, hg, hh, hn, by rw [hs]; simp only [Kd.int, Kd.scalar]; omega, ?_⟩
    have e1 : xs.length * (Kd.int .i64).sz = xs.length := Nat.mul_one _
    rw [e1] at ht
    rw [ht]
    apply List.ext_getElem?
    intro j
    by_cases hj : j < xs.length
    · have h1 := hr2 j xs[j] (List.getElem?_eq_getElem hj)
      have h2 : ((inner.drop (j * 1)).take 1) = [Value.int .i64 xs[j]] := h1
      rw [Nat.mul_one] at h2
      have h3 : (inner.drop j)[0]? = some (Value.int .i64 xs[j]) := by
        have h4 : ((inner.drop j).take 1)[0]? = some (Value.int .i64 xs[j]) := by rw [h2]; rfl
        rwa [List.getElem?_take_of_lt (by omega)] at h4
      rw [List.getElem?_drop, Nat.add_zero] at h3
      rw [h3, List.getElem?_map, List.getElem?_eq_getElem hj]; rfl
    · have hil : inner.length = xs.length := by rw [hl]; exact Nat.mul_one _
      rw [List.getElem?_eq_none (by omega), List.getElem?_eq_none (by simp; omega)]

def ords : List S48 → Bool
  | x :: y :: r => Op.bytesLess x.f0.toList y.f0.toList && ords (y :: r)
  | _ => true
theorem ords_short (l : List S48) (h : l.length ≤ 1) : ords l = true := by
  match l, h with
  | [], _ => rfl
  | [_], _ => rfl
theorem ords_step (l : List S48) (k : Nat) (h : k + 1 < l.length) : ords (l.drop k) = (Op.bytesLess (rd_T48 l (k : Int)).f0.toList (rd_T48 l ((k + 1 : Nat) : Int)).f0.toList && ords (l.drop (k + 1))) := by
  rw [drop_cons_T48 l k (by omega), drop_cons_T48 l (k + 1) h]
  rfl
def szErr (n : Int) (root : Bool) : Option Int := if n > 4072 then some 3 else if root = false then (if n < 1777 then some 4 else none) else none
def checkRest (a0 : Int) (l : List S48) (root : Bool) : Option (Option Int) :=
  if ords l = true then (branch_children.f (l.length + 2) a0 l).bind fun cs =>
    if cs = [] ∨ 4611686018427387904 ≤ cs.length then none
    else if ((Lib.compact (sorted cs)).length : Int) = wrap64 ((l.length : Int) + 1) then (branch_Size.f (l.length + 2) a0 l).bind fun n => some (szErr n root)
    else some (some 5)
  else some (some 12)
def branch_Check.f (a0 : Int) (l : List S48) (root : Bool) : Option (Option Int) :=
  if l.length < 5864062014805 then
    (if l.length = 0 then some (some 4) else if mayB a0 = false then some (some 1) else if l.any (fun x => !goodB x) = true then some (some 1) else checkRest a0 l root)
  else none

/-- What the walk bears behind the checks of each link: the loop over the keys, and what follows. -/
def Cell0 (w : World) (g : Nat) (cs : Array Value) (t : Nat) : Prop := w.heap[g]? = some (.cells cs t (0, 0))
set_option maxHeartbeats 4000000 in
set_option maxRecDepth 100000 in
theorem check_short {B_ : Int → Addr} (a0 : Int) (A0 : Option Addr) (c0 : Nat) (l0 : List S48) (a1 : Bool) (w : World) (hE : Sen [1, 3, 4, 5, 12] B_ w) (hl : l0.length = 0) :
    Calls Tryd.prog 36 #[.agg #[.int .i64 a0, .slice A0 l0.length c0], .bool a1] w fun e w' => e = .returned (errW B_ (some 4)) ∧ Below w.heap.size w w' := by
  have hu := Tryd.underlying30
  have hu2 := Tryd.underlying24
  have hE4 := fun o => pw_cell_below (below_alloc (Below.refl w.heap.size w) o) (hE.cell 4 (by decide))
  have e4 : gE 4 = 3 := rfl
  rw [e4] at hE4
  rw [hl]
  clear hE hl e4
  go_enter Tryd.func36, Tryd.ntmps36
  go_wp2
  go_ret
  exact ⟨rfl, below_alloc (Below.refl _ _) _⟩
set_option maxHeartbeats 4000000 in
set_option maxRecDepth 100000 in
theorem check_first {B_ : Int → Addr} (a0 : Int) (A0 : Option Addr) (c0 : Nat) (l0 : List S48) (a1 : Bool) (w : World) (hE : Sen [1, 3, 4, 5, 12] B_ w) (hl : 0 < l0.length) (hm : mayB a0 = false) :
    Calls Tryd.prog 36 #[.agg #[.int .i64 a0, .slice A0 l0.length c0], .bool a1] w fun e w' => e = .returned (errW B_ (some 1)) ∧ Below w.heap.size w w' := by
  have hu := Tryd.underlying30
  have hu2 := Tryd.underlying24
  have hE1 := fun o o' => pw_cell_below (below_alloc (below_alloc (Below.refl w.heap.size w) o) o') (hE.cell 1 (by decide))
  have e1 : gE 1 = 0 := rfl
  rw [e1] at hE1
  have hl1 : ((l0.length : Int) == 0) = false := beq_eq_false_iff_ne.2 (by omega)
  have hl2 : decide ((l0.length : Int) = 0) = false := decide_eq_false (by omega)
  have HM := fun W => childMay_calls a0 W
  simp only [hm] at HM
  clear hE hl e1 hm
  go_enter Tryd.func36, Tryd.ntmps36
  go_wp2_with (go_at_call 69; refine (HM _).mono ?_; rintro e w' ⟨rfl, rfl⟩)
  go_ret
  exact ⟨rfl, below_alloc (below_alloc (Below.refl _ _) _) _⟩
set_option maxHeartbeats 4000000 in
set_option maxRecDepth 100000 in
theorem check_link {B_ : Int → Addr} (a0 : Int) (A0 : Option Addr) (c0 : Nat) (l0 : List S48) (a1 : Bool) (w : World) (hE : Sen [1, 3, 4, 5, 12] B_ w) (hr0 : Kd.C k48 w A0 l0.length l0) (hn : l0.length < 5864062014805) (hl : 0 < l0.length) (hm : mayB a0 = true) (hany : l0.any (fun x => !goodB x) = true) :
    Calls Tryd.prog 36 #[.agg #[.int .i64 a0, .slice A0 l0.length c0], .bool a1] w fun e w' => e = .returned (errW B_ (some 1)) ∧ Below w.heap.size w w' := by
  have hu := Tryd.underlying30
  have hu2 := Tryd.underlying24
  have e1 : gE 1 = 0 := rfl
  have HE := Aside0.mk hE
  have HR := Aside0.mk hr0
  have hl1 : ((l0.length : Int) == 0) = false := beq_eq_false_iff_ne.2 (by omega)
  have hl2 : decide ((l0.length : Int) = 0) = false := decide_eq_false (by omega)
  have HM := fun W => childMay_calls a0 W
  simp only [hm] at HM
  have HC := fun (W : World) (g : Nat) (hb : Below w.heap.size w W) (hg : g < W.heap.size) (hcell : W.cell? ⟨g, 0, none⟩ = some (.func (.func 68) #[] #[])) =>
    ContainsFunc_calls A0 c0 l0 71 #[.pointer (some ⟨g, 0, none⟩)] (fun x => !goodB x) (enters_of Tryd.func71 (by kernel_rfl) rfl) W (Kd.C_below hr0 hb) (bad_pred g W hg hcell) (by omega)
  simp only [hany] at HC
  have HC' := Aside0.mk HC
  clear hE hr0 HC hm hany hl hn
  go_enter Tryd.func36, Tryd.ntmps36
  go_wp2_with (first | ((with_reducible refine gate_dst (N := 2) rfl ?_); refine box_event ?hg (N := 2) ?hd (cs := #[.int .i64 a0, .slice A0 l0.length c0]) (t := 24) ?hr ?_; (case hd => rfl); (case hg => rfl); (case hr => first | (go_simp; done) | (go_simp; rfl)); intro gb hg w2 hbox hb; have HB2 := Aside0.mk (below_step (Below.refl _ _) hb); have BK := Aside0.mk hbox; have GB := Aside0.mk (show w.heap.size ≤ gb from by rw [hg]; exact Nat.le_refl _); clear hb hbox hg; have hcz0 : w2.cell? ⟨gb, 0, none⟩ = some (.int .i64 a0) := (blk_cell BK.out 0).trans rfl; have hcz1 : w2.cell? ⟨gb, 1, none⟩ = some (.slice A0 l0.length c0) := (blk_cell BK.out 1).trans rfl; have hca0 := fun o => (blk_cell (blk_alloc BK.out o) 0).trans (rfl : _ = some (Value.int .i64 a0)); have hca1 := fun o => (blk_cell (blk_alloc BK.out o) 1).trans (rfl : _ = some (Value.slice A0 l0.length c0))) | (go_at_call 69; refine (HM _).mono ?_; rintro e w' ⟨rfl, rfl⟩) | (go_at_call 70; refine (HC'.out _ _ ?hb ?hg ?hc).mono ?_; (case hb => exact below_alloc HB2.out _); (case hg => simp); (case hc => first | rfl | (rw [World.cell?_alloc_at _ _ _ _ rfl]; rfl) | (simp; done) | (go_simp; done)); rintro e W3 ⟨rfl, hd⟩; have HB := Aside0.mk (below_step (below_alloc HB2.out _) hd); have BK3 := Aside0.mk (blk_below (blk_alloc BK.out _) hd); clear hd; clear hca0 hca1 hcz0 hcz1; have hcz0 : W3.cell? ⟨gb, 0, none⟩ = some (.int .i64 a0) := (blk_cell BK3.out 0).trans rfl; have hcz1 : W3.cell? ⟨gb, 1, none⟩ = some (.slice A0 l0.length c0) := (blk_cell BK3.out 1).trans rfl; have hE1 := pw_cell_below HB.out (HE.out.cell 1 (by decide)); rw [e1] at hE1))
  go_ret
  exact ⟨rfl, HB.out⟩
set_option maxHeartbeats 8000000 in
set_option maxRecDepth 100000 in
theorem check_may {B_ : Int → Addr} (a0 : Int) (A0 : Option Addr) (c0 : Nat) (l0 : List S48) (a1 : Bool) (r : Option Int) (w : World) (hE : Sen [1, 3, 4, 5, 12] B_ w) (hr0 : Kd.C k48 w A0 l0.length l0) (hc0 : l0.length ≤ c0) (hn : l0.length < 5864062014805) (hl : 0 < l0.length) (hm : mayB a0 = true) (hany : l0.any (fun x => !goodB x) = false) (h : checkRest a0 l0 a1 = some r) :
    Calls Tryd.prog 36 #[.agg #[.int .i64 a0, .slice A0 l0.length c0], .bool a1] w fun e w' => e = .returned (errW B_ r) ∧ Below w.heap.size w w' := by
  have hu := Tryd.underlying30
  have hu2 := Tryd.underlying24
  have e1 : gE 1 = 0 := rfl
  have HE := Aside0.mk hE
  have HR := Aside0.mk hr0
  have hl1 : ((l0.length : Int) == 0) = false := beq_eq_false_iff_ne.2 (by omega)
  have hl2 : decide ((l0.length : Int) = 0) = false := decide_eq_false (by omega)
  have HM := fun W => childMay_calls a0 W
  simp only [hm] at HM
  have HC := fun (W : World) (g : Nat) (hb : Below w.heap.size w W) (hg : g < W.heap.size) (hcell : W.cell? ⟨g, 0, none⟩ = some (.func (.func 68) #[] #[])) =>
    ContainsFunc_calls A0 c0 l0 71 #[.pointer (some ⟨g, 0, none⟩)] (fun x => !goodB x) (enters_of Tryd.func71 (by kernel_rfl) rfl) W (Kd.C_below hr0 hb) (bad_pred g W hg hcell) (by omega)
  simp only [hany] at HC
  have HC' := Aside0.mk HC
  have HCc := Aside0.mk hc0
  have e3 : gE 3 = 2 := rfl
  have e4 : gE 4 = 3 := rfl
  have e5 : gE 5 = 4 := rfl
  have HN := Aside0.mk hn
  have H := Aside0.mk h
  have HL := Aside0.mk hl
  clear hE hr0 HC hm hany hl hn h hc0
  go_enter Tryd.func36, Tryd.ntmps36
  go_wp2_with (first | ((with_reducible refine gate_dst (N := 2) rfl ?_); refine box_event ?hg (N := 2) ?hd (cs := #[.int .i64 a0, .slice A0 l0.length c0]) (t := 24) ?hr ?_; (case hd => rfl); (case hg => rfl); (case hr => first | (go_simp; done) | (go_simp; rfl)); intro gb hg w2 hbox hb; have HB2 := Aside0.mk (below_step (Below.refl _ _) hb); have BK := Aside0.mk hbox; have GB := Aside0.mk (show w.heap.size ≤ gb from by rw [hg]; exact Nat.le_refl _); clear hb hbox hg; have hcz0 : w2.cell? ⟨gb, 0, none⟩ = some (.int .i64 a0) := (blk_cell BK.out 0).trans rfl; have hcz1 : w2.cell? ⟨gb, 1, none⟩ = some (.slice A0 l0.length c0) := (blk_cell BK.out 1).trans rfl; have hca0 := fun o => (blk_cell (blk_alloc BK.out o) 0).trans (rfl : _ = some (Value.int .i64 a0)); have hca1 := fun o => (blk_cell (blk_alloc BK.out o) 1).trans (rfl : _ = some (Value.slice A0 l0.length c0))) | (go_at_call 69; refine (HM _).mono ?_; rintro e w' ⟨rfl, rfl⟩) | (go_at_call 70; refine (HC'.out _ _ ?hb ?hg ?hc).mono ?_; (case hb => exact below_alloc HB2.out _); (case hg => simp); (case hc => first | rfl | (rw [World.cell?_alloc_at _ _ _ _ rfl]; rfl) | (simp; done) | (go_simp; done)); rintro e W3 ⟨rfl, hd⟩; have HB := Aside0.mk (below_step (below_alloc HB2.out _) hd); have BK3 := Aside0.mk (blk_below (blk_alloc BK.out _) hd); clear hd; clear hca0 hca1 hcz0 hcz1; have hcz0 : W3.cell? ⟨gb, 0, none⟩ = some (.int .i64 a0) := (blk_cell BK3.out 0).trans rfl; have hcz1 : W3.cell? ⟨gb, 1, none⟩ = some (.slice A0 l0.length c0) := (blk_cell BK3.out 1).trans rfl; have hE1 := pw_cell_below HB.out (HE.out.cell 1 (by decide)); rw [e1] at hE1))
  clear hE1
  go_loopg [6] l0.length (fun gg v6 wr => ∃ (i : Int), v6 = .int .i64 i ∧ Aside0 (∃ m : Nat, i = (m : Int) + 1 ∧ m < l0.length ∧ l0.length - m ≤ gg + 1 ∧ ords (l0.drop m) = ords l0) ∧ Aside0 (wr.heap[gb]? = some (.cells #[.int .i64 a0, .slice A0 l0.length c0] 24 (0, 0))) ∧ Aside0 (Below w.heap.size w wr))
  case atStart => exact ⟨1, rfl, ⟨0, rfl, HL.out, by omega, rfl⟩, BK3, HB⟩
  case round =>
    clear hcz0 hcz1 HB BK3 BK HB2
    obtain ⟨i, rfl, HI, BK, HB⟩ := hrel
    have hcz0 : wr.cell? ⟨gb, 0, none⟩ = some (.int .i64 a0) := (blk_cell BK.out 0).trans rfl
    have hcz1 : wr.cell? ⟨gb, 1, none⟩ = some (.slice A0 l0.length c0) := (blk_cell BK.out 1).trans rfl
    have hfz0 := blk_frozen BK.out 0
    have hfz1 := blk_frozen BK.out 1
    by_cases hlt : i < (l0.length : Int)
    · have hlt' : decide (i < (l0.length : Int)) = true := decide_eq_true hlt
      obtain ⟨ji, hji⟩ : ∃ j : Int, wrap64 (i - 1) = j := ⟨_, rfl⟩
      have hjiw : IntKind.i64.wrap (i - 1) = ji := (i64_w _).trans hji
      obtain ⟨ni, hni⟩ : ∃ j : Int, wrap64 (i + 1) = j := ⟨_, rfl⟩
      have hniw : IntKind.i64.wrap (i + 1) = ni := (i64_w _).trans hni
      have HJ := Aside0.mk (show ji = i - 1 from by obtain ⟨m, h1, h2, _⟩ := HI.out; have := HN.out; rw [← hji, wrap_id _ (by omega) (by omega)])
      have HNI := Aside0.mk (show ni = i + 1 from by obtain ⟨m, h1, h2, _⟩ := HI.out; have := HN.out; rw [← hni, wrap_id _ (by omega) (by omega)])
      clear hji hni
      have p1 : 0 ≤ i := by obtain ⟨m, h1, h2, _⟩ := HI.out; omega
      have p2 : 0 ≤ ji := by obtain ⟨m, h1, h2, _⟩ := HI.out; have := HJ.out; omega
      have q2 : ji < (l0.length : Int) := by have := HJ.out; omega
      have p1' : decide (0 ≤ i) = true := decide_eq_true p1
      have p2' : decide (0 ≤ ji) = true := decide_eq_true p2
      have q2' : decide (ji < (l0.length : Int)) = true := decide_eq_true q2
      obtain ⟨ad, rfl, hx0, hx1⟩ := at_T48 HR.out i p1 hlt
      replace hx0 := (HB.out.cell (World.block_lt_of_cell? w _ hx0)).trans hx0
      replace hx1 := (HB.out.cell (World.block_lt_of_cell? w _ hx1)).trans hx1
      obtain ⟨ad2, ead, hy0, hy1⟩ := at_T48 HR.out ji p2 q2
      obtain rfl : ad = ad2 := (by injection ead)
      replace hy0 := (HB.out.cell (World.block_lt_of_cell? w _ hy0)).trans hy0
      replace hy1 := (HB.out.cell (World.block_lt_of_cell? w _ hy1)).trans hy1
      have HO := Aside0.mk (show ∃ m : Nat, i = (m : Int) + 1 ∧ m + 1 < l0.length ∧ ords l0 = (Op.bytesLess (rd_T48 l0 ji).f0.toList (rd_T48 l0 i).f0.toList && ords (l0.drop (m + 1))) from by
        obtain ⟨m, h1, h2, _, h3⟩ := HI.out
        have hj := HJ.out
        obtain rfl : ji = (m : Int) := by omega
        obtain rfl : i = ((m + 1 : Nat) : Int) := by omega
        exact ⟨m, by omega, by omega, by rw [← h3]; exact ords_step l0 m (by omega)⟩)
      have HLT := Aside0.mk hlt
      replace p1 := eq_true p1
      replace p2 := eq_true p2
      replace hlt := eq_true hlt
      replace q2 := eq_true q2
      by_cases hbl : Op.bytesLess (rd_T48 l0 ji).f0.toList (rd_T48 l0 i).f0.toList = true
      · have hcmp : (Op.bytesLess (rd_T48 l0 i).f0.toList (rd_T48 l0 ji).f0.toList || (rd_T48 l0 i).f0.toList == (rd_T48 l0 ji).f0.toList) = false := by rw [bytesLess_total_, hbl]; rfl
        go_wp2
        repeat (go_quiet (fail); try go_wp2)
        go_roundg (l0.length - ni.toNat)
        case measure => obtain ⟨m, h1, h2, h4, _⟩ := HI.out; have := HNI.out; have := HLT.out; omega
        case rel => exact ⟨ni, rfl, ⟨by
          obtain ⟨m, h1, h2, h3⟩ := HO.out
          have := HNI.out
          rw [hbl, Bool.true_and] at h3
          exact ⟨m + 1, by omega, h2, by omega, h3.symm⟩⟩, ⟨by (with_reducible repeat (first | refine blk_drewN ?_ _ | refine blk_drew ?_ | refine blk_alloc ?_ _)); exact BK.out⟩, ⟨by repeat (first | (with_reducible first | exact HB.out | apply below_alloc | apply pw_below_drewN | apply below_drew1) | exact HB.out)⟩⟩
      · have hbf : Op.bytesLess (rd_T48 l0 ji).f0.toList (rd_T48 l0 i).f0.toList = false := by simpa using hbl
        have hcmp : (Op.bytesLess (rd_T48 l0 i).f0.toList (rd_T48 l0 ji).f0.toList || (rd_T48 l0 i).f0.toList == (rd_T48 l0 ji).f0.toList) = true := by rw [bytesLess_total_, hbf]; rfl
        clear hbl
        obtain rfl : some 12 = r := by
          obtain ⟨m, h1, h2, h3⟩ := HO.out
          have h := H.out
          rw [hbf, Bool.false_and] at h3
          unfold checkRest at h
          rw [if_neg (by rw [h3]; exact Bool.false_ne_true)] at h
          exact Option.some.inj h
        have hE12 := pw_cell_below HB.out (HE.out.cell 12 (by decide))
        rw [show gE 12 = 7 from rfl] at hE12
        go_wp2
        repeat (go_quiet (fail); try go_wp2)
        go_ret
        exact ⟨rfl, by repeat (first | (with_reducible first | exact HB.out | apply below_alloc | apply pw_below_drewN | apply below_drew1) | exact HB.out)⟩
    · have hlt' : decide (i < (l0.length : Int)) = false := decide_eq_false hlt
      have hor : ords l0 = true := by
        obtain ⟨m, h1, h2, _, h3⟩ := HI.out
        rw [← h3]; exact ords_short _ (by rw [List.length_drop]; omega)
      have h := H.out
      unfold checkRest at h
      rw [if_pos hor] at h
      obtain ⟨cs, hcs, h⟩ := Option.bind_eq_some_iff.1 h
      by_cases hcn : cs = [] ∨ 4611686018427387904 ≤ cs.length
      · rw [if_pos hcn] at h; cases h
      rw [if_neg hcn] at h
      have HCS := Aside0.mk hcs
      have HCN := Aside0.mk hcn
      obtain ⟨M, hM⟩ : ∃ M : Nat, (Lib.compact (sorted cs)).length = M := ⟨_, rfl⟩
      obtain ⟨s1, hs1⟩ : ∃ s : Int, wrap64 ((l0.length : Int) + 1) = s := ⟨_, rfl⟩
      have hs1w : IntKind.i64.wrap ((l0.length : Int) + 1) = s1 := (i64_w _).trans hs1
      rw [hM, hs1] at h
      have H2 := Aside0.mk h
      have HM2 := Aside0.mk hM
      clear h H hM hs1 hcs hcn hor hlt HI
      by_cases hms : (M : Int) = s1
      · have h := H2.out
        rw [if_pos hms] at h
        obtain ⟨n, hnn, h⟩ := Option.bind_eq_some_iff.1 h
        obtain rfl := Option.some.inj h
        have HNN := Aside0.mk hnn
        have hne : ((M : Int) != s1) = false := bne_eq_false_iff_eq.2 hms
        have hne2 : ((M : Int) == s1) = true := beq_iff_eq.2 hms
        clear h hnn hms H2
        go_wp2_with (first | (go_at_call 72; refine (branch_children.calls (l0.length + 2) a0 A0 c0 l0 cs _ (Kd.C_below HR.out HB.out) HCc.out HCS.out).mono ?_; rintro e W5 ⟨v, rfl, hv, hd⟩; obtain ⟨g, cap, cur, rfl, hg, hh, hcap, hcz, ht⟩ := R_ints hv (fun e => HCN.out (Or.inl e)); have HD5 := Aside0.mk hd; have BK5 := Aside0.mk (blk_below BK.out hd); have HG := Aside0.mk hg; have HROW := Aside0.mk hh; have HCAP := Aside0.mk hcap; have HCZ := Aside0.mk hcz; have HT := Aside0.mk ht; clear hv hd hg hh hcap hcz ht hcz0 hcz1 hfz0 hfz1; have hcz0 : W5.cell? ⟨gb, 0, none⟩ = some (.int .i64 a0) := (blk_cell BK5.out 0).trans rfl; have hcz1 : W5.cell? ⟨gb, 1, none⟩ = some (.slice A0 l0.length c0) := (blk_cell BK5.out 1).trans rfl) | (go_at_call 73; refine (Sort_calls g cap cs cs.length rfl cur 3 wr.heap.size wr _ HROW.out HCZ.out HT.out (by have := HCN.out; omega) HG.out HD5.out).mono ?_; rintro e W6 ⟨rfl, ⟨cur2, hh, hcz, ht⟩, hd⟩; have HD6 := Aside0.mk hd; have BK6 := Aside0.mk (blk_below BK.out hd); have HROW2 := Aside0.mk hh; have HT2 := Aside0.mk ht; clear hh hcz ht hd hcz0 hcz1; have hcz0 : W6.cell? ⟨gb, 0, none⟩ = some (.int .i64 a0) := (blk_cell BK6.out 0).trans rfl; have hcz1 : W6.cell? ⟨gb, 1, none⟩ = some (.slice A0 l0.length c0) := (blk_cell BK6.out 1).trans rfl))
        go_region_with (go_at_call 74; refine (Compact_calls g cap (sorted cs) cs.length (sorted_length cs).symm M HM2.out cur2 3 wr.heap.size wr _ (by exact HROW2.out) HT2.out (by rw [sorted_length]; have := HCN.out; omega) (by rw [sorted_length]; exact HCAP.out) HG.out (by repeat (first | (with_reducible first | exact HD6.out | apply pw_below_drewN | apply below_drew1) | exact HD6.out))).mono ?_; rintro e W7 ⟨rfl, hd⟩; have HD7 := Aside0.mk hd; have BK7 := Aside0.mk (blk_below BK.out hd); have hE5 := pw_cell_below (below_step HB.out hd) (HE.out.cell 5 (by decide)); rw [e5] at hE5; clear hd hcz0 hcz1; have hcz0 : W7.cell? ⟨gb, 0, none⟩ = some (.int .i64 a0) := (blk_cell BK7.out 0).trans rfl; have hcz1 : W7.cell? ⟨gb, 1, none⟩ = some (.slice A0 l0.length c0) := (blk_cell BK7.out 1).trans rfl)
        all_goals
          by_cases h1 : n > 4072
          · have h1' : decide (n > 4072) = true := decide_eq_true h1
            have h1a : decide (4072 < n) = true := decide_eq_true h1
            have HZ := Aside0.mk (show szErr n a1 = some 3 from by unfold szErr; rw [if_pos h1])
            clear h1
            go_wp2_with (go_at_call 35; refine (branch_Size.calls (l0.length + 2) a0 A0 c0 l0 n _ (Kd.C_below HR.out (by exact below_step HB.out (by repeat (first | (with_reducible first | exact HD7.out | apply pw_below_drewN | apply below_drew1) | exact HD7.out)))) HCc.out HNN.out).mono ?_; rintro e W8 ⟨rfl, hd⟩; have HD8 := Aside0.mk (below_step HD7.out hd); have BK8 := Aside0.mk (blk_below BK.out HD8.out); clear hd hcz0 hcz1; have hcz0 : W8.cell? ⟨gb, 0, none⟩ = some (.int .i64 a0) := (blk_cell BK8.out 0).trans rfl; have hcz1 : W8.cell? ⟨gb, 1, none⟩ = some (.slice A0 l0.length c0) := (blk_cell BK8.out 1).trans rfl; have hE3 := pw_cell_below (below_step HB.out HD8.out) (HE.out.cell 3 (by decide)); rw [e3] at hE3; have hE4 := pw_cell_below (below_step HB.out HD8.out) (HE.out.cell 4 (by decide)); rw [e4] at hE4)
            go_ret
            exact ⟨by rw [HZ.out]; rfl, below_step HB.out HD8.out⟩
          · have h1' : decide (n > 4072) = false := decide_eq_false h1
            have h1a : decide (4072 < n) = false := decide_eq_false h1
            cases a1 with
            | true =>
              have HZ := Aside0.mk (show szErr n true = none from by unfold szErr; rw [if_neg h1]; rfl)
              clear h1
              go_wp2_with (go_at_call 35; refine (branch_Size.calls (l0.length + 2) a0 A0 c0 l0 n _ (Kd.C_below HR.out (by exact below_step HB.out (by repeat (first | (with_reducible first | exact HD7.out | apply pw_below_drewN | apply below_drew1) | exact HD7.out)))) HCc.out HNN.out).mono ?_; rintro e W8 ⟨rfl, hd⟩; have HD8 := Aside0.mk (below_step HD7.out hd); have BK8 := Aside0.mk (blk_below BK.out HD8.out); clear hd hcz0 hcz1; have hcz0 : W8.cell? ⟨gb, 0, none⟩ = some (.int .i64 a0) := (blk_cell BK8.out 0).trans rfl; have hcz1 : W8.cell? ⟨gb, 1, none⟩ = some (.slice A0 l0.length c0) := (blk_cell BK8.out 1).trans rfl; have hE3 := pw_cell_below (below_step HB.out HD8.out) (HE.out.cell 3 (by decide)); rw [e3] at hE3; have hE4 := pw_cell_below (below_step HB.out HD8.out) (HE.out.cell 4 (by decide)); rw [e4] at hE4)
              go_ret
              exact ⟨by rw [HZ.out]; rfl, below_step HB.out HD8.out⟩
            | false =>
              by_cases h2 : n < 1777
              · have h2' : decide (n < 1777) = true := decide_eq_true h2
                have HZ := Aside0.mk (show szErr n false = some 4 from by unfold szErr; rw [if_neg h1, if_pos rfl, if_pos h2])
                clear h1 h2
                go_wp2_with (go_at_call 35; refine (branch_Size.calls (l0.length + 2) a0 A0 c0 l0 n _ (Kd.C_below HR.out (by exact below_step HB.out (by repeat (first | (with_reducible first | exact HD7.out | apply pw_below_drewN | apply below_drew1) | exact HD7.out)))) HCc.out HNN.out).mono ?_; rintro e W8 ⟨rfl, hd⟩; have HD8 := Aside0.mk (below_step HD7.out hd); have BK8 := Aside0.mk (blk_below BK.out HD8.out); clear hd hcz0 hcz1; have hcz0 : W8.cell? ⟨gb, 0, none⟩ = some (.int .i64 a0) := (blk_cell BK8.out 0).trans rfl; have hcz1 : W8.cell? ⟨gb, 1, none⟩ = some (.slice A0 l0.length c0) := (blk_cell BK8.out 1).trans rfl; have hE3 := pw_cell_below (below_step HB.out HD8.out) (HE.out.cell 3 (by decide)); rw [e3] at hE3; have hE4 := pw_cell_below (below_step HB.out HD8.out) (HE.out.cell 4 (by decide)); rw [e4] at hE4)
                go_wp2_with (go_at_call 35; refine (branch_Size.calls (l0.length + 2) a0 A0 c0 l0 n _ (Kd.C_below HR.out (by exact below_step HB.out (by repeat (first | (with_reducible first | exact HD8.out | apply pw_below_drewN | apply below_drew1) | exact HD8.out)))) HCc.out HNN.out).mono ?_; rintro e W9 ⟨rfl, hd⟩; have HD9 := Aside0.mk (below_step HD8.out hd); have BK9 := Aside0.mk (blk_below BK.out HD9.out); clear hd hcz0 hcz1; have hcz0 : W9.cell? ⟨gb, 0, none⟩ = some (.int .i64 a0) := (blk_cell BK9.out 0).trans rfl; have hcz1 : W9.cell? ⟨gb, 1, none⟩ = some (.slice A0 l0.length c0) := (blk_cell BK9.out 1).trans rfl; have hE3 := pw_cell_below (below_step HB.out HD9.out) (HE.out.cell 3 (by decide)); rw [e3] at hE3; have hE4 := pw_cell_below (below_step HB.out HD9.out) (HE.out.cell 4 (by decide)); rw [e4] at hE4)
                go_ret
                exact ⟨by rw [HZ.out]; rfl, below_step HB.out HD9.out⟩
              · have h2' : decide (n < 1777) = false := decide_eq_false h2
                have HZ := Aside0.mk (show szErr n false = none from by unfold szErr; rw [if_neg h1, if_pos rfl, if_neg h2])
                clear h1 h2
                go_wp2_with (go_at_call 35; refine (branch_Size.calls (l0.length + 2) a0 A0 c0 l0 n _ (Kd.C_below HR.out (by exact below_step HB.out (by repeat (first | (with_reducible first | exact HD7.out | apply pw_below_drewN | apply below_drew1) | exact HD7.out)))) HCc.out HNN.out).mono ?_; rintro e W8 ⟨rfl, hd⟩; have HD8 := Aside0.mk (below_step HD7.out hd); have BK8 := Aside0.mk (blk_below BK.out HD8.out); clear hd hcz0 hcz1; have hcz0 : W8.cell? ⟨gb, 0, none⟩ = some (.int .i64 a0) := (blk_cell BK8.out 0).trans rfl; have hcz1 : W8.cell? ⟨gb, 1, none⟩ = some (.slice A0 l0.length c0) := (blk_cell BK8.out 1).trans rfl; have hE3 := pw_cell_below (below_step HB.out HD8.out) (HE.out.cell 3 (by decide)); rw [e3] at hE3; have hE4 := pw_cell_below (below_step HB.out HD8.out) (HE.out.cell 4 (by decide)); rw [e4] at hE4)
                go_wp2_with (go_at_call 35; refine (branch_Size.calls (l0.length + 2) a0 A0 c0 l0 n _ (Kd.C_below HR.out (by exact below_step HB.out (by repeat (first | (with_reducible first | exact HD8.out | apply pw_below_drewN | apply below_drew1) | exact HD8.out)))) HCc.out HNN.out).mono ?_; rintro e W9 ⟨rfl, hd⟩; have HD9 := Aside0.mk (below_step HD8.out hd); have BK9 := Aside0.mk (blk_below BK.out HD9.out); clear hd hcz0 hcz1; have hcz0 : W9.cell? ⟨gb, 0, none⟩ = some (.int .i64 a0) := (blk_cell BK9.out 0).trans rfl; have hcz1 : W9.cell? ⟨gb, 1, none⟩ = some (.slice A0 l0.length c0) := (blk_cell BK9.out 1).trans rfl; have hE3 := pw_cell_below (below_step HB.out HD9.out) (HE.out.cell 3 (by decide)); rw [e3] at hE3; have hE4 := pw_cell_below (below_step HB.out HD9.out) (HE.out.cell 4 (by decide)); rw [e4] at hE4)
                go_ret
                exact ⟨by rw [HZ.out]; rfl, below_step HB.out HD9.out⟩
      · have h := H2.out
        rw [if_neg hms] at h
        obtain rfl := Option.some.inj h
        have hne : ((M : Int) != s1) = true := bne_iff_ne.2 hms
        have hne2 : ((M : Int) == s1) = false := beq_eq_false_iff_ne.2 hms
        clear h hms H2
        go_wp2_with (first | (go_at_call 72; refine (branch_children.calls (l0.length + 2) a0 A0 c0 l0 cs _ (Kd.C_below HR.out HB.out) HCc.out HCS.out).mono ?_; rintro e W5 ⟨v, rfl, hv, hd⟩; obtain ⟨g, cap, cur, rfl, hg, hh, hcap, hcz, ht⟩ := R_ints hv (fun e => HCN.out (Or.inl e)); have HD5 := Aside0.mk hd; have BK5 := Aside0.mk (blk_below BK.out hd); have HG := Aside0.mk hg; have HROW := Aside0.mk hh; have HCAP := Aside0.mk hcap; have HCZ := Aside0.mk hcz; have HT := Aside0.mk ht; clear hv hd hg hh hcap hcz ht hcz0 hcz1 hfz0 hfz1; have hcz0 : W5.cell? ⟨gb, 0, none⟩ = some (.int .i64 a0) := (blk_cell BK5.out 0).trans rfl; have hcz1 : W5.cell? ⟨gb, 1, none⟩ = some (.slice A0 l0.length c0) := (blk_cell BK5.out 1).trans rfl) | (go_at_call 73; refine (Sort_calls g cap cs cs.length rfl cur 3 wr.heap.size wr _ HROW.out HCZ.out HT.out (by have := HCN.out; omega) HG.out HD5.out).mono ?_; rintro e W6 ⟨rfl, ⟨cur2, hh, hcz, ht⟩, hd⟩; have HD6 := Aside0.mk hd; have BK6 := Aside0.mk (blk_below BK.out hd); have HROW2 := Aside0.mk hh; have HT2 := Aside0.mk ht; clear hh hcz ht hd hcz0 hcz1; have hcz0 : W6.cell? ⟨gb, 0, none⟩ = some (.int .i64 a0) := (blk_cell BK6.out 0).trans rfl; have hcz1 : W6.cell? ⟨gb, 1, none⟩ = some (.slice A0 l0.length c0) := (blk_cell BK6.out 1).trans rfl))
        go_region_with (go_at_call 74; refine (Compact_calls g cap (sorted cs) cs.length (sorted_length cs).symm M HM2.out cur2 3 wr.heap.size wr _ (by exact HROW2.out) HT2.out (by rw [sorted_length]; have := HCN.out; omega) (by rw [sorted_length]; exact HCAP.out) HG.out (by repeat (first | (with_reducible first | exact HD6.out | apply pw_below_drewN | apply below_drew1) | exact HD6.out))).mono ?_; rintro e W7 ⟨rfl, hd⟩; have HD7 := Aside0.mk hd; have BK7 := Aside0.mk (blk_below BK.out hd); have hE5 := pw_cell_below (below_step HB.out hd) (HE.out.cell 5 (by decide)); rw [e5] at hE5; clear hd hcz0 hcz1; have hcz0 : W7.cell? ⟨gb, 0, none⟩ = some (.int .i64 a0) := (blk_cell BK7.out 0).trans rfl; have hcz1 : W7.cell? ⟨gb, 1, none⟩ = some (.slice A0 l0.length c0) := (blk_cell BK7.out 1).trans rfl)
        all_goals
          go_wp2
          go_ret
          exact ⟨rfl, below_step HB.out HD7.out⟩
theorem branch_Check.calls {B_ : Int → Addr} (a0_0 : Int) (A0_1 : Option Addr) (c0_1 : Nat) (l0_1 : List S48) (a1 : Bool) (r : Option Int) (w : World) (hE : Sen [1, 3, 4, 5, 12] B_ w) (hr0_1 : Kd.C k48 w A0_1 l0_1.length l0_1) (hc0_1 : l0_1.length ≤ c0_1) (h : branch_Check.f a0_0 l0_1 a1 = some r) :
    Calls Tryd.prog 36 #[.agg #[.int .i64 a0_0, .slice A0_1 l0_1.length c0_1], .bool a1] w fun e w' => e = .returned (errW B_ r) ∧ Below w.heap.size w w' := by
  unfold branch_Check.f at h
  by_cases hn : l0_1.length < 5864062014805
  case neg => rw [if_neg hn] at h; cases h
  rw [if_pos hn] at h
  by_cases hl : l0_1.length = 0
  · rw [if_pos hl] at h
    obtain rfl := Option.some.inj h
    exact check_short a0_0 A0_1 c0_1 l0_1 a1 w hE hl
  rw [if_neg hl] at h
  by_cases hm : mayB a0_0 = false
  · rw [if_pos hm] at h
    obtain rfl := Option.some.inj h
    exact check_first a0_0 A0_1 c0_1 l0_1 a1 w hE (by omega) hm
  rw [if_neg hm] at h
  by_cases ha : l0_1.any (fun x => !goodB x) = true
  · rw [if_pos ha] at h
    obtain rfl := Option.some.inj h
    exact check_link a0_0 A0_1 c0_1 l0_1 a1 w hE hr0_1 hn (by omega) (by simpa using hm) ha
  · rw [if_neg ha] at h
    exact check_may a0_0 A0_1 c0_1 l0_1 a1 r w hE hr0_1 hc0_1 hn (by omega) (by simpa using hm) (Bool.eq_false_iff.2 ha) h
end Go.Proofs.YtocggojbafediaaDoor.Ref
