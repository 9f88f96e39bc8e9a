/- The start of every row: the heap that the program's own start leaves meets the list of the sentinels; a branch of an argument, opened. -/
import Derived.Test.YtocggojbafediaaDoorExtNum
import Derived.Test.YtocggojbafediaaDoorLaid
import Derived.Test.YtocggojbafediaaDoorCards
import Derived.Test.YtocggojbafediaaDoorTie
import Derived.WalkKit
import Derived.ProofKit
import Derived.OpenShut
import Derived.Lib.SmallJoins
import Derived.LaidMore
import Derived.Stop.Joined
import Derived.Carry
import Derived.SizedLaws
import Derived.ChangeSlices
import Derived.Deep.Slices
import Derived.Deep.Fields
import Derived.Deep.DeepHandedRow
namespace Go.Proofs.YtocggojbafediaaDoor.Door
set_option linter.unusedVariables false
set_option linter.unusedSimpArgs false
open Go.ChangeShapes Go.WideShapes Go.ChangeAt Go.RowKit Go.Deep Go.Proofs.YtocggojbafediaaDoor.K Go.Proofs.YtocggojbafediaaDoor.E Go.Proofs.YtocggojbafediaaDoor.Ref Go.Proofs.YtocggojbafediaaDoorW.PrintWords

theorem own : ownKnob Tryd.prog.godebug = none := by kernel_rfl
theorem laidOut : laidOutB Tryd.prog = true := by kernel_rfl
theorem metAll (os : Os) (args : Array Value) : laidMetH Tryd.prog Rows.branchCutsRow.laid ((World.doorLaid Tryd.prog 270 os).forCall (fun _ _ => 0) ⟨#[], args, []⟩).memory :=
  laidMetH_of_parts3 (fuel := 8) (laidMet_of_run' 8 (by kernel_rfl) (by kernel_rfl)) (by kernel_rfl) (by kernel_rfl)
theorem shaped (os : Os) (args : Array Value) : ((World.doorLaid Tryd.prog 270 os).forCall (fun _ _ => 0) ⟨#[], args, []⟩).Shaped Tryd.prog := World.shaped_of_RefB (by kernel_rfl) (by kernel_rfl)
/-- The sentinels, as the printed functions ask for them. -/
theorem sen_of {W : World} (h : laidMet Tryd.prog Rows.branchCutsRow.laid W) : ∃ B, Sen [1, 2, 3, 4, 5, 6, 7, 8, 9, 10, 11, 12, 13] B W := by
  obtain ⟨A, hA⟩ := all_of_laid h
  refine ⟨fun c => A (gE c), ?_, ?_, ?_⟩
  · intro c hc
    exact hA.cell (gE c) (gE_in c hc).1
  · intro c hc
    exact hA.row (gE c) (gE_in c hc).1
  · intro c d hc hd e
    exact gE_inj c hc d hd (hA.apart _ _ (gE_in c hc).1 (gE_in d hd).1 e)

section
variable {H : Type} {enc : TypeId × Value → H} {P : Program} {w : World} {base : Nat} {spare : Nat → Bool} {held : Bool}
theorem open_slice_fields {t e : TypeId} {fs : Array Field} {fuel : Nat} {cs : List Value} {x : DataW H × List MemPlace} (ht : P.underlying t = some (.slice e)) (he : P.underlying e = some (.struct fs))
    (hone : oneCellFields P fs = true) (hC : P.cellsOf e = fs.size) (h : DataW.trod enc P w base spare held fuel t cs = some x) :
    (cs = [.slice none 0 0] ∧ x = (.nil, [])) ∨
    ∃ (a : Addr) (len cap m : Nat) (D : Nat → DataW H) (Pl : Nat → List MemPlace), cs = [.slice (some a) len cap] ∧ base ≤ a.block ∧ len ≤ cap ∧ cap ≤ maxLen ∧ m = (if spare a.block then cap else len) ∧
      x = (.slice ((List.range len).map D) ((List.range (m - len)).map fun j => D (len + j)), MemPlace.row a (m * fs.size) ++ (List.range m).flatMap Pl) ∧
      ∀ i, i < m → ∃ (ys : List (DataW H × List MemPlace)) (n : Nat), D i = .agg (ys.map (·.1)) ∧ Pl i = ys.flatMap (·.2) ∧ ys.length = fs.size ∧
        ∀ (j : Nat) (f : Field), fs[j]? = some f → ∃ (v : Value) (y : DataW H × List MemPlace), w.cell? (a.add (i * fs.size + j)) = some v ∧ ys[j]? = some y ∧ DataW.trod enc P w base spare held n f.type [v] = some y := by
  rcases open_slice ht h with h0 | ⟨a, len, cap, m, n, D, Pl, hcs, hb, hl, hm, hmm, hx, hi⟩
  · exact .inl h0
  · refine .inr ⟨a, len, cap, m, D, Pl, hcs, hb, hl, hm, hmm, by rw [hC] at hx; exact hx, fun i him => ?_⟩
    obtain ⟨cs', hc, ht'⟩ := hi i him
    rw [hC] at hc
    obtain ⟨ys, n', hn', hy, hlen, hyl, hf⟩ := DataW.trod_struct he ht'
    obtain ⟨_, hcl, hat⟩ := World.cells?_some hc
    simp only [Prod.mk.injEq] at hy
    refine ⟨ys, n', hy.1, hy.2, hyl, fun j f hj => ?_⟩
    obtain ⟨ho, hk⟩ := hone_of hone j f hj
    have hjl : j < fs.size := (Array.getElem?_eq_some_iff.1 hj).1
    have hcell := hat j hjl
    have hv : cs'[j]? = some (cs'[j]'(by omega)) := List.getElem?_eq_getElem (by omega)
    have h1 := hf j f hj
    rw [ho, hk] at h1
    have hone' : (cs'.drop j).take 1 = [cs'[j]'(by omega)] := by
      rw [List.drop_eq_getElem_cons (by omega)]
      rfl
    rw [hone'] at h1
    have hys : ys[j]? = some (ys[j]'(by omega)) := List.getElem?_eq_getElem (by omega)
    refine ⟨_, _, ?_, hys, h1.trans hys⟩
    rw [← Go.Deep.add_add, hcell, hv]
end

theorem list_of {α : Type} (z : α) (n : Nat) (P : Nat → α → Prop) (h : ∀ i, i < n → ∃ x, P i x) : ∃ l : List α, l.length = n ∧ ∀ i (hi : i < l.length), P i l[i] := by
  induction n with
  | zero => exact ⟨[], rfl, fun i hi => absurd hi (by simp)⟩
  | succ n ih =>
    obtain ⟨l, hl, hp⟩ := ih (fun i hi => h i (by omega))
    obtain ⟨x, hx⟩ := h n (by omega)
    refine ⟨l ++ [x], by simp [hl], fun i hi => ?_⟩
    rcases Nat.lt_or_ge i l.length with h1 | h1
    · rw [List.getElem_append_left h1]; exact hp i h1
    · have : i = n := by simp at hi; omega
      subst this
      rw [List.getElem_append_right h1]
      simpa [hl] using hx

theorem cellsLink : Tryd.prog.cellsOf 48 = 2 := by kernel_rfl
/-- Links that came in: they are read; what they hold is weighed in the datum. -/
theorem open_links {H : Type} {enc : TypeId × Value → H} {W : World} {n : Nat} {cs : List Value} {y : DataW H × List MemPlace} (h : DataW.trod enc Tryd.prog W 0 (fun _ => true) true n 22 cs = some y) :
    ∃ (A : Option Addr) (c : Nat) (l : List S48), cs = [.slice A l.length c] ∧ l.length ≤ c ∧ Kd.C k48 W A l.length l ∧ (∀ x ∈ l, x.f0.size ≤ 9223372036854775807) ∧
      (y.1 = .nil ∧ l = [] ∨ ∃ ds sp, y.1 = .slice ds sp ∧ ds.length = l.length ∧ sp.length = c - l.length ∧ ∀ i (hi : i < l.length), ∃ d2, ds[i]? = some (.agg [.lit (.string l[i].f0.data.toList), d2])) := by
  rcases open_slice_fields Tryd.underlying22 Tryd.underlying48 (by kernel_rfl) cellsLink h with ⟨rfl, rfl⟩ | ⟨a, len, cap, m, D, Pl, rfl, -, hlc, hcm, hm, rfl, hi⟩
  · exact ⟨none, 0, [], rfl, Nat.le_refl _, ⟨rfl, by simp, fun h => absurd h (by simp)⟩, by simp, .inl ⟨rfl, rfl⟩⟩
  · simp only [if_true] at hm
    subst hm
    have hex : ∀ i, i < len → ∃ x : S48, (W.cell? (a.add (i * 2)) = some (.string x.f0) ∧ W.cell? (a.add (i * 2 + 1)) = some (.int .i64 x.f1) ∧ x.f0.size ≤ 9223372036854775807) ∧ ∃ d2, D i = .agg [.lit (.string x.f0.data.toList), d2] := by
      intro i hil
      obtain ⟨ys, n', hD, -, hyl, hf⟩ := hi i (by omega)
      obtain ⟨v0, y0, hc0, he0, ht0⟩ := hf 0 _ rfl
      obtain ⟨v1, y1, hc1, he1, ht1⟩ := hf 1 _ rfl
      obtain ⟨s, q0, hy0, ws⟩ := DataW.trod_string Tryd.underlying9 ht0
      obtain ⟨k, q1, hy1, -⟩ := DataW.trod_int Tryd.underlying3 ht1
      obtain rfl : v0 = .string s := by simpa using q0
      obtain rfl : v1 = .int .i64 k := by simpa using q1
      refine ⟨⟨s, k⟩, ⟨hc0, hc1, ws⟩, y1.1, ?_⟩
      have hl2 : ys.length = 2 := hyl
      match ys, hl2 with
      | [z0, z1], _ =>
        obtain rfl : z0 = y0 := Option.some.inj he0
        obtain rfl : z1 = y1 := Option.some.inj he1
        rw [hD, hy0]; rfl
    obtain ⟨l, hl, hp⟩ := list_of z48 len _ hex
    subst hl
    refine ⟨some a, m, l, rfl, hlc, ⟨rfl, by unfold maxLen at hcm; omega, fun _ => ⟨a, rfl, fun j p hj => ?_⟩⟩, ?_, .inr ⟨_, _, rfl, by simp, by simp, fun i hil => ?_⟩⟩
    · obtain ⟨hjl, rfl⟩ := List.getElem?_eq_some_iff.1 hj
      obtain ⟨⟨h0, h1, -⟩, -⟩ := hp j hjl
      refine ⟨[.string l[j].f0, .int .i64 l[j].f1], rfl, k48_mk _ _, fun i u hu => ?_⟩
      match i, hu with
      | 0, hu => obtain rfl := Option.some.inj hu; exact h0
      | 1, hu => obtain rfl := Option.some.inj hu; exact h1
    · intro x hx
      obtain ⟨i, hil, rfl⟩ := List.getElem_of_mem hx
      exact (hp i hil).1.2.2
    · obtain ⟨-, d2, hd⟩ := hp i hil
      exact ⟨d2, by rw [List.getElem?_map, List.getElem?_range hil, Option.map_some, hd]⟩

/-- A field by its number and place. -/
theorem field_off {H : Type} {P : Program} {enc : TypeId × Value → H} {W : World} {base : Nat} {sp : Nat → Bool} {held : Bool} {n : Nat} {t : TypeId} {fs : Array Field} {cs : List Value} {x : DataW H × List MemPlace} (hs : P.underlying t = some (.struct fs))
    (h : DataW.trod enc P W base sp held n t cs = some x) (i : Nat) (ti : TypeId) (o k : Nat) (hf : fs[i]?.map (fun f => (f.type, f.offset)) = some (ti, o)) (hc : P.cellsOf ti = k) :
    ∃ (m : Nat) (y : DataW H × List MemPlace), DataW.trod enc P W base sp held m ti ((cs.drop o).take k) = some y ∧ ∃ ds, x.1 = .agg ds ∧ ds[i]? = some y.1 := by
  obtain ⟨xs, n', -, he, -, hlen, hg⟩ := DataW.trod_struct hs h
  obtain ⟨f, hfi, hfe⟩ := Option.map_eq_some_iff.1 hf
  have h1 : f.type = ti := congrArg Prod.fst hfe
  have h2 : f.offset = o := congrArg Prod.snd hfe
  have hi : i < xs.length := by rw [hlen]; exact (Array.getElem?_eq_some_iff.1 hfi).1
  have hg' := hg i f hfi
  rw [h1, h2, hc, List.getElem?_eq_getElem hi] at hg'
  exact ⟨n', xs[i], hg', xs.map (·.1), by rw [he], by rw [List.getElem?_map, List.getElem?_eq_getElem hi]; rfl⟩
theorem size_of {H : Type} {P : Program} {enc : TypeId × Value → H} {W : World} {base : Nat} {sp : Nat → Bool} {held : Bool} {n : Nat} {t : TypeId} {fs : Array Field} {cs : List Value} {x : DataW H × List MemPlace} (hs : P.underlying t = some (.struct fs)) (h : DataW.trod enc P W base sp held n t cs = some x) : cs.length = P.cellsOf t := by
  obtain ⟨xs, n', -, -, hl, -, -⟩ := DataW.trod_struct hs h
  exact hl
theorem cellsInt : Tryd.prog.cellsOf 3 = 1 := by kernel_rfl
theorem cellsString : Tryd.prog.cellsOf 9 = 1 := by kernel_rfl
theorem cellsLinks : Tryd.prog.cellsOf 22 = 1 := by kernel_rfl
theorem cellsBranch : Tryd.prog.cellsOf 24 = 2 := by kernel_rfl
/-- What a branch's datum holds. -/
def DB {H : Type} (d : DataW H) (l : List S48) (c : Nat) : Prop := ∃ d0 d1, d = .agg [d0, d1] ∧ (d1 = .nil ∧ l = [] ∨ ∃ ds sp, d1 = .slice ds sp ∧ ds.length = l.length ∧ sp.length = c - l.length ∧ ∀ i (hi : i < l.length), ∃ d2, ds[i]? = some (.agg [.lit (.string l[i].f0.data.toList), d2]))
set_option maxRecDepth 100000 in
/-- A branch that came in. -/
theorem open_branch {H : Type} {enc : TypeId × Value → H} {W : World} {n : Nat} {v0 v1 : Value} {y : DataW H × List MemPlace} (h : DataW.trod enc Tryd.prog W 0 (fun _ => true) true n 24 [v0, v1] = some y) :
    ∃ (a : Int) (A : Option Addr) (c : Nat) (l : List S48), v0 = .int .i64 a ∧ v1 = .slice A l.length c ∧ l.length ≤ c ∧ Kd.C k48 W A l.length l ∧ (∀ x ∈ l, x.f0.size ≤ 9223372036854775807) ∧ DB y.1 l c := by
  obtain ⟨xs, n', -, he, -, hlen, hg⟩ := DataW.trod_struct Tryd.underlying24 h
  obtain ⟨_, y0, f0, ds, e1, e2⟩ := field_off Tryd.underlying24 h 0 3 0 1 rfl cellsInt
  obtain ⟨_, y1, f1, ds', e1', e2'⟩ := field_off Tryd.underlying24 h 1 22 1 1 rfl cellsLinks
  obtain ⟨a, q0, -, -⟩ := DataW.trod_int Tryd.underlying3 f0
  obtain ⟨A, c, l, q1, hlc, hC, hks, hd⟩ := open_links f1
  obtain rfl : v0 = .int .i64 a := by simpa using q0
  obtain rfl : v1 = .slice A l.length c := by simpa using q1
  refine ⟨a, A, c, l, rfl, rfl, hlc, hC, hks, ?_⟩
  have hl2 : xs.length = 2 := hlen
  rw [he] at e1 e1'
  match xs, hl2 with
  | [z0, z1], _ =>
    rw [he]
    refine ⟨z0.1, z1.1, rfl, ?_⟩
    obtain rfl : [z0.1, z1.1] = ds' := by injection e1'
    obtain h1 : z1.1 = y1.1 := by simpa using e2'
    rw [h1]; exact hd
end Go.Proofs.YtocggojbafediaaDoor.Door
