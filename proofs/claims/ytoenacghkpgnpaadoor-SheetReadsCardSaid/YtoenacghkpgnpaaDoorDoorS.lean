/- The start of the sheets' rows: a sheet that came in, opened; the table of a page's head. -/
import Derived.Test.YtoenacghkpgnpaaDoorDoor
import Derived.Test.YtoenacghkpgnpaaDoorSeal
namespace Go.Proofs.YtoenacghkpgnpaaDoor.Door
open Go.ChangeShapes Go.WideShapes Go.ChangeAt Go.RowKit Go.Proofs.YtoenacghkpgnpaaDoor.K Go.Proofs.YtoenacghkpgnpaaDoor.E Go.Proofs.YtoenacghkpgnpaaDoor.P1

theorem cells5 : Tryd.prog.cellsOf 37 = 5 := by kernel_rfl
theorem cellsInt : Tryd.prog.cellsOf 3 = 1 := by kernel_rfl
theorem cellsU64 : Tryd.prog.cellsOf 22 = 1 := by kernel_rfl
theorem cellsString : Tryd.prog.cellsOf 9 = 1 := by kernel_rfl
/-- A field of one cell, by its number. -/
theorem field_at {H : Type} {P : Program} {enc : TypeId × Value → H} {W : World} {base : Nat} {sp : Nat → Bool} {held : Bool} {n : Nat} {t : TypeId} {fs : Array Field} {cs : List Value} {x : DataW H × List MemPlace} (hs : P.underlying t = some (.struct fs))
    (h : DataW.trod enc P W base sp held n t cs = some x) (i : Nat) (ti : TypeId) (v : Value) (hf : fs[i]?.map (fun f => (f.type, f.offset)) = some (ti, i)) (hc : P.cellsOf ti = 1) (hv : cs[i]? = some v) :
    ∃ (m : Nat) (y : DataW H × List MemPlace), DataW.trod enc P W base sp held m ti [v] = some y ∧ ∃ ds, x.1 = .agg ds ∧ ds[i]? = some y.1 := by
  obtain ⟨xs, n', -, he, -, hlen, hg⟩ := DataW.trod_struct hs h
  obtain ⟨f, hfi, hfe⟩ := Option.map_eq_some_iff.1 hf
  have h1 : f.type = ti := congrArg Prod.fst hfe
  have h2 : f.offset = i := congrArg Prod.snd hfe
  have hi : i < xs.length := by rw [hlen]; exact (Array.getElem?_eq_some_iff.1 hfi).1
  have hg' := hg i f hfi
  rw [h1, h2, hc, List.getElem?_eq_getElem hi] at hg'
  have hd : (cs.drop i).take 1 = [v] := by
    obtain ⟨hl, hv'⟩ := List.getElem?_eq_some_iff.1 hv
    rw [List.drop_eq_getElem_cons hl, hv']; rfl
  rw [hd] at hg'
  exact ⟨n', xs[i], hg', xs.map (·.1), by rw [he], by rw [List.getElem?_map, List.getElem?_eq_getElem hi]; rfl⟩
/-- A field by its number and place. -/
theorem field_off {H : Type} {P : Program} {enc : TypeId × Value → H} {W : World} {base : Nat} {sp : Nat → Bool} {held : Bool} {n : Nat} {t : TypeId} {fs : Array Field} {cs : List Value} {x : DataW H × List MemPlace} (hs : P.underlying t = some (.struct fs))
    (h : DataW.trod enc P W base sp held n t cs = some x) (i : Nat) (ti : TypeId) (o k : Nat) (hf : fs[i]?.map (fun f => (f.type, f.offset)) = some (ti, o)) (hc : P.cellsOf ti = k) :
    ∃ (m : Nat) (y : DataW H × List MemPlace), DataW.trod enc P W base sp held m ti ((cs.drop o).take k) = some y ∧ ∃ ds, x.1 = .agg ds ∧ ds[i]? = some y.1 := by
  obtain ⟨xs, n', -, he, -, hlen, hg⟩ := DataW.trod_struct hs h
  obtain ⟨f, hfi, hfe⟩ := Option.map_eq_some_iff.1 hf
  have h1 : f.type = ti := congrArg Prod.fst hfe
  have h2 : f.offset = o := congrArg Prod.snd hfe
  have hi : i < xs.length := by rw [hlen]; exact (Array.getElem?_eq_some_iff.1 hfi).1
  have hg' := hg i f hfi
  rw [h1, h2, hc, List.getElem?_eq_getElem hi] at hg'
  exact ⟨n', xs[i], hg', xs.map (·.1), by rw [he], by rw [List.getElem?_map, List.getElem?_eq_getElem hi]; rfl⟩
theorem size_of {H : Type} {P : Program} {enc : TypeId × Value → H} {W : World} {base : Nat} {sp : Nat → Bool} {held : Bool} {n : Nat} {t : TypeId} {fs : Array Field} {cs : List Value} {x : DataW H × List MemPlace} (hs : P.underlying t = some (.struct fs)) (h : DataW.trod enc P W base sp held n t cs = some x) : cs.length = P.cellsOf t := by
  obtain ⟨xs, n', -, -, hl, -, -⟩ := DataW.trod_struct hs h
  exact hl
set_option maxRecDepth 100000 in
/-- Five cells that read as a sheet. -/
theorem cells_sheet {H : Type} {enc : TypeId × Value → H} {W : World} {n : Nat} {cs : List Value} {y : DataW H × List MemPlace} (h : DataW.trod enc Tryd.prog W 0 (fun _ => true) true n 37 cs = some y) :
    ∃ (kd id tx ct : Int) (bd : ByteArray), cs = [.int .i64 kd, .int .i64 id, .int .u64 tx, .int .i64 ct, .string bd] ∧ 0 ≤ tx ∧ tx < 18446744073709551616 ∧ bd.size ≤ 9223372036854775807 := by
  have hl : cs.length = 5 := (size_of Tryd.underlying37 h).trans cells5
  match cs, hl with
  | [v0, v1, v2, v3, v4], _ =>
    obtain ⟨_, _, f0, -⟩ := field_at Tryd.underlying37 h 0 3 v0 rfl cellsInt rfl
    obtain ⟨_, _, f1, -⟩ := field_at Tryd.underlying37 h 1 3 v1 rfl cellsInt rfl
    obtain ⟨_, _, f2, -⟩ := field_at Tryd.underlying37 h 2 22 v2 rfl cellsU64 rfl
    obtain ⟨_, _, f3, -⟩ := field_at Tryd.underlying37 h 3 3 v3 rfl cellsInt rfl
    obtain ⟨_, _, f4, -⟩ := field_at Tryd.underlying37 h 4 9 v4 rfl cellsString rfl
    obtain ⟨kd, q0, -, -⟩ := DataW.trod_int Tryd.underlying3 f0
    obtain ⟨id, q1, -, -⟩ := DataW.trod_int Tryd.underlying3 f1
    obtain ⟨tx, q2, -, wf⟩ := DataW.trod_int Tryd.underlying22 f2
    obtain ⟨ct, q3, -, -⟩ := DataW.trod_int Tryd.underlying3 f3
    obtain ⟨bd, q4, -, ws⟩ := DataW.trod_string Tryd.underlying9 f4
    obtain rfl : v0 = .int .i64 kd := by simpa using q0
    obtain rfl : v1 = .int .i64 id := by simpa using q1
    obtain rfl : v2 = .int .u64 tx := by simpa using q2
    obtain rfl : v3 = .int .i64 ct := by simpa using q3
    obtain rfl : v4 = .string bd := by simpa using q4
    have ht := bounds_u64 wf
    exact ⟨kd, id, tx, ct, bd, rfl, ht.1, by omega, by unfold maxLen at ws; omega⟩
set_option maxRecDepth 100000 in
/-- A sheet that came in. -/
theorem open_sheet {H : Type} {enc : TypeId × Value → H} {W : World} {base : Nat} {v0 : Value} {d0 : DataW H} {p0 : List MemPlace} (ok0 : Value.okWide Tryd.prog W .any base 37 v0) (h0 : DataW.Trod enc Tryd.prog W 0 (fun _ => true) true 37 v0 d0 p0) :
    ∃ (kd id tx ct : Int) (bd : ByteArray), v0 = .agg #[.int .i64 kd, .int .i64 id, .int .u64 tx, .int .i64 ct, .string bd] ∧ 0 ≤ tx ∧ tx < 18446744073709551616 ∧ bd.size ≤ 9223372036854775807 := by
  obtain ⟨⟨cs⟩, rfl, -⟩ := okWide_struct Tryd.underlying37 ok0
  obtain ⟨fuel, hf⟩ := h0
  obtain ⟨kd, id, tx, ct, bd, rfl, h⟩ := cells_sheet hf
  exact ⟨kd, id, tx, ct, bd, rfl, h⟩

theorem cellsU32' : Tryd.prog.cellsOf 57 = 1 := by kernel_rfl
theorem cellsMarred : Tryd.prog.cellsOf 59 = 8 := by kernel_rfl
set_option maxRecDepth 100000 in
/-- A sheet, a number, a place and bits that came in. -/
theorem open_marred {H : Type} {enc : TypeId × Value → H} {W : World} {base : Nat} {v0 : Value} {d0 : DataW H} {p0 : List MemPlace} (ok0 : Value.okWide Tryd.prog W .any base 59 v0) (h0 : DataW.Trod enc Tryd.prog W 0 (fun _ => true) true 59 v0 d0 p0) :
    ∃ (kd id tx ct j at_ tn : Int) (bd : ByteArray), v0 = .agg #[.int .i64 kd, .int .i64 id, .int .u64 tx, .int .i64 ct, .string bd, .int .i64 j, .int .i64 at_, .int .u32 tn] ∧ 0 ≤ tx ∧ tx < 18446744073709551616 ∧ 0 ≤ tn ∧ tn < 4294967296 := by
  obtain ⟨⟨cs⟩, rfl, -⟩ := okWide_struct Tryd.underlying59 ok0
  obtain ⟨fuel, hf⟩ := h0
  have hl : cs.length = 8 := (size_of Tryd.underlying59 hf).trans cellsMarred
  match cs, hl with
  | [v0, v1, v2, v3, v4, v5, v6, v7], _ =>
    obtain ⟨_, _, f0, -⟩ := field_off Tryd.underlying59 hf 0 37 0 5 rfl cells5
    obtain ⟨_, _, f1, -⟩ := field_off Tryd.underlying59 hf 1 3 5 1 rfl cellsInt
    obtain ⟨_, _, f2, -⟩ := field_off Tryd.underlying59 hf 2 3 6 1 rfl cellsInt
    obtain ⟨_, _, f3, -⟩ := field_off Tryd.underlying59 hf 3 57 7 1 rfl cellsU32'
    simp only [Value.cells, List.drop_zero, List.take_succ_cons, List.take_zero, List.drop_succ_cons] at f0 f1 f2 f3
    obtain ⟨kd, id, tx, ct, bd, e, ht0, ht1, -⟩ := cells_sheet f0
    obtain ⟨j, q1, -, -⟩ := DataW.trod_int Tryd.underlying3 f1
    obtain ⟨a, q2, -, -⟩ := DataW.trod_int Tryd.underlying3 f2
    obtain ⟨tn, q3, -, wf⟩ := DataW.trod_int Tryd.underlying57 f3
    simp only [List.cons.injEq, and_true] at e q1 q2 q3
    obtain ⟨rfl, rfl, rfl, rfl, rfl⟩ := e
    subst q1 q2 q3
    have hb := bounds_u32 wf
    exact ⟨kd, id, tx, ct, j, a, tn, bd, rfl, ht0, ht1, hb.1, by omega⟩
theorem gHead : Tryd.prog.globalNamed "copse/sheet.head" = some 7 := by kernel_rfl
theorem tHead : (Tryd.prog.globals[7]?).map (·.type) = some 112 := by kernel_rfl
theorem cells2 : Tryd.prog.cellsOf 111 = 2 := by kernel_rfl
theorem cells8 : Tryd.prog.cellsOf 112 = 8 := by kernel_rfl
set_option maxRecDepth 100000 in
theorem head_pair {H : Type} {enc : TypeId × Value → H} {W : World} {held : Bool} {n : Nat} {u v : Value} {x : DataW H × List MemPlace} {a b : Int} (h : DataW.trod enc Tryd.prog W 0 (fun _ => true) held n 111 [u, v] = some x) (hx : x.1 = .agg [.lit (.int .i64 a), .lit (.int .i64 b)]) :
    u = .int .i64 a ∧ v = .int .i64 b := by
  obtain ⟨_, y0, f0, ds, e0, g0⟩ := field_at Tryd.underlying111 h 0 3 u rfl cellsInt rfl
  obtain ⟨_, y1, f1, ds', e1, g1⟩ := field_at Tryd.underlying111 h 1 3 v rfl cellsInt rfl
  rw [hx, DataW.agg.injEq] at e0 e1
  subst e0
  rw [← e1] at g1
  obtain ⟨p, q0, d0, -⟩ := DataW.trod_int Tryd.underlying3 f0
  obtain ⟨q, q1, d1, -⟩ := DataW.trod_int Tryd.underlying3 f1
  subst d0 d1
  simp at g0 g1 q0 q1
  exact ⟨by rw [q0, g0], by rw [q1, g1]⟩
set_option maxRecDepth 100000 in
/-- What stands in the table of a page's head, where a row lists it first. -/
theorem head_of_laid {W : World} {rest : List (String × DataW Unit)} (h : laidMet Tryd.prog (("copse/sheet.head", Rows.laid_copse_sheet_head) :: rest) W) : Sh.HeadOk W := by
  obtain ⟨ps, ⟨g', t', cs, fuel, p, q, hg', ht', hvar, hd, _, _⟩, _⟩ := h
  obtain rfl := Option.some.inj (gHead.symm.trans hg')
  obtain rfl := Option.some.inj (tHead.symm.trans ht')
  obtain ⟨xs, n, -, hx, hl, hlen, hel⟩ := DataW.trod_array Tryd.underlying112 hd
  rw [cells8] at hl
  have hx1 := congrArg Prod.fst hx
  obtain ⟨l⟩ := cs
  match xs, hlen with
  | [x0, x1, x2, x3], _ =>
    match l, hl with
    | [c0, c1, c2, c3, c4, c5, c6, c7], _ =>
      have e0 := hel 0 (by decide)
      have e1 := hel 1 (by decide)
      have e2 := hel 2 (by decide)
      have e3 := hel 3 (by decide)
      simp only [cells2, Nat.zero_mul, Nat.one_mul, Nat.reduceMul, List.drop_zero, List.take_succ_cons, List.take_zero, List.drop_succ_cons, List.getElem?_cons_zero, List.getElem?_cons_succ] at e0 e1 e2 e3
      simp only [Rows.laid_copse_sheet_head, List.map_cons, List.map_nil, DataW.agg.injEq, List.cons.injEq, and_true] at hx1
      obtain ⟨a0, a1⟩ := head_pair e0 hx1.1.symm
      obtain ⟨a2, a3⟩ := head_pair e1 hx1.2.1.symm
      obtain ⟨a4, a5⟩ := head_pair e2 hx1.2.2.1.symm
      obtain ⟨a6, a7⟩ := head_pair e3 hx1.2.2.2.symm
      subst a0 a1 a2 a3 a4 a5 a6 a7
      intro i hi
      rw [World.var?_cell gHead hvar i]
      rcases (by omega : i = 0 ∨ i = 1 ∨ i = 2 ∨ i = 3 ∨ i = 4 ∨ i = 5 ∨ i = 6 ∨ i = 7) with rfl | rfl | rfl | rfl | rfl | rfl | rfl | rfl <;> rfl
/-- A sheet row's whole list. -/
theorem allS_of_laid {W : World} {rest : List (String × DataW Unit)} (h : laidMet Tryd.prog (allE.map (fun e => (e.name, e.d)) ++ ("copse/codec.steps", Rows.laid_copse_codec_steps) :: ("copse/sheet.head", Rows.laid_copse_sheet_head) :: rest) W) : (∃ A, Errs errG A W) ∧ TabOk W ∧ Sh.HeadOk W :=
  ⟨(all_of_laid h).1, (all_of_laid h).2, head_of_laid (laidMet.tail (laidMet_drop allE _ h))⟩
end Go.Proofs.YtoenacghkpgnpaaDoor.Door
