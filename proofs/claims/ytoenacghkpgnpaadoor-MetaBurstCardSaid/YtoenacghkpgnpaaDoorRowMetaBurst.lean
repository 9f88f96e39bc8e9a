/- MetaBurst: a meta of which up to four bytes that follow one another were changed, all outside of its sum or all within, is valid in no slot. Conditions: the package-level variables hold what the program's text lays in them. -/
import Derived.Test.YtoenacghkpgnpaaDoorWalkMetaBurst
import Derived.Test.YtoenacghkpgnpaaDoorDoor
namespace Go.Proofs.YtoenacghkpgnpaaDoor.LMetaBurst
open Go.ChangeShapes Go.WideShapes Go.ChangeAt Go.RowKit Go.Proofs.YtoenacghkpgnpaaDoor.K Go.Proofs.YtoenacghkpgnpaaDoor.E Go.Proofs.YtoenacghkpgnpaaDoor.P1 Go.Proofs.YtoenacghkpgnpaaDoor.Codec Go.Proofs.YtoenacghkpgnpaaDoor.Meta Go.Proofs.YtoenacghkpgnpaaDoor.S Go.Proofs.YtoenacghkpgnpaaDoor.D

set_option maxRecDepth 100000 in
theorem contract {H : Type} (W : World) (v0 : Value) (d0 : DataW H) (p0 : List MemPlace) (base : Nat) (enc : TypeId × Value → H) (ok0 : Value.okWide Tryd.prog W .any base 67 v0)
    (h0 : DataW.Trod enc Tryd.prog W 0 (fun _ => true) true 67 v0 d0 p0) (_ : ∀ m, m ∈ d0.weights Tryd.prog 67 → m ≤ reachBytes) (hL : laidMet Tryd.prog Rows.metaBurstRow.laid W) :
    Calls Tryd.prog 11 #[v0] W fun e w' => e = .returned (.bool true) ∧ Below W.heap.size W w' := by
  obtain ⟨⟨B, hE⟩, hs⟩ := all_of_laid (rest := []) hL
  have c8 : Tryd.prog.cellsOf 67 = 8 := by kernel_rfl
  have c3 : Tryd.prog.cellsOf 24 = 3 := by kernel_rfl
  have c1 : Tryd.prog.cellsOf 3 = 1 := by kernel_rfl
  have cu : Tryd.prog.cellsOf 22 = 1 := by kernel_rfl
  have cb : Tryd.prog.cellsOf 5 = 1 := by kernel_rfl
  have c4 : Tryd.prog.cellsOf 65 = 4 := by kernel_rfl
  obtain ⟨⟨cs⟩, rfl, hsz⟩ := okWide_struct Tryd.underlying67 ok0
  rw [c8] at hsz
  match cs, hsz with
  | [v1, v2, v3, v4, v5, v6, v7, v8], _ =>
    obtain ⟨fuel, hf⟩ := h0
    obtain ⟨y0, y1, y2, n, -, -, h1, h2, h3⟩ := Go.Deep.trod_struct3 Tryd.underlying67 hf
    simp only [c3, c1, c4, Value.cells, List.drop_zero, List.take_succ_cons, List.take_zero, List.drop_succ_cons] at h1 h2 h3
    obtain ⟨z0, z1, z2, n', -, -, m1, m2, m3⟩ := Go.Deep.trod_struct3 Tryd.underlying24 h1
    simp only [c1, cu, List.drop_zero, List.take_succ_cons, List.take_zero, List.drop_succ_cons] at m1 m2 m3
    obtain ⟨p, e1, -, -⟩ := DataW.trod_int Tryd.underlying3 m1
    obtain ⟨r, e2, -, -⟩ := DataW.trod_int Tryd.underlying3 m2
    obtain ⟨t, e3, -, wf⟩ := DataW.trod_int Tryd.underlying22 m3
    obtain ⟨q, e4, -, -⟩ := DataW.trod_int Tryd.underlying3 h2
    obtain rfl : v1 = .int .i64 p := by simpa using e1
    obtain rfl : v2 = .int .i64 r := by simpa using e2
    obtain rfl : v3 = .int .u64 t := by simpa using e3
    obtain rfl : v4 = .int .i64 q := by simpa using e4
    obtain ⟨xs, n2, -, -, -, hlen, hel⟩ := DataW.trod_array Tryd.underlying65 h3
    have el : ∀ (i : Nat) (v : Value), i < 4 → ([v5, v6, v7, v8][i]? = some v) → ∃ b, v = .int .u8 b ∧ 0 ≤ b ∧ b ≤ 255 := fun i v hi hv => by
      have h := hel i (by omega)
      rw [cb, Nat.mul_one] at h
      have hd : ([v5, v6, v7, v8].drop i).take 1 = [v] := by
        rcases (by omega : i = 0 ∨ i = 1 ∨ i = 2 ∨ i = 3) with rfl | rfl | rfl | rfl <;> simp at hv ⊢ <;> exact hv
      rw [hd] at h
      obtain ⟨x, hxx⟩ : ∃ x, xs[i]? = some x := ⟨_, List.getElem?_eq_getElem (by omega)⟩
      rw [hxx] at h
      obtain ⟨b, e, -, wfb⟩ := DataW.trod_int Tryd.underlying5 h
      exact ⟨b, by simpa using e, (bounds_u8 wfb).1, (bounds_u8 wfb).2⟩
    obtain ⟨b0, rfl, q0⟩ := el 0 v5 (by decide) rfl
    obtain ⟨b1, rfl, q1⟩ := el 1 v6 (by decide) rfl
    obtain ⟨b2, rfl, q2⟩ := el 2 v7 (by decide) rfl
    obtain ⟨b3, rfl, q3⟩ := el 3 v8 (by decide) rfl
    have ht := bounds_u64 wf
    refine walk (B := B) p r t q b0 b1 b2 b3 W hE hs ht.1 (by omega) (fun j => ?_)
    match j with
    | 0 => exact q0
    | 1 => exact q1
    | 2 => exact q2
    | 3 => exact q3
    | _ + 4 => exact ⟨by simp, by simp⟩

set_option maxRecDepth 100000 in
theorem lifted (os : Os) (started : os.Started) (H : Type) (enc : TypeId × Value → H) :
    ReturnsInHanded {} Tryd.checked os 11 .any (fun w args => (Rows.metaBurstSpec.pre enc Tryd.prog Tryd.f11 [] false w args ∧ laidMetH Tryd.prog Rows.metaBurstRow.laid w) ∧ sizedMet enc Tryd.prog Tryd.f11 (OpenSpec.ofChange Rows.metaBurstSpec) false w args)
      (Rows.metaBurstSpec.post enc Tryd.prog Tryd.f11 false true false false) := by
  refine returnsInHanded_of_change_and (C := Tryd.checked) (X := fun w _ => laidMetH Tryd.prog Rows.metaBurstRow.laid w) (fun _ _ _ hh h => h.of_heap hh) Door.own started (by kernel_rfl) Tryd.func11
    (ChangeSpec.witness_shaped (enc := enc) (C := Tryd.checked) (os := os) (X := fun w _ => laidMetH Tryd.prog Rows.metaBurstRow.laid w) false (World.doorLaid Tryd.prog 270 os) #[.agg #[.int .i64 0, .int .i64 0, .int .u64 0, .int .i64 0, .int .u8 0, .int .u8 0, .int .u8 0, .int .u8 0]] 8 rfl (Door.shaped os _) (by kernel_rfl) (by kernel_rfl) (by kernel_rfl) (Door.metM os _)) ?_
  intro W base args ds gs before hval0 hW _ hZ hL _
  have hval : ∀ (j : Nat) t v, Tryd.f11.params[j]? = some t → args[j]? = some v → Value.okWide Tryd.prog W .any base t v := hval0
  have hW' := hW
  obtain ⟨p, q, hA0, hV, rfl, hfz, hnd⟩ := hW
  have hA : DataW.TrodAll enc Tryd.prog W 0 (fun _ => true) true Tryd.f11.params.toList args.toList ds p := hA0
  rw [Tryd.params11] at hA hval
  obtain ⟨v0, d0, rfl, rfl, h0⟩ := trodAll_one hA
  obtain ⟨rfl, rfl⟩ := trodVars_none hV
  have ok0 := hval 0 67 v0 rfl rfl
  rw [MakeChecks.laidMetH_plain _ _ _ (by kernel_rfl)] at hL
  have hz0 : ∀ m, m ∈ d0.weights Tryd.prog 67 → m ≤ reachBytes := fun m hm => of_decide_eq_true (List.all_eq_true.1 hZ m (DataW.weights_mem_each (j := 0) rfl rfl m hm))
  simp only [List.append_nil] at hW'
  have hlt : ∀ x ∈ p, x.block < W.heap.size := fun x hx => by simpa using hW'.lt x hx
  refine (contract W v0 d0 p base enc ok0 h0 hz0 hL).mono fun e W' ⟨he, hb⟩ => ?_
  subst he
  exact ⟨_, rfl, _, _, _, [], _, [], hW', trodAll_mk1 (shut_bool Tryd.underlying4 _), trodAll_mk1 (Below.trod Door.laidOut (by kernel_rfl) (of_decide_eq_true (by kernel_rfl)) h0 hb hlt), rfl, hb.frame _, fun h => by cases h⟩

theorem said : Rows.MetaBurstSaid :=
  OpenClaim.holds_of_wide 11 Tryd.f11 rfl rfl rfl rfl rfl rfl rfl ⟨rfl, rfl, rfl, rfl, rfl⟩ rfl rfl rfl rfl rfl (by kernel_rfl) Tryd.func11 (by kernel_rfl)
    (of_decide_eq_true (by kernel_rfl)) (by unfold Func.isWrapper; first | (rw [if_pos (by decide +kernel)]; kernel_rfl) | (rw [if_neg (by decide +kernel)]; exact ⟨rfl, rfl⟩))
    (fun os started H enc _ => lifted os started H enc)

theorem plain (f : FuncId) (fn : Func) (hf : Tryd.pinned.checked.prog.funcNamed "copse/copselaw5.MetaBurst" = some f) (hfn : Tryd.pinned.checked.prog.funcs[f]? = some fn) :
    true = Tryd.pinned.checked.prog.looks [] ∧ ∀ (j : Nat) t, fn.params[j]? = some t → Tryd.pinned.checked.prog.wantsStandIn t = false := by
  obtain rfl : f = 11 := Option.some.inj ((show Tryd.prog.funcNamed "copse/copselaw5.MetaBurst" = some 11 by kernel_rfl).symm.trans hf) |>.symm
  obtain rfl : fn = Tryd.f11 := (Option.some.inj (Tryd.func11.symm.trans hfn)).symm
  refine ⟨by kernel_rfl, fun j t ht => ?_⟩
  rw [Tryd.params11] at ht
  obtain rfl : t = 67 := by simpa using Array.mem_of_getElem? ht
  exact (show Tryd.prog.wantsStandIn 67 = false by kernel_rfl)

/-- The tied card. -/
theorem card : Rows.MetaBurstCardSaid :=
  Claim7.holds_tied_plain_at .later [] _ _ _ _ said (fun _ h => by cases h) (by kernel_rfl) (fun _ h => by cases h) metaBurst_row_tie rfl ⟨rfl, rfl⟩ (by kernel_rfl) rfl plain (by kernel_rfl)
end Go.Proofs.YtoenacghkpgnpaaDoor.LMetaBurst
