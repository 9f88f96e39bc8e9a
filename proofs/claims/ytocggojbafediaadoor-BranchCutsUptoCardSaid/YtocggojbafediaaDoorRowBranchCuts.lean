/- BranchCuts: every cut of a branch and every join of two is the document's; what was handed in is as it was. Conditions: the package-level variables hold what the program's text lays in them; the input holds at most 1048576 values and letters. -/
import Derived.Test.YtocggojbafediaaDoorPureCuts
import Derived.Test.YtocggojbafediaaDoorBulk
namespace Go.Proofs.YtocggojbafediaaDoor.LBranchCuts
set_option linter.unusedVariables false
set_option linter.unusedSimpArgs false
open Go.ChangeShapes Go.WideShapes Go.ChangeAt Go.RowKit Go.Proofs.YtocggojbafediaaDoor.Ref Go.Proofs.YtocggojbafediaaDoor.E

set_option maxRecDepth 100000 in
theorem contract {H : Type} (W : World) (v0 : Value) (d0 : DataW H) (p0 : List MemPlace) (base : Nat) (enc : TypeId × Value → H) (ok0 : Value.okWide Tryd.prog W .any base 26 v0)
    (h0 : DataW.Trod enc Tryd.prog W 0 (fun _ => true) true 26 v0 d0 p0) (hk : Rows.uptoBulkAll [d0] ≤ 1048576) (hL : laidMet Tryd.prog Rows.branchCutsRow.laid W) :
    Calls Tryd.prog 3 #[v0] W fun e w' => e = .returned (.bool true) ∧ Below W.heap.size W w' := by
  obtain ⟨B, hE⟩ := Door.sen_of hL
  obtain ⟨cs, rfl, hsz⟩ := okWide_struct Tryd.underlying26 ok0
  obtain ⟨cl⟩ := cs
  have hsz' : cl.length = 5 := hsz
  match cl, hsz' with
  | [c0, c1, c2, c3, c4], _ =>
    obtain ⟨fuel, hf⟩ := h0
    have hf' : DataW.trod enc Tryd.prog W 0 (fun _ => true) true fuel 26 [c0, c1, c2, c3, c4] = some (d0, p0) := by simpa [Value.cells] using hf
    obtain ⟨_, y0, f0, ds0, e0, g0⟩ := Door.field_off Tryd.underlying26 hf' 0 24 0 2 rfl Door.cellsBranch
    obtain ⟨_, y1, f1, ds1, e1, g1⟩ := Door.field_off Tryd.underlying26 hf' 1 9 2 1 rfl Door.cellsString
    obtain ⟨_, y2, f2, ds2, e2, g2⟩ := Door.field_off Tryd.underlying26 hf' 2 24 3 2 rfl Door.cellsBranch
    obtain ⟨a, A, c, l, rfl, rfl, hlc, hC, -, hD⟩ := Door.open_branch (v0 := c0) (v1 := c1) f0
    obtain ⟨b, A', c', n, rfl, rfl, hnc, hC', -, hD'⟩ := Door.open_branch (v0 := c3) (v1 := c4) f2
    obtain ⟨key, q1, -, -⟩ := DataW.trod_string Tryd.underlying9 f1
    obtain rfl : c2 = .string key := by simpa using q1
    have hb := Bulk.branch_le hD
    have hb' := Bulk.branch_le hD'
    have k0 : Rows.uptoBulk y0.1 ≤ Rows.uptoBulk d0 := by
      have : d0 = .agg ds0 := e0
      rw [this]; exact Bulk.agg_le 0 g0
    have k2 : Rows.uptoBulk y2.1 ≤ Rows.uptoBulk d0 := by
      have : d0 = .agg ds2 := e2
      rw [this]; exact Bulk.agg_le 2 g2
    have kd : Rows.uptoBulk d0 ≤ 1048576 := by
      simp only [Rows.uptoBulkAll] at hk
      omega
    exact copselaw8_BranchCuts.calls (B_ := B) 7000000 a A c l key b A' c' n true W hE hC hlc hC' hnc
      (cuts_true a l key b n (by have := hb.1; omega) (by have := hb'.1; omega) (fun x hx => by have := hb.2 x hx; omega) (fun x hx => by have := hb'.2 x hx; omega))

theorem reads (os : Os) {H : Type} (enc : TypeId × Value → H) : ∃ places, DataW.whole enc Tryd.prog ((World.doorLaid Tryd.prog 270 os).forCall (fun _ _ => 0) ⟨#[], #[.agg #[.int .i64 0, .slice none 0 0, .string ⟨#[]⟩, .int .i64 0, .slice none 0 0]], []⟩).memory Tryd.f3.params.toList Rows.branchCutsSpec.vars false #[Value.agg #[.int .i64 0, .slice none 0 0, .string ⟨#[]⟩, .int .i64 0, .slice none 0 0]].toList 8 =
    some ([.agg [.agg [.lit (.int .i64 0), .nil], .lit (.string []), .agg [.lit (.int .i64 0), .nil]]], [], places) :=
  ⟨[], by kernel_rfl⟩

set_option maxRecDepth 100000 in
theorem lifted (os : Os) (started : os.Started) (H : Type) (enc : TypeId × Value → H) (F : Stop.Interp) :
    ReturnsInHanded {} Tryd.checked os 3 .any ((Rows.OpenSpec.upto Rows.branchCutsSpec).preRow enc Tryd.prog Tryd.f3 Rows.branchCutsUptoRow.domain false Rows.branchCutsUptoRow.laid) (((Rows.OpenSpec.upto Rows.branchCutsSpec).at F).post enc Tryd.prog Tryd.f3 false true false false) := by
  obtain ⟨places, hx⟩ := reads os enc
  have hok : Input.okWideB Tryd.prog ((World.doorLaid Tryd.prog 270 os).forCall (fun _ _ => 0) ⟨#[], #[.agg #[.int .i64 0, .slice none 0 0, .string ⟨#[]⟩, .int .i64 0, .slice none 0 0]], []⟩) 3 ⟨#[], #[.agg #[.int .i64 0, .slice none 0 0, .string ⟨#[]⟩, .int .i64 0, .slice none 0 0]], []⟩ = true := by kernel_rfl
  refine returnsInHanded_of_row (C := Tryd.checked) (s := Rows.OpenSpec.upto Rows.branchCutsSpec) Door.own started (by kernel_rfl) Tryd.func3
    ⟨World.doorLaid Tryd.prog 270 os, fun _ _ => 0, ⟨#[], #[.agg #[.int .i64 0, .slice none 0 0, .string ⟨#[]⟩, .int .i64 0, .slice none 0 0]], []⟩, rfl, Door.shaped os _, (Input.okWide_of_okWideB (base := 0) hok).1, (Input.okWide_of_okWideB hok).2,
      OpenSpec.preRow_of_cond 8 hx (by kernel_rfl) (fun k hk => by cases hk; kernel_rfl) (by kernel_rfl) (Door.metAll os _), by
        simp only [Assume.holds]
        exact ⟨by simp, by simp, fun _ => Modest.zero, by simp, by simp⟩⟩ ?_
  intro W base args ds gs before hval0 hW _ hcond _ hL _ _
  have hval : ∀ (j : Nat) t v, Tryd.f3.params[j]? = some t → args[j]? = some v → Value.okWide Tryd.prog W .any base t v := hval0
  have hW' := hW
  obtain ⟨p, q, hA0, hV, rfl, hfz, hnd⟩ := hW
  have hA : DataW.TrodAll enc Tryd.prog W 0 (fun _ => true) true Tryd.f3.params.toList args.toList ds p := hA0
  rw [Tryd.params3] at hA hval
  obtain ⟨v0, d0, rfl, rfl, h0⟩ := trodAll_one hA
  obtain ⟨rfl, rfl⟩ := trodVars_none hV
  have ok0 := hval 0 26 v0 rfl rfl
  rw [MakeChecks.laidMetH_plain _ _ _ (by kernel_rfl)] at hL
  have hk := Bulk.small (hcond _ rfl)
  simp only [List.append_nil] at hW' hk
  have hlt : ∀ x ∈ p, x.block < W.heap.size := fun x hx => by simpa using hW'.lt x hx
  refine (contract W v0 d0 p base enc ok0 h0 hk hL).mono fun e W' ⟨he, hb⟩ => ?_
  subst he
  exact ⟨_, rfl, _, _, _, [], _, [], hW', trodAll_mk1 (shut_bool Tryd.underlying4 _), trodAll_mk1 (Below.trod Door.laidOut (by kernel_rfl) (of_decide_eq_true (by kernel_rfl)) h0 hb hlt), rfl, hb.frame _, fun h => by cases h⟩

theorem said : Rows.BranchCutsUptoSaid :=
  OpenClaim.holds_of_cond 3 Tryd.f3 rfl rfl rfl rfl rfl rfl rfl ⟨rfl, rfl, rfl, rfl, rfl⟩ rfl rfl rfl rfl rfl (by kernel_rfl) Tryd.func3 (by kernel_rfl)
    (of_decide_eq_true (by kernel_rfl)) (by unfold Func.isWrapper; first | (rw [if_pos (by decide +kernel)]; kernel_rfl) | (rw [if_neg (by decide +kernel)]; exact ⟨rfl, rfl⟩))
    (fun os started H enc _ F => by rw [OpenClaim.pre_eq_preRow]; exact lifted os started H enc F)

theorem plain (f : FuncId) (fn : Func) (hf : Tryd.pinned.checked.prog.funcNamed "copse/copselaw8.BranchCuts" = some f) (hfn : Tryd.pinned.checked.prog.funcs[f]? = some fn) :
    true = Tryd.pinned.checked.prog.looks [] ∧ ∀ (j : Nat) t, fn.params[j]? = some t → Tryd.pinned.checked.prog.wantsStandIn t = false := by
  obtain rfl : f = 3 := Option.some.inj ((show Tryd.prog.funcNamed "copse/copselaw8.BranchCuts" = some 3 by kernel_rfl).symm.trans hf) |>.symm
  obtain rfl : fn = Tryd.f3 := (Option.some.inj (Tryd.func3.symm.trans hfn)).symm
  refine ⟨by kernel_rfl, fun j t ht => ?_⟩
  rw [Tryd.params3] at ht
  obtain rfl : t = 26 := by simpa using Array.mem_of_getElem? ht
  exact (show Tryd.prog.wantsStandIn 26 = false by kernel_rfl)

/-- The tied card. -/
theorem card : Rows.BranchCutsUptoCardSaid :=
  Claim7.holds_tied_plain_at .later [] _ _ _ _ said (fun _ h => by cases h) (by kernel_rfl) (fun _ h => by cases h) branchCutsUpto_row_tie rfl ⟨rfl, rfl⟩ (by kernel_rfl) rfl plain (by kernel_rfl)
end Go.Proofs.YtocggojbafediaaDoor.LBranchCuts
