/- BranchChecks: of every branch the program's size and the program's Check answer what the document's do; what was handed in is as it was. Conditions: the package-level variables hold what the program's text lays in them. -/
import Derived.Test.YtocggojbafediaaDoorPureChecks
import Derived.Test.YtocggojbafediaaDoorDoor
import Derived.SizedLaws
namespace Go.Proofs.YtocggojbafediaaDoor.LBranchChecks
set_option linter.unusedVariables false
set_option linter.unusedSimpArgs false
open Go.ChangeShapes Go.WideShapes Go.ChangeAt Go.RowKit Go.Proofs.YtocggojbafediaaDoor.Ref Go.Proofs.YtocggojbafediaaDoor.E

theorem cellsBool : Tryd.prog.cellsOf 4 = 1 := by kernel_rfl
theorem cellsLink : Tryd.prog.cellsOf 48 = 2 := by kernel_rfl
theorem bytesLink : Tryd.prog.bytesOf 48 = 24 := by kernel_rfl
/-- The reach's bound on a branch's links. -/
theorem links_le {H : Type} {d : DataW H} {l : List S48} {c : Nat} (h : Door.DB d l c) (hz : ∀ m, m ∈ d.weights Tryd.prog 24 → m ≤ reachBytes) : l.length ≤ 5864062014634 := by
  obtain ⟨d0, d1, rfl, ⟨-, rfl⟩ | ⟨ds, sp, rfl, h1, h2, h3⟩⟩ := h
  · simp
  · have hm := hz ((ds.length + sp.length) * Tryd.prog.bytesOf 48) (by
      unfold DataW.weights
      simp only [Tryd.underlying24]
      refine DataW.weights_mem_each (j := 1) (t := 22) rfl rfl _ ?_
      unfold DataW.weights
      simp only [Tryd.underlying22, List.mem_cons, true_or])
    rw [bytesLink] at hm
    have hr : reachBytes = 140737488351232 := rfl
    omega
set_option maxRecDepth 100000 in
theorem contract {H : Type} (W : World) (v0 : Value) (d0 : DataW H) (p0 : List MemPlace) (base : Nat) (enc : TypeId × Value → H) (ok0 : Value.okWide Tryd.prog W .any base 55 v0)
    (h0 : DataW.Trod enc Tryd.prog W 0 (fun _ => true) true 55 v0 d0 p0) (hz : ∀ m, m ∈ d0.weights Tryd.prog 55 → m ≤ reachBytes) (hL : laidMet Tryd.prog Rows.branchChecksRow.laid W) :
    Calls Tryd.prog 6 #[v0] W fun e w' => e = .returned (.bool true) ∧ Below W.heap.size W w' := by
  obtain ⟨B, hE⟩ := Door.sen_of hL
  obtain ⟨cs, rfl, hsz⟩ := okWide_struct Tryd.underlying55 ok0
  obtain ⟨cl⟩ := cs
  have hsz' : cl.length = 7 := hsz
  match cl, hsz' with
  | [c0, c1, c2, c3, c4, c5, c6], _ =>
    obtain ⟨fuel, hf⟩ := h0
    have hf' : DataW.trod enc Tryd.prog W 0 (fun _ => true) true fuel 55 [c0, c1, c2, c3, c4, c5, c6] = some (d0, p0) := by simpa [Value.cells] using hf
    obtain ⟨_, y0, f0, ds0, e0, g0⟩ := Door.field_off Tryd.underlying55 hf' 0 24 0 2 rfl Door.cellsBranch
    obtain ⟨_, y1, f1, ds1, e1, g1⟩ := Door.field_off Tryd.underlying55 hf' 1 9 2 1 rfl Door.cellsString
    obtain ⟨_, y2, f2, ds2, e2, g2⟩ := Door.field_off Tryd.underlying55 hf' 2 3 3 1 rfl Door.cellsInt
    obtain ⟨_, y3, f3, ds3, e3, g3⟩ := Door.field_off Tryd.underlying55 hf' 3 48 4 2 rfl cellsLink
    obtain ⟨_, y4, f4, ds4, e4, g4⟩ := Door.field_off Tryd.underlying55 hf' 4 4 6 1 rfl cellsBool
    have f3' : DataW.trod enc Tryd.prog W 0 (fun _ => true) true _ 48 [c4, c5] = some y3 := f3
    obtain ⟨_, y5, f5, ds5, e5, g5⟩ := Door.field_off Tryd.underlying48 f3' 0 9 0 1 rfl Door.cellsString
    obtain ⟨_, y6, f6, ds6, e6, g6⟩ := Door.field_off Tryd.underlying48 f3' 1 3 1 1 rfl Door.cellsInt
    obtain ⟨a, A, c, l, rfl, rfl, hlc, hC, -, hD⟩ := Door.open_branch (v0 := c0) (v1 := c1) f0
    obtain ⟨key, q1, -, -⟩ := DataW.trod_string Tryd.underlying9 f1
    obtain rfl : c2 = .string key := by simpa using q1
    obtain ⟨i, q2, -, -⟩ := DataW.trod_int Tryd.underlying3 f2
    obtain rfl : c3 = .int .i64 i := by simpa using q2
    obtain ⟨root, q4, -⟩ := DataW.trod_bool Tryd.underlying4 f4
    obtain rfl : c6 = .bool root := by simpa using q4
    obtain ⟨lk, q5, -, -⟩ := DataW.trod_string Tryd.underlying9 f5
    obtain rfl : c4 = .string lk := by simpa using q5
    obtain ⟨lc, q6, -, -⟩ := DataW.trod_int Tryd.underlying3 f6
    obtain rfl : c5 = .int .i64 lc := by simpa using q6
    have hl := links_le hD (fun m hm => hz m (by
      have : d0 = .agg ds0 := e0
      rw [this]
      unfold DataW.weights
      simp only [Tryd.underlying55]
      exact DataW.weights_mem_each (j := 0) (t := 24) rfl g0 m hm))
    exact copselaw8_BranchChecks.calls (B_ := B) 60000000000000000000000000 a A c l key i lk lc root true W hE hC hlc (checks_true a l key i lk lc root hl _ (Nat.le_refl _))

set_option maxRecDepth 100000 in
theorem lifted (os : Os) (started : os.Started) (H : Type) (enc : TypeId × Value → H) :
    ReturnsInHanded {} Tryd.checked os 6 .any (fun w args => (Rows.branchChecksSpec.pre enc Tryd.prog Tryd.f6 [] false w args ∧ laidMetH Tryd.prog Rows.branchChecksRow.laid w) ∧ sizedMet enc Tryd.prog Tryd.f6 (OpenSpec.ofChange Rows.branchChecksSpec) false w args)
      (Rows.branchChecksSpec.post enc Tryd.prog Tryd.f6 false true false false) := by
  refine returnsInHanded_of_change_and (C := Tryd.checked) (X := fun w _ => laidMetH Tryd.prog Rows.branchChecksRow.laid w) (fun _ _ _ hh h => h.of_heap hh) Door.own started (by kernel_rfl) Tryd.func6
    (ChangeSpec.witness_shaped (enc := enc) (C := Tryd.checked) (os := os) (X := fun w _ => laidMetH Tryd.prog Rows.branchChecksRow.laid w) false (World.doorLaid Tryd.prog 270 os) #[.agg #[.int .i64 0, .slice none 0 0, .string ⟨#[]⟩, .int .i64 0, .string ⟨#[]⟩, .int .i64 0, .bool false]] 8 rfl (Door.shaped os _) (by kernel_rfl) (by kernel_rfl) (by kernel_rfl) (Door.metAll os _)) ?_
  intro W base args ds gs before hval0 hW _ hZ hL _
  have hval : ∀ (j : Nat) t v, Tryd.f6.params[j]? = some t → args[j]? = some v → Value.okWide Tryd.prog W .any base t v := hval0
  have hW' := hW
  obtain ⟨p, q, hA0, hV, rfl, hfz, hnd⟩ := hW
  have hA : DataW.TrodAll enc Tryd.prog W 0 (fun _ => true) true Tryd.f6.params.toList args.toList ds p := hA0
  rw [Tryd.params6] at hA hval
  obtain ⟨v0, d0, rfl, rfl, h0⟩ := trodAll_one hA
  obtain ⟨rfl, rfl⟩ := trodVars_none hV
  have ok0 := hval 0 55 v0 rfl rfl
  rw [MakeChecks.laidMetH_plain _ _ _ (by kernel_rfl)] at hL
  have hz0 : ∀ m, m ∈ d0.weights Tryd.prog 55 → m ≤ reachBytes := fun m hm => of_decide_eq_true (List.all_eq_true.1 hZ m (DataW.weights_mem_each (j := 0) rfl rfl m hm))
  simp only [List.append_nil] at hW'
  have hlt : ∀ x ∈ p, x.block < W.heap.size := fun x hx => by simpa using hW'.lt x hx
  refine (contract W v0 d0 p base enc ok0 h0 hz0 hL).mono fun e W' ⟨he, hb⟩ => ?_
  subst he
  exact ⟨_, rfl, _, _, _, [], _, [], hW', trodAll_mk1 (shut_bool Tryd.underlying4 _), trodAll_mk1 (Below.trod Door.laidOut (by kernel_rfl) (of_decide_eq_true (by kernel_rfl)) h0 hb hlt), rfl, hb.frame _, fun h => by cases h⟩

theorem said : Rows.BranchChecksSaid :=
  OpenClaim.holds_of_wide 6 Tryd.f6 rfl rfl rfl rfl rfl rfl rfl ⟨rfl, rfl, rfl, rfl, rfl⟩ rfl rfl rfl rfl rfl (by kernel_rfl) Tryd.func6 (by kernel_rfl)
    (of_decide_eq_true (by kernel_rfl)) (by unfold Func.isWrapper; first | (rw [if_pos (by decide +kernel)]; kernel_rfl) | (rw [if_neg (by decide +kernel)]; exact ⟨rfl, rfl⟩))
    (fun os started H enc _ => lifted os started H enc)

theorem plain (f : FuncId) (fn : Func) (hf : Tryd.pinned.checked.prog.funcNamed "copse/copselaw8.BranchChecks" = some f) (hfn : Tryd.pinned.checked.prog.funcs[f]? = some fn) :
    true = Tryd.pinned.checked.prog.looks [] ∧ ∀ (j : Nat) t, fn.params[j]? = some t → Tryd.pinned.checked.prog.wantsStandIn t = false := by
  obtain rfl : f = 6 := Option.some.inj ((show Tryd.prog.funcNamed "copse/copselaw8.BranchChecks" = some 6 by kernel_rfl).symm.trans hf) |>.symm
  obtain rfl : fn = Tryd.f6 := (Option.some.inj (Tryd.func6.symm.trans hfn)).symm
  refine ⟨by kernel_rfl, fun j t ht => ?_⟩
  rw [Tryd.params6] at ht
  obtain rfl : t = 55 := by simpa using Array.mem_of_getElem? ht
  exact (show Tryd.prog.wantsStandIn 55 = false by kernel_rfl)

/-- The tied card. -/
theorem card : Rows.BranchChecksCardSaid :=
  Claim7.holds_tied_plain_at .later [] _ _ _ _ said (fun _ h => by cases h) (by kernel_rfl) (fun _ h => by cases h) branchChecks_row_tie rfl ⟨rfl, rfl⟩ (by kernel_rfl) rfl plain (by kernel_rfl)
end Go.Proofs.YtocggojbafediaaDoor.LBranchChecks
