/- SheetReads: what all bytes say as the page of every number, and every refusal, is the document's; the bytes stay. Conditions: the package-level variables hold what the program's text lays in them. -/
import Derived.Test.YtoenacghkpgnpaaDoorWalkSheetReads
import Derived.Test.YtoenacghkpgnpaaDoorDoorS
namespace Go.Proofs.YtoenacghkpgnpaaDoor.LSheetReads
open Go.ChangeShapes Go.WideShapes Go.ChangeAt Go.RowKit Go.Proofs.YtoenacghkpgnpaaDoor.K Go.Proofs.YtoenacghkpgnpaaDoor.E Go.Proofs.YtoenacghkpgnpaaDoor.P1 Go.Proofs.YtoenacghkpgnpaaDoor.Codec Go.Proofs.YtoenacghkpgnpaaDoor.Sh Go.Proofs.YtoenacghkpgnpaaDoor.S Go.Proofs.YtoenacghkpgnpaaDoor.D

set_option maxRecDepth 100000 in
theorem contract {H : Type} (W : World) (v0 : Value) (d0 : DataW H) (p0 : List MemPlace) (base : Nat) (enc : TypeId × Value → H) (ok0 : Value.okWide Tryd.prog W .any base 50 v0)
    (h0 : DataW.Trod enc Tryd.prog W 0 (fun _ => true) true 50 v0 d0 p0) (hz : ∀ m, m ∈ d0.weights Tryd.prog 50 → m ≤ reachBytes) (hL : laidMet Tryd.prog Rows.sheetReadsRow.laid W) :
    Calls Tryd.prog 6 #[v0] W fun e w' => e = .returned (.bool true) ∧ Below W.heap.size W w' := by
  obtain ⟨⟨B, hE⟩, hs, hh⟩ := Door.allS_of_laid (rest := []) hL
  obtain ⟨v1, v2, y0, y1, n, rfl, rfl, -, h1, h2⟩ := Joins.open_agg2 Tryd.underlying50 (by kernel_rfl) (by kernel_rfl) ok0 h0
  obtain ⟨s, e1, d1, -⟩ := DataW.trod_string Tryd.underlying9 h1
  obtain ⟨id, e2, -, -⟩ := DataW.trod_int Tryd.underlying3 h2
  obtain rfl : v1 = .string s := by simpa using e1
  obtain rfl : v2 = .int .i64 id := by simpa using e2
  subst d1
  have hsz : s.size ≤ 140737488351232 := by
    have h := hz s.data.toList.length (by
      unfold DataW.weights
      simp only [Tryd.underlying50]
      simp only [List.map_cons, DataW.weightsEach, List.mem_append]
      exact .inl (by simp [DataW.weights]))
    have hr : reachBytes = 140737488351232 := rfl
    rw [hr, Array.length_toList] at h
    exact h
  obtain ⟨q, hq⟩ : ∃ q, Sh.rdS (sb s) id = q := ⟨_, rfl⟩
  obtain ⟨a, b, t, c, u, nE⟩ := q
  obtain ⟨q2, hq2⟩ : ∃ q, Sh.rdS ((sb s).set (s.size / 2) (((sb s).getD (s.size / 2) 0 + 1) % 256)) id = q := ⟨_, rfl⟩
  obtain ⟨a2, b2, t2, c2, u2, nE2⟩ := q2
  exact walk (B := B) s id W hE hs hh hsz a b t c nE u hq a2 b2 t2 c2 nE2 u2 hq2

set_option maxRecDepth 100000 in
theorem lifted (os : Os) (started : os.Started) (H : Type) (enc : TypeId × Value → H) :
    ReturnsInHanded {} Tryd.checked os 6 .any (fun w args => (Rows.sheetReadsSpec.pre enc Tryd.prog Tryd.f6 [] false w args ∧ laidMetH Tryd.prog Rows.sheetReadsRow.laid w) ∧ sizedMet enc Tryd.prog Tryd.f6 (OpenSpec.ofChange Rows.sheetReadsSpec) false w args)
      (Rows.sheetReadsSpec.post enc Tryd.prog Tryd.f6 false true false false) := by
  refine returnsInHanded_of_change_and (C := Tryd.checked) (X := fun w _ => laidMetH Tryd.prog Rows.sheetReadsRow.laid w) (fun _ _ _ hh h => h.of_heap hh) Door.own started (by kernel_rfl) Tryd.func6
    (ChangeSpec.witness_shaped (enc := enc) (C := Tryd.checked) (os := os) (X := fun w _ => laidMetH Tryd.prog Rows.sheetReadsRow.laid w) false (World.doorLaid Tryd.prog 270 os) #[.agg #[.string ⟨#[]⟩, .int .i64 0]] 8 rfl (Door.shaped os _) (by kernel_rfl) (by kernel_rfl) (by kernel_rfl) (Door.metS os _)) ?_
  intro W base args ds gs before hval0 hW _ hZ hL _
  have hval : ∀ (j : Nat) t v, Tryd.f6.params[j]? = some t → args[j]? = some v → Value.okWide Tryd.prog W .any base t v := hval0
  have hW' := hW
  obtain ⟨p, q, hA0, hV, rfl, hfz, hnd⟩ := hW
  have hA : DataW.TrodAll enc Tryd.prog W 0 (fun _ => true) true Tryd.f6.params.toList args.toList ds p := hA0
  rw [Tryd.params6] at hA hval
  obtain ⟨v0, d0, rfl, rfl, h0⟩ := trodAll_one hA
  obtain ⟨rfl, rfl⟩ := trodVars_none hV
  have ok0 := hval 0 50 v0 rfl rfl
  rw [MakeChecks.laidMetH_plain _ _ _ (by kernel_rfl)] at hL
  have hz0 : ∀ m, m ∈ d0.weights Tryd.prog 50 → m ≤ reachBytes := fun m hm => of_decide_eq_true (List.all_eq_true.1 hZ m (DataW.weights_mem_each (j := 0) rfl rfl m hm))
  simp only [List.append_nil] at hW'
  have hlt : ∀ x ∈ p, x.block < W.heap.size := fun x hx => by simpa using hW'.lt x hx
  refine (contract W v0 d0 p base enc ok0 h0 hz0 hL).mono fun e W' ⟨he, hb⟩ => ?_
  subst he
  exact ⟨_, rfl, _, _, _, [], _, [], hW', trodAll_mk1 (shut_bool Tryd.underlying4 _), trodAll_mk1 (Below.trod Door.laidOut (by kernel_rfl) (of_decide_eq_true (by kernel_rfl)) h0 hb hlt), rfl, hb.frame _, fun h => by cases h⟩

theorem said : Rows.SheetReadsSaid :=
  OpenClaim.holds_of_wide 6 Tryd.f6 rfl rfl rfl rfl rfl rfl rfl ⟨rfl, rfl, rfl, rfl, rfl⟩ rfl rfl rfl rfl rfl (by kernel_rfl) Tryd.func6 (by kernel_rfl)
    (of_decide_eq_true (by kernel_rfl)) (by unfold Func.isWrapper; first | (rw [if_pos (by decide +kernel)]; kernel_rfl) | (rw [if_neg (by decide +kernel)]; exact ⟨rfl, rfl⟩))
    (fun os started H enc _ => lifted os started H enc)

theorem plain (f : FuncId) (fn : Func) (hf : Tryd.pinned.checked.prog.funcNamed "copse/copselaw4.SheetReads" = some f) (hfn : Tryd.pinned.checked.prog.funcs[f]? = some fn) :
    true = Tryd.pinned.checked.prog.looks [] ∧ ∀ (j : Nat) t, fn.params[j]? = some t → Tryd.pinned.checked.prog.wantsStandIn t = false := by
  obtain rfl : f = 6 := Option.some.inj ((show Tryd.prog.funcNamed "copse/copselaw4.SheetReads" = some 6 by kernel_rfl).symm.trans hf) |>.symm
  obtain rfl : fn = Tryd.f6 := (Option.some.inj (Tryd.func6.symm.trans hfn)).symm
  refine ⟨by kernel_rfl, fun j t ht => ?_⟩
  rw [Tryd.params6] at ht
  obtain rfl : t = 50 := by simpa using Array.mem_of_getElem? ht
  exact (show Tryd.prog.wantsStandIn 50 = false by kernel_rfl)

/-- The tied card. -/
theorem card : Rows.SheetReadsCardSaid :=
  Claim7.holds_tied_plain_at .later [] _ _ _ _ said (fun _ h => by cases h) (by kernel_rfl) (fun _ h => by cases h) sheetReads_row_tie rfl ⟨rfl, rfl⟩ (by kernel_rfl) rfl plain (by kernel_rfl)
end Go.Proofs.YtoenacghkpgnpaaDoor.LSheetReads
