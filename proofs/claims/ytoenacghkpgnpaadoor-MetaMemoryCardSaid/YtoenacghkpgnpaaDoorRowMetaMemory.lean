/- MetaMemory: the bytes that Encode answers are new memory, spare room too; bytes that were written over are asked about anew. Conditions: the package-level variables hold what the program's text lays in them. -/
import Derived.Test.YtoenacghkpgnpaaDoorWalkMetaMemory
import Derived.Test.YtoenacghkpgnpaaDoorDoor
namespace Go.Proofs.YtoenacghkpgnpaaDoor.LMetaMemory
open Go.ChangeShapes Go.WideShapes Go.ChangeAt Go.RowKit Go.Proofs.YtoenacghkpgnpaaDoor.K Go.Proofs.YtoenacghkpgnpaaDoor.E Go.Proofs.YtoenacghkpgnpaaDoor.P1 Go.Proofs.YtoenacghkpgnpaaDoor.Codec Go.Proofs.YtoenacghkpgnpaaDoor.Meta Go.Proofs.YtoenacghkpgnpaaDoor.S Go.Proofs.YtoenacghkpgnpaaDoor.D

set_option maxRecDepth 100000 in
theorem contract {H : Type} (W : World) (v0 : Value) (d0 : DataW H) (p0 : List MemPlace) (base : Nat) (enc : TypeId × Value → H) (ok0 : Value.okWide Tryd.prog W .any base 24 v0)
    (h0 : DataW.Trod enc Tryd.prog W 0 (fun _ => true) true 24 v0 d0 p0) (_ : ∀ m, m ∈ d0.weights Tryd.prog 24 → m ≤ reachBytes) (hL : laidMet Tryd.prog Rows.metaMemoryRow.laid W) :
    Calls Tryd.prog 13 #[v0] W fun e w' => e = .returned (.bool true) ∧ Below W.heap.size W w' := by
  obtain ⟨⟨A, hE⟩, hs⟩ := all_of_laid (rest := []) hL
  obtain ⟨v1, v2, v3, y0, y1, y2, n, rfl, -, -, h1, h2, h3⟩ := Joins.open_agg3 Tryd.underlying24 (by kernel_rfl) (by kernel_rfl) ok0 h0
  obtain ⟨p, e1, -, -⟩ := DataW.trod_int Tryd.underlying3 h1
  obtain ⟨r, e2, -, -⟩ := DataW.trod_int Tryd.underlying3 h2
  obtain ⟨t, e3, -, wf⟩ := DataW.trod_int Tryd.underlying22 h3
  obtain rfl : v1 = .int .i64 p := by simpa using e1
  obtain rfl : v2 = .int .i64 r := by simpa using e2
  obtain rfl : v3 = .int .u64 t := by simpa using e3
  have ht := bounds_u64 wf
  exact walk (B := A) p r t W hE hs ht.1 (by omega)

set_option maxRecDepth 100000 in
theorem lifted (os : Os) (started : os.Started) (H : Type) (enc : TypeId × Value → H) :
    ReturnsInHanded {} Tryd.checked os 13 .any (fun w args => (Rows.metaMemorySpec.pre enc Tryd.prog Tryd.f13 [] false w args ∧ laidMetH Tryd.prog Rows.metaMemoryRow.laid w) ∧ sizedMet enc Tryd.prog Tryd.f13 (OpenSpec.ofChange Rows.metaMemorySpec) false w args)
      (Rows.metaMemorySpec.post enc Tryd.prog Tryd.f13 false true false false) := by
  refine returnsInHanded_of_change_and (C := Tryd.checked) (X := fun w _ => laidMetH Tryd.prog Rows.metaMemoryRow.laid w) (fun _ _ _ hh h => h.of_heap hh) Door.own started (by kernel_rfl) Tryd.func13
    (ChangeSpec.witness_shaped (enc := enc) (C := Tryd.checked) (os := os) (X := fun w _ => laidMetH Tryd.prog Rows.metaMemoryRow.laid w) false (World.doorLaid Tryd.prog 270 os) #[.agg #[.int .i64 0, .int .i64 0, .int .u64 0]] 8 rfl (Door.shaped os _) (by kernel_rfl) (by kernel_rfl) (by kernel_rfl) (Door.metM os _)) ?_
  intro W base args ds gs before hval0 hW _ hZ hL _
  have hval : ∀ (j : Nat) t v, Tryd.f13.params[j]? = some t → args[j]? = some v → Value.okWide Tryd.prog W .any base t v := hval0
  have hW' := hW
  obtain ⟨p, q, hA0, hV, rfl, hfz, hnd⟩ := hW
  have hA : DataW.TrodAll enc Tryd.prog W 0 (fun _ => true) true Tryd.f13.params.toList args.toList ds p := hA0
  rw [Tryd.params13] at hA hval
  obtain ⟨v0, d0, rfl, rfl, h0⟩ := trodAll_one hA
  obtain ⟨rfl, rfl⟩ := trodVars_none hV
  have ok0 := hval 0 24 v0 rfl rfl
  rw [MakeChecks.laidMetH_plain _ _ _ (by kernel_rfl)] at hL
  have hz0 : ∀ m, m ∈ d0.weights Tryd.prog 24 → m ≤ reachBytes := fun m hm => of_decide_eq_true (List.all_eq_true.1 hZ m (DataW.weights_mem_each (j := 0) rfl rfl m hm))
  simp only [List.append_nil] at hW'
  have hlt : ∀ x ∈ p, x.block < W.heap.size := fun x hx => by simpa using hW'.lt x hx
  refine (contract W v0 d0 p base enc ok0 h0 hz0 hL).mono fun e W' ⟨he, hb⟩ => ?_
  subst he
  exact ⟨_, rfl, _, _, _, [], _, [], hW', trodAll_mk1 (shut_bool Tryd.underlying4 _), trodAll_mk1 (Below.trod Door.laidOut (by kernel_rfl) (of_decide_eq_true (by kernel_rfl)) h0 hb hlt), rfl, hb.frame _, fun h => by cases h⟩

theorem said : Rows.MetaMemorySaid :=
  OpenClaim.holds_of_wide 13 Tryd.f13 rfl rfl rfl rfl rfl rfl rfl ⟨rfl, rfl, rfl, rfl, rfl⟩ rfl rfl rfl rfl rfl (by kernel_rfl) Tryd.func13 (by kernel_rfl)
    (of_decide_eq_true (by kernel_rfl)) (by unfold Func.isWrapper; first | (rw [if_pos (by decide +kernel)]; kernel_rfl) | (rw [if_neg (by decide +kernel)]; exact ⟨rfl, rfl⟩))
    (fun os started H enc _ => lifted os started H enc)

theorem plain (f : FuncId) (fn : Func) (hf : Tryd.pinned.checked.prog.funcNamed "copse/copselaw5.MetaMemory" = some f) (hfn : Tryd.pinned.checked.prog.funcs[f]? = some fn) :
    true = Tryd.pinned.checked.prog.looks [] ∧ ∀ (j : Nat) t, fn.params[j]? = some t → Tryd.pinned.checked.prog.wantsStandIn t = false := by
  obtain rfl : f = 13 := Option.some.inj ((show Tryd.prog.funcNamed "copse/copselaw5.MetaMemory" = some 13 by kernel_rfl).symm.trans hf) |>.symm
  obtain rfl : fn = Tryd.f13 := (Option.some.inj (Tryd.func13.symm.trans hfn)).symm
  refine ⟨by kernel_rfl, fun j t ht => ?_⟩
  rw [Tryd.params13] at ht
  obtain rfl : t = 24 := by simpa using Array.mem_of_getElem? ht
  exact (show Tryd.prog.wantsStandIn 24 = false by kernel_rfl)

/-- The tied card. -/
theorem card : Rows.MetaMemoryCardSaid :=
  Claim7.holds_tied_plain_at .later [] _ _ _ _ said (fun _ h => by cases h) (by kernel_rfl) (fun _ h => by cases h) metaMemory_row_tie rfl ⟨rfl, rfl⟩ (by kernel_rfl) rfl plain (by kernel_rfl)
end Go.Proofs.YtoenacghkpgnpaaDoor.LMetaMemory
