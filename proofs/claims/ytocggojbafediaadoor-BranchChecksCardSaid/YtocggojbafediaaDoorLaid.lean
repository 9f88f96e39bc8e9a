/- What the rows' lists of package-level variables give the walks: the sentinels' cells, each pointer another. -/
import Derived.Test.YtocggojbafediaaDoorNum
import Derived.Test.YtocggojbafediaaDoorRows
import Derived.LaidLaws
import Derived.LaidMore
import Derived.Lib.LaidTab
import Derived.Stop.LaidErr
import Derived.MakeChecks
namespace Go.Proofs.YtocggojbafediaaDoor.E
open Go.RowKit Go.ChangeShapes Go.Proofs.YtocggojbafediaaDoor.K

/-- A sentinel's datum. -/
def IsSent (d : DataW Unit) : Prop := ∃ text, d = .iface "*errors.errorString" (.ptr (.agg [.lit (.string text)]))

theorem star : "*" ++ "errors.errorString" = "*errors.errorString" := by decide
theorem rowErr (u : TypeId) (h : Tryd.prog.typeName? 3 u = some "*errors.errorString") : u = 191 :=
  typeName_ptr_named (nm := "errors.errorString") (by rw [star]; kernel_rfl) (by kernel_rfl) (by decide) u (by rw [star]; exact h)
theorem cellsErr : Tryd.prog.cellsOf 206 = 1 := by kernel_rfl
theorem cellsStr : Tryd.prog.cellsOf 9 = 1 := by kernel_rfl

/-- A name, its number, its datum: one of the list's. -/
structure Entry where
  name : String
  g : Nat
  d : DataW Unit
def Entry.Ok (e : Entry) : Prop := Tryd.prog.globalNamed e.name = some e.g ∧ (Tryd.prog.globals[e.g]?).map (·.type) = some 30 ∧ IsSent e.d

set_option maxRecDepth 100000 in
theorem errs_of {W : World} (rest : List (String × DataW Unit)) : ∀ (es : List Entry) (_ : ∀ e, e ∈ es → e.Ok) (_ : (es.map (·.g)).Nodup) (ps : List MemPlace)
    (_ : DataW.LaidVars Tryd.prog W (es.map (fun e => (e.name, e.d)) ++ rest) ps) (_ : ps.Nodup) (_ : ∀ b off, MemPlace.cell b off ∈ ps → ∀ u v, W.cell? ⟨b, off, none⟩ = some (.iface u v) → Value.okWide Tryd.prog W .any 0 u v),
    ∃ A : Nat → Addr, (∀ e, e ∈ es → W.cell? ⟨e.g, 0, none⟩ = some (errAt (A e.g)) ∧ MemPlace.cell (A e.g).block (A e.g).off ∈ ps) ∧ ∀ e f, e ∈ es → f ∈ es → A e.g = A f.g → e.g = f.g
  | [], _, _, _, _, _, _ => ⟨fun _ => ⟨0, 0, none⟩, fun e he => by simp at he, fun e f he => by simp at he⟩
  | e :: es, hes, hnd, ps, h, hps, hok => by
    obtain ⟨g0, t0, cs0, f0, p0, q0, hg0, ht0, hv0, hd0, hq, rfl⟩ := h
    obtain ⟨h1, h2, text, h3⟩ := hes e (by simp)
    obtain rfl := Option.some.inj (h1.symm.trans hg0)
    obtain rfl := Option.some.inj (h2.symm.trans ht0)
    rw [h3] at hd0
    obtain ⟨l0⟩ := cs0
    have ok0 : ∀ u v, l0 = [.iface u v] → Value.okWide Tryd.prog W .any 0 u v := fun u v e' => by
      subst e'
      exact hok e.g 0 (by simp [MemPlace.row]) u v (by simpa using World.var?_cell hg0 hv0 0)
    obtain ⟨a0, s0, rfl, hc0, hs0, hz0, rfl⟩ := errorString_of_trod Tryd.underlying30 rowErr Tryd.underlying191 Tryd.underlying206 rfl rfl Tryd.underlying9 cellsErr cellsStr hd0 ok0
    obtain ⟨A, hA, hA2⟩ := errs_of rest es (fun e' he' => hes e' (by simp [he'])) (List.nodup_cons.1 hnd).2 q0 hq (List.Nodup.sublist (List.sublist_append_right _ _) hps) (fun b off hm => hok b off (List.mem_append_right _ hm))
    have hne : ∀ f, f ∈ es → f.g ≠ e.g := fun f hf he => (List.nodup_cons.1 hnd).1 (by rw [List.mem_map]; exact ⟨f, hf, he⟩)
    have hdis : MemPlace.cell a0.block a0.off ∉ q0 := fun hm => by
      have hx : MemPlace.cell a0.block a0.off ∈ MemPlace.row ⟨e.g, 0, none⟩ 1 ++ MemPlace.row a0 1 := by simp [MemPlace.row]
      exact (List.nodup_append.1 hps).2.2 _ hx _ hm rfl
    refine ⟨fun k => if k = e.g then a0 else A k, ?_, ?_⟩
    · intro f hf
      rcases List.mem_cons.1 hf with hfe | hf
      · subst hfe
        show W.cell? _ = some (errAt (if f.g = f.g then a0 else A f.g)) ∧ MemPlace.cell (if f.g = f.g then a0 else A f.g).block (if f.g = f.g then a0 else A f.g).off ∈ _
        rw [if_pos rfl]
        exact ⟨by simpa using World.var?_cell hg0 hv0 0, by simp [MemPlace.row]⟩
      · show W.cell? _ = some (errAt (if f.g = e.g then a0 else A f.g)) ∧ MemPlace.cell (if f.g = e.g then a0 else A f.g).block (if f.g = e.g then a0 else A f.g).off ∈ _
        rw [if_neg (hne f hf)]
        exact ⟨(hA f hf).1, List.mem_append_right _ (hA f hf).2⟩
    · intro f k hf hk heq
      replace heq : (if f.g = e.g then a0 else A f.g) = (if k.g = e.g then a0 else A k.g) := heq
      rcases List.mem_cons.1 hf with h1f | hf <;> rcases List.mem_cons.1 hk with h1k | hk
      · rw [h1f, h1k]
      · rw [h1f, if_pos rfl, if_neg (hne k hk)] at heq
        exact absurd (heq ▸ (hA k hk).2) hdis
      · rw [h1k, if_neg (hne f hf), if_pos rfl] at heq
        exact absurd (heq ▸ (hA f hf).2) hdis
      · rw [if_neg (hne f hf), if_neg (hne k hk)] at heq
        exact hA2 f k hf hk heq

set_option maxRecDepth 100000 in
/-- The sentinels of a row's list. -/
theorem errs_of_laid {W : World} (es : List Entry) (rest : List (String × DataW Unit)) (hes : ∀ e, e ∈ es → e.Ok) (hnd : (es.map (·.g)).Nodup) (h : laidMet Tryd.prog (es.map (fun e => (e.name, e.d)) ++ rest) W) :
    ∃ A : Nat → Addr, Errs (es.map (·.g)) A W := by
  obtain ⟨ps, hv, hps, hrows⟩ := h
  obtain ⟨A, hA, hA2⟩ := errs_of rest es hes hnd ps hv hps (fun b off hm => (hrows b off hm).2)
  refine ⟨A, ?_, ?_, ?_⟩
  · intro g hg
    obtain ⟨e, he, rfl⟩ := List.mem_map.1 hg
    exact (hA e he).1
  · intro g hg
    obtain ⟨e, he, rfl⟩ := List.mem_map.1 hg
    exact (hrows _ _ (hA e he).2).1
  · intro g k hg hk heq
    obtain ⟨e, he, rfl⟩ := List.mem_map.1 hg
    obtain ⟨f, hf, rfl⟩ := List.mem_map.1 hk
    exact hA2 e f he hf heq
theorem laidMet_drop {W : World} : ∀ (es : List Entry) (rest : List (String × DataW Unit)), laidMet Tryd.prog (es.map (fun e => (e.name, e.d)) ++ rest) W → laidMet Tryd.prog rest W
  | [], _, h => h
  | _ :: es, rest, h => laidMet_drop es rest (laidMet.tail h)

/-- The thirteen of a whole list. -/
def allE : List Entry := [⟨"copse/api.ErrArg", 0, Rows.laid_copse_api_ErrArg⟩, ⟨"copse/api.ErrText", 1, Rows.laid_copse_api_ErrText⟩, ⟨"copse/api.ErrMany", 2, Rows.laid_copse_api_ErrMany⟩, ⟨"copse/api.ErrShort", 3, Rows.laid_copse_api_ErrShort⟩,
  ⟨"copse/api.ErrTwice", 4, Rows.laid_copse_api_ErrTwice⟩, ⟨"copse/api.ErrLost", 5, Rows.laid_copse_api_ErrLost⟩, ⟨"copse/api.ErrFull", 6, Rows.laid_copse_api_ErrFull⟩, ⟨"copse/api.ErrDead", 8, Rows.laid_copse_api_ErrDead⟩,
  ⟨"copse/api.ErrCorrupt", 9, Rows.laid_copse_api_ErrCorrupt⟩, ⟨"copse/api.ErrStatus", 10, Rows.laid_copse_api_ErrStatus⟩, ⟨"copse/api.ErrTxid", 11, Rows.laid_copse_api_ErrTxid⟩, ⟨"copse/api.ErrOrder", 7, Rows.laid_copse_api_ErrOrder⟩,
  ⟨"copse/api.ErrKind", 12, Rows.laid_copse_api_ErrKind⟩]
theorem allE_ok : ∀ e, e ∈ allE → e.Ok := by
  intro e he
  simp only [allE, List.mem_cons, List.not_mem_nil, or_false] at he
  rcases he with rfl | rfl | rfl | rfl | rfl | rfl | rfl | rfl | rfl | rfl | rfl | rfl | rfl
  all_goals exact ⟨by kernel_rfl, by kernel_rfl, _, rfl⟩
theorem allE_g : allE.map (·.g) = errG := rfl
/-- Where a row lists all thirteen. -/
theorem all_of_laid {W : World} (h : laidMet Tryd.prog (allE.map (fun e => (e.name, e.d))) W) : ∃ A, Errs errG A W :=
  errs_of_laid allE [] allE_ok (by decide) (by rw [List.append_nil]; exact h)
end Go.Proofs.YtocggojbafediaaDoor.E
