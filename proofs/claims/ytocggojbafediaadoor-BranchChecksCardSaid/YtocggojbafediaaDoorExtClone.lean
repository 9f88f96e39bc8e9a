/- slices.Clone of links: a new row of the same links. -/
import Derived.Test.YtocggojbafediaaDoorRef0
import Derived.Lib.LazyBuf
namespace Go.Proofs.YtocggojbafediaaDoor.Ref
set_option linter.unusedVariables false
set_option linter.unusedSimpArgs false
open Go.RowKit Go.Proofs.YtocggojbafediaaDoorW.PrintWords Go.Proofs.YtocggojbafediaaDoorW.PrintLast Go.Proofs.YtocggojbafediaaDoorW.PrintMore

theorem C_none {α : Type} {d : Kd α} {w : World} {n : Nat} {xs : List α} (h : Kd.C d w none n xs) : xs = [] := by
  rcases Nat.eq_zero_or_pos n with h0 | h0
  · exact List.eq_nil_of_length_eq_zero (h.1.trans h0)
  · obtain ⟨ad, e, _⟩ := h.2.2 h0
    cases e
def Clone_Link.f (l0 : List S48) : Option (List S48) := if l0.length < 5864062014805 then some l0 else none
set_option maxHeartbeats 2000000 in
set_option maxRecDepth 100000 in
theorem Clone_Link.calls (A0 : Option Addr) (c0 : Nat) (l0 : List S48) (r : List S48) (w : World) (hr0 : Kd.C k48 w A0 l0.length l0) (hc0 : l0.length ≤ c0) (h : Clone_Link.f l0 = some r) :
    Calls Tryd.prog 53 #[.slice A0 l0.length c0] w fun e w' => ∃ v0_ : Value, e = .returned v0_ ∧ Kd.R k48 48 w' w.heap.size (fun _ => True) v0_ r ∧ Below w.heap.size w w' := by
  unfold Clone_Link.f at h
  by_cases hl : l0.length < 5864062014805
  case neg => rw [if_neg hl] at h; cases h
  rw [if_pos hl] at h
  obtain rfl : l0 = r := Option.some.inj h
  clear h
  have hq := fun (W : World) (a : Option Addr) (n c : Nat) => run_eql_slice_nil (P := Tryd.prog) W 22 48 a n c Tryd.underlying22
  rcases A0 with _ | ad
  · have e := C_none hr0
    have hq' := fun W => hq W none l0.length c0
    have HE := Aside0.mk e
    clear e hq hr0 hc0 hl
    simp only [Option.isNone_none] at hq'
    go_enter Tryd.func53, Tryd.ntmps53
    go_wp2
    go_ret
    exact ⟨_, rfl, by rw [HE.out]; exact Kd.R_nil _ _ _ _ _, Below.refl _ _⟩
  · have hq' := fun W => hq W (some ad) l0.length c0
    simp only [Option.isNone_some] at hq'
    have HR0 := Aside0.mk hr0
    have HL := Aside0.mk hl
    clear hq hr0 hc0 hl
    go_enter Tryd.func53, Tryd.ntmps53
    go_wp2_with (first
      | ((with_reducible refine gate_dst (N := 5) rfl ?_); refine Kd.R_lit k48 (w0 := w) w.heap.size 48 ?hg (N := 5) ?hd (xs := ([] : List S48)) (inner := []) (ok := fun _ => True) (okp := fun _ => True) ?hr (Reps.none _ _) (fun _ hk => hk) trivial (Below.refl _ _) (Nat.le_refl _) (by simp) ?_; (case hd => rfl); (case hg => rfl); (case hr => first | (go_simp; done) | (go_simp; rfl)); intro v1 w1 ho hb hg_ hnew_; have HO := Aside0.mk ho; have HB := Aside0.mk hb; clear ho hb hg_ hnew_)
      | ((with_reducible refine gate_builtin (b := .append) (xs := #[.tmp 5, .tmp 6]) rfl ?_); at_builtin; refine Kd.R_append_rows k48 (w0 := w) w.heap.size rfl (.tmp 5) (.tmp 6) 22 48 (.agg #[(.string ⟨#[]⟩), (.int .i64 0)]) 24 rfl Tryd.underlying22 info48 rfl (by decide) (by omega) v1 [] l0 _ _ _ (fun _ => True) (fun _ => False) rfl rfl ?aO ?aR (fun _ _ h => h) (fun _ h => h.elim) ?aF ?aB ?aS ?aL ?_; (case aO => exact HO.out); (case aR => exact Kd.C_below HR0.out HB.out); (case aF => exact fun _ _ => trivial); (case aB => exact HB.out); (case aS => exact HB.out.size); (case aL => have := HL.out; simp only [List.length_nil]; omega); intro v2 w2 ho hb hg_ hat; have HO2 := Aside0.mk ho; have HB2 := Aside0.mk hb; clear ho hb hg_ hat)
      | fail)
    go_ret
    exact ⟨_, rfl, HO2.out, HB2.out⟩
end Go.Proofs.YtocggojbafediaaDoor.Ref
