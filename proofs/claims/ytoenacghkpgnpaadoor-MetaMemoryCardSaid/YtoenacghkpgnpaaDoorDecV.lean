/- Both Decodes answer the same: a triple and the number of an error. -/
import Derived.Test.YtoenacghkpgnpaaDoorRDecode
import Derived.Test.YtoenacghkpgnpaaDoorNum
namespace Go.Proofs.YtoenacghkpgnpaaDoor.D
open Go.RowKit Go.Proofs.YtoenacghkpgnpaaDoor.K Go.Proofs.YtoenacghkpgnpaaDoor.E Go.Proofs.YtoenacghkpgnpaaDoor.P1 Go.Proofs.YtoenacghkpgnpaaDoor.Codec Go.Proofs.YtoenacghkpgnpaaDoor.Meta Go.Proofs.YtoenacghkpgnpaaDoor.Q Go.Proofs.YtoenacghkpgnpaaDoor.S

def errV (B : Nat → Addr) (n : Int) : Value :=
  if n = 1 then errAt (B 0) else if n = 2 then errAt (B 1) else if n = 9 then errAt (B 8) else .nilIface
theorem num_errV {B : Nat → Addr} (n : Int) (hn : n = 0 ∨ n = 1 ∨ n = 2 ∨ n = 9) (w : World) (hE : Errs errG B w) : Calls Tryd.prog 19 #[errV B n] w fun e w' => e = .returned (.int .i64 n) ∧ w = w' := by
  rcases hn with rfl | rfl | rfl | rfl
  · exact num_nil w
  · exact num_ErrArg hE
  · exact num_ErrText hE
  · exact num_ErrCorrupt hE

abbrev gP (xs : List Int) : Int := num ((xs.drop 8).take 4)
abbrev gR (xs : List Int) : Int := num ((xs.drop 12).take 4)
abbrev gT (xs : List Int) : Int := num ((xs.drop 16).take 8)
def decR (xs : List Int) (pages slot : Int) : Int × Int × Int × Int :=
  if PagesM pages ∧ (slot = 0 ∨ slot = 1) then (if xs.length = 512 ∧ OkD xs pages slot then (gP xs, gR xs, gT xs, 0) else (0, 0, 0, 2)) else (0, 0, 0, 1)
theorem decR_num (xs : List Int) (pages slot p r t n : Int) (h : decR xs pages slot = (p, r, t, n)) : n = 0 ∨ n = 1 ∨ n = 2 := by
  unfold decR at h
  by_cases c1 : PagesM pages ∧ (slot = 0 ∨ slot = 1)
  · rw [if_pos c1] at h
    by_cases c2 : xs.length = 512 ∧ OkD xs pages slot
    · rw [if_pos c2] at h
      simp only [Prod.mk.injEq] at h
      exact .inl h.2.2.2.symm
    · rw [if_neg c2] at h
      simp only [Prod.mk.injEq] at h
      exact .inr (.inr h.2.2.2.symm)
  · rw [if_neg c1] at h
    simp only [Prod.mk.injEq] at h
    exact .inr (.inl h.2.2.2.symm)

theorem decode_calls {B : Nat → Addr} (A : Option Addr) (c nI : Nat) (xs : List Int) (hnI : nI = xs.length) (pages slot p r t n : Int) (hd : decR xs pages slot = (p, r, t, n)) (w : World) (hE : Errs errG B w) (hs : TabOk w) (hr : RdB w A xs) (hxr : ∀ x, x ∈ xs → 0 ≤ x ∧ x ≤ 255) :
    Calls Tryd.prog 25 #[.slice A nI c, .int .i64 pages, .int .i64 slot] w fun e w' => e = .returned (.tuple #[.agg #[.int .i64 p, .int .i64 r, .int .u64 t], errV B n]) ∧ Below w.heap.size w w' := by
  have c1' := hE.cell 0 (by decide)
  have c2' := hE.cell 1 (by decide)
  unfold decR at hd
  by_cases hp : PagesM pages
  · by_cases hsl : slot = 0 ∨ slot = 1
    · rw [if_pos ⟨hp, hsl⟩] at hd
      by_cases hx : xs.length = 512
      · have h := decode_full A nI c xs pages slot w _ c2' hs hr hxr (by omega) hx hp hsl (gP xs) (gR xs) (gT xs) rfl rfl rfl _ rfl
        by_cases ho : OkD xs pages slot
        · rw [if_pos ⟨hx, ho⟩] at hd
          simp only [Prod.mk.injEq] at hd
          obtain ⟨rfl, rfl, rfl, rfl⟩ := hd
          rw [decide_eq_true ho] at h
          exact h
        · rw [if_neg (fun k => ho k.2)] at hd
          simp only [Prod.mk.injEq] at hd
          obtain ⟨rfl, rfl, rfl, rfl⟩ := hd
          rw [decide_eq_false ho] at h
          exact h
      · rw [if_neg (fun k => hx k.1)] at hd
        simp only [Prod.mk.injEq] at hd
        obtain ⟨rfl, rfl, rfl, rfl⟩ := hd
        exact decode_len A nI c pages slot w _ c2' hp hsl (by omega)
    · rw [if_neg (fun k => hsl k.2)] at hd
      simp only [Prod.mk.injEq] at hd
      obtain ⟨rfl, rfl, rfl, rfl⟩ := hd
      exact decode_slot A nI c pages slot w _ c1' hp (fun k => hsl (.inl k)) (fun k => hsl (.inr k))
  · rw [if_neg (fun k => hp k.1)] at hd
    simp only [Prod.mk.injEq] at hd
    obtain ⟨rfl, rfl, rfl, rfl⟩ := hd
    exact decode_pages A nI c pages slot w _ c1' hp

theorem rdecode_calls (A : Option Addr) (c nI : Nat) (xs : List Int) (hnI : nI = xs.length) (hc : nI ≤ c) (pages slot p r t n : Int) (hd : decR xs pages slot = (p, r, t, n)) (w : World) (hr : RdB w A xs) (hxr : ∀ x, x ∈ xs → 0 ≤ x ∧ x ≤ 255) :
    Calls Tryd.prog 26 #[.slice A nI c, .int .i64 pages, .int .i64 slot] w fun e w' => e = .returned (.tuple #[.agg #[.int .i64 p, .int .i64 r, .int .u64 t], .int .i64 n]) ∧ Below w.heap.size w w' := by
  unfold decR at hd
  by_cases hp : PagesM pages
  · by_cases hsl : slot = 0 ∨ slot = 1
    · rw [if_pos ⟨hp, hsl⟩] at hd
      by_cases hx : xs.length = 512
      · by_cases ho : OkD xs pages slot
        · rw [if_pos ⟨hx, ho⟩] at hd
          simp only [Prod.mk.injEq] at hd
          obtain ⟨rfl, rfl, rfl, rfl⟩ := hd
          exact rdecode_ok A nI c xs pages slot w hr hxr (by omega) hx hc hp hsl _ _ _ rfl rfl rfl _ rfl ho.2.2.1 ho.2.2.2 ho.1 ho.2.1
        · rw [if_neg (fun k => ho k.2)] at hd
          simp only [Prod.mk.injEq] at hd
          obtain ⟨rfl, rfl, rfl, rfl⟩ := hd
          by_cases hm : MayM (gP xs) (gR xs)
          · by_cases hq : wr (gP xs) (gR xs) (gT xs) = xs
            · by_cases hpg : gP xs = pages
              · exact rdecode_sl A nI c xs pages slot w hr hxr (by omega) hx hc hp hsl _ _ _ rfl rfl rfl _ rfl hm hq hpg (fun k => ho ⟨hpg, k, hm, hq⟩)
              · exact rdecode_pg A nI c xs pages slot w hr hxr (by omega) hx hc hp hsl _ _ _ rfl rfl rfl _ rfl hm hq hpg
            · exact rdecode_same A nI c xs pages slot w hr hxr (by omega) hx hc hp hsl _ _ _ rfl rfl rfl _ rfl hm hq
          · exact rdecode_may A nI c xs pages slot w hr hxr (by omega) hx hc hp hsl _ _ _ rfl rfl rfl _ rfl hm
      · rw [if_neg (fun k => hx k.1)] at hd
        simp only [Prod.mk.injEq] at hd
        obtain ⟨rfl, rfl, rfl, rfl⟩ := hd
        exact rdecode_len A nI c pages slot w hp hsl (by omega)
    · rw [if_neg (fun k => hsl k.2)] at hd
      simp only [Prod.mk.injEq] at hd
      obtain ⟨rfl, rfl, rfl, rfl⟩ := hd
      by_cases hlo : slot < 0
      · exact rdecode_lo A nI c pages slot w hp hlo
      · exact rdecode_hi A nI c pages slot w hp (by omega)
  · rw [if_neg (fun k => hp k.1)] at hd
    simp only [Prod.mk.injEq] at hd
    obtain ⟨rfl, rfl, rfl, rfl⟩ := hd
    exact rdecode_pages A nI c pages slot w hp
end Go.Proofs.YtoenacghkpgnpaaDoor.D
