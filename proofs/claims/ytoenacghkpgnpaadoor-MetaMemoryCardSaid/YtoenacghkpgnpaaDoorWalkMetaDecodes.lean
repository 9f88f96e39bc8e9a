/- The walk of MetaDecodes: both Decodes answer the same, and what was lent is as it was. -/
import Derived.Test.YtoenacghkpgnpaaDoorDecV
import Derived.Deep.CutBlock
namespace Go.Proofs.YtoenacghkpgnpaaDoor.LMetaDecodes
open Go.RowKit Go.Proofs.YtoenacghkpgnpaaDoor.K Go.Proofs.YtoenacghkpgnpaaDoor.E Go.Proofs.YtoenacghkpgnpaaDoor.P1 Go.Proofs.YtoenacghkpgnpaaDoor.Codec Go.Proofs.YtoenacghkpgnpaaDoor.Meta Go.Proofs.YtoenacghkpgnpaaDoor.Q Go.Proofs.YtoenacghkpgnpaaDoor.S Go.Proofs.YtoenacghkpgnpaaDoor.D

theorem RdB_left {w : World} {A : Option Addr} {xs ys : List Int} (h : RdB w A (xs ++ ys)) : RdB w A xs := fun hp => by
  obtain ⟨ad, e, hc⟩ := h (by rw [List.length_append]; omega)
  refine ⟨ad, e, fun j hj => ?_⟩
  have := hc j (by rw [List.length_append]; omega)
  rwa [List.getD_eq_getElem?_getD, List.getElem?_append_left hj, ← List.getD_eq_getElem?_getD] at this

theorem num_errX {B : Nat → Addr} (n : Int) (ev : Value) (hv : errV B n = ev) (hn : n = 0 ∨ n = 1 ∨ n = 2) (w : World) (hE : Errs errG B w) : Calls Tryd.prog 19 #[ev] w fun e w' => e = .returned (.int .i64 n) ∧ w = w' :=
  hv ▸ num_errV n (by omega) w hE
theorem lentF {A : Option Addr} {c nI : Nat} {xs : List Int} (hnI : nI = xs.length) {w : World} (hr : RdB w A xs) (hc : nI ≤ c) (hl : xs.length ≤ 140737488351232) :
    Calls Tryd.prog 24 #[.slice A nI c] w fun e w' => ∃ ad m c1, e = .returned (.slice (some ad) m c1) ∧ Hd (m = nI + 4 ∧ m ≤ c1 ∧ RdB w' (some ad) (xs ++ [77, 77, 77, 77])) ∧ Below w.heap.size w w' :=
  (lent_calls A c nI xs hnI w hr hc hl).mono fun e w' ⟨v, he, ho, hb⟩ => by
    obtain ⟨A1, c1, rfl, hcc, hrd⟩ := ho.form
    obtain ⟨ad, rfl, -⟩ := hrd (by rw [List.length_append]; simp)
    exact ⟨ad, _, c1, he, ⟨by rw [List.length_append, hnI]; rfl, hcc, hrd⟩, hb⟩

theorem mkS {W1 W : World} {g : Nat} {a b c : Value} (k : W1.cell? ⟨g, 0, none⟩ = some a ∧ W1.cell? ⟨g, 1, none⟩ = some b ∧ W1.cell? ⟨g, 2, none⟩ = some c) (hb : Below W1.heap.size W1 W) :
    W.cell? ⟨g, 0, none⟩ = some a ∧ W.cell? ⟨g, 1, none⟩ = some b ∧ W.cell? ⟨g, 2, none⟩ = some c ∧ Hd (Below W1.heap.size W1 W) := ⟨below_cell hb k.1, below_cell hb k.2.1, below_cell hb k.2.2, ⟨hb⟩⟩
theorem getS {W1 W : World} {g : Nat} {a b c : Value} (k : W.cell? ⟨g, 0, none⟩ = some a ∧ W.cell? ⟨g, 1, none⟩ = some b ∧ W.cell? ⟨g, 2, none⟩ = some c ∧ Hd (Below W1.heap.size W1 W)) : Below W1.heap.size W1 W := k.2.2.2.out

set_option maxRecDepth 100000 in
set_option maxHeartbeats 1000000 in
theorem walk {B : Nat → Addr} (A : Option Addr) (nI c : Nat) (xs : List Int) (hnI : nI = xs.length) (hc : nI ≤ c) (hl : xs.length ≤ 140737488351232) (hxr : ∀ x, x ∈ xs → 0 ≤ x ∧ x ≤ 255) (pages slot p r t n : Int) (hd : decR xs pages slot = (p, r, t, n))
    (w : World) (hE : Errs errG B w) (hs : TabOk w) (hr : RdB w A xs) :
    Calls Tryd.prog 5 #[.agg #[.slice A nI c, .int .i64 pages, .int .i64 slot]] w fun e w' => e = .returned (.bool true) ∧ Below w.heap.size w w' := by
  have HN : Hd (nI = xs.length ∧ nI ≤ c ∧ xs.length ≤ 140737488351232) := ⟨hnI, hc, hl⟩
  have HG : Hd (∀ x, x ∈ xs → 0 ≤ x ∧ x ≤ 255) := ⟨hxr⟩
  have HD : Hd (decR xs pages slot = (p, r, t, n)) := ⟨hd⟩
  have HE : Hd (Errs errG B w ∧ TabOk w ∧ RdB w A xs) := ⟨hE, hs, hr⟩
  have HNn : Hd (n = 0 ∨ n = 1 ∨ n = 2) := ⟨decR_num _ _ _ _ _ _ _ hd⟩
  have hq : ∀ w, (binOp .eql 24 (.agg #[.int .i64 p, .int .i64 r, .int .u64 t]) (.agg #[.int .i64 p, .int .i64 r, .int .u64 t])).run Tryd.prog w = .ok (.bool true) w := fun w => eql_meta p r t p r t true (by simp) w
  obtain ⟨ev, hev⟩ : ∃ ev, errV B n = ev := ⟨_, rfl⟩
  have HV : Hd (errV B n = ev) := ⟨hev⟩
  clear hnI hc hl hxr hd hE hs hr hev
  go_enter Tryd.func5, Tryd.ntmps5
  go_upto_region 2 with (first
    | (go_at_call 24; refine (lentF HN.out.1 (HE.out.2.2.below (below_alloc (Below.refl _ _) _)) HN.out.2.1 HN.out.2.2).mono ?_; rintro e W1 ⟨ad, m, c1, rfl, HO, hb⟩; have k0 := box_cell hb 0 _ rfl; have k1 := box_cell hb 1 _ rfl; have k2 := box_cell hb 2 _ rfl; have H1 : Hd (Below w.heap.size w W1) := ⟨box_below hb⟩; clear hb)
    | fail)
  have HK : Hd (W1.cell? ⟨w.heap.size, 0, none⟩ = some (.slice A nI c) ∧ W1.cell? ⟨w.heap.size, 1, none⟩ = some (.int .i64 pages) ∧ W1.cell? ⟨w.heap.size, 2, none⟩ = some (.int .i64 slot)) := ⟨k0, k1, k2⟩
  have hle0 : (0 : Int) ≤ (nI : Int) := Int.natCast_nonneg _
  have hle1 : (nI : Int) ≤ (c1 : Int) := by have := HO.out; omega
  clear k0 k1 k2
  go_cut [4, 5] from 11 to 24 (fun s4 s5 wx => ∃ g, s4 = .pointer (some ⟨g, 0, none⟩) ∧ s5 = ev ∧ Hd (Below W1.heap.size W1 wx ∧ wx.heap[g]? = some (.cells #[.int .i64 p, .int .i64 r, .int .u64 t] 24 (0, 0))))
  case first =>
    go_region_held3 (fun w' => w'.cell? ⟨w.heap.size, 0, none⟩ = some (.slice A nI c) ∧ w'.cell? ⟨w.heap.size, 1, none⟩ = some (.int .i64 pages) ∧ w'.cell? ⟨w.heap.size, 2, none⟩ = some (.int .i64 slot) ∧ Hd (Below W1.heap.size W1 w'))
      (first
        | exact mkS HK.out (below_drewN (Below.refl _ _) 1)
        | exact mkS HK.out (below_step (getS (by assumption)) (by assumption))
        | exact mkS HK.out (below_alloc (getS (by assumption)) _)
        | exact mkS HK.out (below_alloc (below_undrew hb) _)
        | exact mkS HK.out (below_meta (getS (by assumption)) (Nat.le_refl _) _ _ _)
        | exact mkS HK.out (below_meta (getS (by assumption)) (getS (by assumption)).size _ _ _))
      (first
        | (go_at_call 25; refine (decode_calls (B := B) (some ad) _ nI xs HN.out.1 pages slot p r t n HD.out _ ?hE ?hs ?hr HG.out).mono ?_; (case hE => exact (HE.out.1.below H1.out).below (getS (by assumption))); (case hs => exact (HE.out.2.1.below H1.out).below (getS (by assumption))); (case hr => exact (RdB_left HO.out.2.2).below (getS (by assumption))); rw [HV.out]; rintro e W2 ⟨rfl, hb⟩; (try have z0 := box_cell (below_undrew hb) 0 _ rfl); (try have z1 := box_cell (below_undrew hb) 1 _ rfl); (try have z2 := box_cell (below_undrew hb) 2 _ rfl); (try have zf := Joins.unfrozen_of_block (box_row (below_undrew hb))); (try have zr : Hd _ := ⟨box_row (below_undrew hb)⟩)))
    all_goals
      rename_i hH
      have hbl := getS hH
      (try go_wp2_with fail)
      go_meet
      exact ⟨_, rfl, rfl, ⟨hbl, by first | exact metaRow zr.out _ _ _ | exact row_alloc_at _ _ _ rfl⟩⟩
  case rest =>
    obtain ⟨g, hs4, hs5, HC⟩ := hcut
    subst hs4
    subst hs5
    obtain ⟨k0, k1, k2, -⟩ := mkS HK.out HC.out.1
    go_wp2_with (first
      | (go_at_call 26; refine (rdecode_calls A c nI xs HN.out.1 HN.out.2.1 pages slot p r t n HD.out _ (HE.out.2.2.below (below_step H1.out HC.out.1)) HG.out).mono ?_; rintro e W3 ⟨rfl, hb⟩; have H3 : Hd (Below W1.heap.size W1 W3) := ⟨below_step HC.out.1 hb⟩; have HJ : Hd (Below w.heap.size w W3) := ⟨below_step H1.out H3.out⟩; have j0 := (Joins.cell_of_block (below_row hb HC.out.2) 0).trans (show _ = some (Value.int .i64 p) from rfl); have j1 := (Joins.cell_of_block (below_row hb HC.out.2) 1).trans (show _ = some (Value.int .i64 r) from rfl); have j2 := (Joins.cell_of_block (below_row hb HC.out.2) 2).trans (show _ = some (Value.int .u64 t) from rfl); have l0 := below_cell hb k0; have j0a := fun o => below_cell (below_alloc (Below.refl _ W3) o) j0; have j1a := fun o => below_cell (below_alloc (Below.refl _ W3) o) j1; have j2a := fun o => below_cell (below_alloc (Below.refl _ W3) o) j2; have l0a := fun o => below_cell (below_alloc (Below.refl _ W3) o) l0; clear hb k0 k1 k2)
      | (go_at_call 19; refine (num_errX n _ HV.out HNn.out _ (HE.out.1.below (below_alloc HJ.out _))).mono ?_; rintro e W4 ⟨rfl, rfl⟩)
      | (go_at_call 27; refine (returned_calls (some ad) c1 m A c nI xs (by have h1 := HO.out.1; have h2 := HN.out.1; omega) HN.out.1 _ (HO.out.2.2.below (below_alloc H3.out _)) HO.out.2.1 (HE.out.2.2.below (below_alloc HJ.out _)) HN.out.2.1 HN.out.2.2).mono ?_; rintro e W5 ⟨rfl, hb⟩; have H5 : Hd (Below w.heap.size w W5) := ⟨below_step (below_alloc HJ.out _) hb⟩; clear hb)
      | fail)
    go_ret
    exact ⟨rfl, H5.out⟩
end Go.Proofs.YtoenacghkpgnpaaDoor.LMetaDecodes
