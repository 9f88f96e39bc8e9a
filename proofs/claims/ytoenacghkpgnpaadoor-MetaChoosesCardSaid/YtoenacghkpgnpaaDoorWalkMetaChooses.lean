/- The walk of MetaChooses: both Chooses answer the same, and what was lent is as it was. -/
import Derived.Test.YtoenacghkpgnpaaDoorChooseV
import Derived.Test.YtoenacghkpgnpaaDoorWalkMetaDecodes
namespace Go.Proofs.YtoenacghkpgnpaaDoor.LMetaChooses
open Go.RowKit Go.Proofs.YtoenacghkpgnpaaDoor.K Go.Proofs.YtoenacghkpgnpaaDoor.E Go.Proofs.YtoenacghkpgnpaaDoor.P1 Go.Proofs.YtoenacghkpgnpaaDoor.Codec Go.Proofs.YtoenacghkpgnpaaDoor.Meta Go.Proofs.YtoenacghkpgnpaaDoor.Q Go.Proofs.YtoenacghkpgnpaaDoor.S Go.Proofs.YtoenacghkpgnpaaDoor.D
open Go.Proofs.YtoenacghkpgnpaaDoor.LMetaDecodes (lentF mkS getS RdB_left)

theorem num_errY {B : Nat → Addr} (n : Int) (ev : Value) (hv : errV B n = ev) (hn : n = 0 ∨ n = 1 ∨ n = 2 ∨ n = 9) (w : World) (hE : Errs errG B w) : Calls Tryd.prog 19 #[ev] w fun e w' => e = .returned (.int .i64 n) ∧ w = w' :=
  hv ▸ num_errV n hn w hE

set_option maxRecDepth 100000 in
set_option maxHeartbeats 1000000 in
theorem walk {B : Nat → Addr} (A0 A1 : Option Addr) (m0 c0 m1 c1 : Nat) (xs ys : List Int) (h0 : m0 = xs.length) (h1 : m1 = ys.length) (hc0 : m0 ≤ c0) (hc1 : m1 ≤ c1) (hl0 : xs.length ≤ 140737488351232) (hl1 : ys.length ≤ 140737488351232)
    (hxr : ∀ x, x ∈ xs → 0 ≤ x ∧ x ≤ 255) (hyr : ∀ x, x ∈ ys → 0 ≤ x ∧ x ≤ 255) (pages p r t n : Int) (hd : chR xs ys pages = (p, r, t, n))
    (w : World) (hE : Errs errG B w) (hs : TabOk w) (hr0 : RdB w A0 xs) (hr1 : RdB w A1 ys) :
    Calls Tryd.prog 12 #[.agg #[.slice A0 m0 c0, .slice A1 m1 c1, .int .i64 pages]] w fun e w' => e = .returned (.bool true) ∧ Below w.heap.size w w' := by
  have HN : Hd (m0 = xs.length ∧ m0 ≤ c0 ∧ xs.length ≤ 140737488351232) := ⟨h0, hc0, hl0⟩
  have HN1 : Hd (m1 = ys.length ∧ m1 ≤ c1 ∧ ys.length ≤ 140737488351232) := ⟨h1, hc1, hl1⟩
  have HG : Hd ((∀ x, x ∈ xs → 0 ≤ x ∧ x ≤ 255) ∧ ∀ x, x ∈ ys → 0 ≤ x ∧ x ≤ 255) := ⟨hxr, hyr⟩
  have HD : Hd (chR xs ys pages = (p, r, t, n)) := ⟨hd⟩
  have HE : Hd (Errs errG B w ∧ TabOk w ∧ RdB w A0 xs ∧ RdB w A1 ys) := ⟨hE, hs, hr0, hr1⟩
  have HNn : Hd (n = 0 ∨ n = 1 ∨ n = 2 ∨ n = 9) := ⟨chR_num _ _ _ _ _ _ _ hd⟩
  have hq : ∀ w, (binOp .eql 24 (.agg #[.int .i64 p, .int .i64 r, .int .u64 t]) (.agg #[.int .i64 p, .int .i64 r, .int .u64 t])).run Tryd.prog w = .ok (.bool true) w := fun w => eql_meta p r t p r t true (by simp) w
  obtain ⟨ev, hev⟩ : ∃ ev, errV B n = ev := ⟨_, rfl⟩
  have HV : Hd (errV B n = ev) := ⟨hev⟩
  clear h0 h1 hc0 hc1 hl0 hl1 hxr hyr hd hE hs hr0 hr1 hev
  go_enter Tryd.func12, Tryd.ntmps12
  go_upto_region 3 with (first
    | (go_at_call_of 24 (Value.slice A0 m0 c0); refine (lentF HN.out.1 (HE.out.2.2.1.below (below_alloc (Below.refl _ _) _)) HN.out.2.1 HN.out.2.2).mono ?_; rintro e W0 ⟨ad0, l0, d0, rfl, HO0, hb⟩; have k0 := box_cell hb 0 _ rfl; have k1 := box_cell hb 1 _ rfl; have k2 := box_cell hb 2 _ rfl; have H0 : Hd (Below w.heap.size w W0) := ⟨box_below hb⟩; clear hb)
    | (go_at_call_of 24 (Value.slice A1 m1 c1); refine (lentF HN1.out.1 (HE.out.2.2.2.below H0.out) HN1.out.2.1 HN1.out.2.2).mono ?_; rintro e W1 ⟨ad1, l1, d1, rfl, HO1, hb⟩; have HK : Hd (W1.cell? ⟨w.heap.size, 0, none⟩ = some (.slice A0 m0 c0) ∧ W1.cell? ⟨w.heap.size, 1, none⟩ = some (.slice A1 m1 c1) ∧ W1.cell? ⟨w.heap.size, 2, none⟩ = some (.int .i64 pages)) := ⟨below_cell hb k0, below_cell hb k1, below_cell hb k2⟩; have H1 : Hd (Below w.heap.size w W1 ∧ RdB W1 (some ad0) (xs ++ [77, 77, 77, 77])) := ⟨below_step H0.out hb, HO0.out.2.2.below hb⟩; clear hb k0 k1 k2)
    | fail)
  have hle0 : (0 : Int) ≤ (m0 : Int) := Int.natCast_nonneg _
  have hle1 : (m0 : Int) ≤ (d0 : Int) := by have := HO0.out; omega
  have hle2 : (0 : Int) ≤ (m1 : Int) := Int.natCast_nonneg _
  have hle3 : (m1 : Int) ≤ (d1 : Int) := by have := HO1.out; omega
  go_cut [5, 6] from 15 to 31 (fun s5 s6 wx => ∃ g, s5 = .pointer (some ⟨g, 0, none⟩) ∧ s6 = ev ∧ Hd (Below W1.heap.size W1 wx ∧ wx.heap[g]? = some (.cells #[.int .i64 p, .int .i64 r, .int .u64 t] 24 (0, 0))))
  case first =>
    go_region_held3 (fun w' => w'.cell? ⟨w.heap.size, 0, none⟩ = some (.slice A0 m0 c0) ∧ w'.cell? ⟨w.heap.size, 1, none⟩ = some (.slice A1 m1 c1) ∧ w'.cell? ⟨w.heap.size, 2, none⟩ = some (.int .i64 pages) ∧ Hd (Below W1.heap.size W1 w'))
      (first
        | exact mkS HK.out (below_drewN (Below.refl _ _) 1)
        | exact mkS HK.out (below_step (getS (by assumption)) (by assumption))
        | exact mkS HK.out (below_alloc (getS (by assumption)) _)
        | exact mkS HK.out (below_alloc (below_undrew hb) _)
        | exact mkS HK.out (below_meta (getS (by assumption)) (Nat.le_refl _) _ _ _)
        | exact mkS HK.out (below_meta (getS (by assumption)) (getS (by assumption)).size _ _ _))
      (first
        | (go_at_call 35; refine (choose_calls (B := B) (some ad0) (some ad1) m0 _ m1 _ xs ys HN.out.1 HN1.out.1 pages p r t n HD.out HG.out.1 HG.out.2 _ ?hE ?hs ?hr ?hq).mono ?_; (case hE => exact (HE.out.1.below H1.out.1).below (getS (by assumption))); (case hs => exact (HE.out.2.1.below H1.out.1).below (getS (by assumption))); (case hr => exact (RdB_left H1.out.2).below (getS (by assumption))); (case hq => exact (RdB_left HO1.out.2.2).below (getS (by assumption))); rw [HV.out]; rintro e W2 ⟨rfl, hb⟩; (try have z0 := box_cell (below_undrew hb) 0 _ rfl); (try have z1 := box_cell (below_undrew hb) 1 _ rfl); (try have z2 := box_cell (below_undrew hb) 2 _ rfl); (try have zf := Joins.unfrozen_of_block (box_row (below_undrew hb))); (try have zr : Hd _ := ⟨box_row (below_undrew hb)⟩)))
    all_goals
      rename_i hH
      have hbl := getS hH
      (try go_wp2_with fail)
      go_meet
      exact ⟨_, rfl, rfl, ⟨hbl, by first | exact metaRow zr.out _ _ _ | exact row_alloc_at _ _ _ rfl⟩⟩
  case rest =>
    obtain ⟨g, hs4, hs5, HC⟩ := hcut
    subst hs4
    subst hs5
    obtain ⟨k0, k1, k2, -⟩ := mkS HK.out HC.out.1
    go_wp2_with (first
      | (go_at_call 36; refine (rchoose_calls A0 A1 m0 c0 m1 c1 xs ys HN.out.1 HN1.out.1 HN.out.2.1 HN1.out.2.1 pages p r t n HD.out HG.out.1 HG.out.2 _ (HE.out.2.2.1.below (below_step H1.out.1 HC.out.1)) (HE.out.2.2.2.below (below_step H1.out.1 HC.out.1))).mono ?_; rintro e W3 ⟨rfl, hb⟩; have H3 : Hd (Below W1.heap.size W1 W3) := ⟨below_step HC.out.1 hb⟩; have HJ : Hd (Below w.heap.size w W3) := ⟨below_step H1.out.1 H3.out⟩; have j0 := fun o => below_cell (below_alloc (Below.refl _ W3) o) ((Joins.cell_of_block (below_row hb HC.out.2) 0).trans (show _ = some (Value.int .i64 p) from rfl)); have j1 := fun o => below_cell (below_alloc (Below.refl _ W3) o) ((Joins.cell_of_block (below_row hb HC.out.2) 1).trans (show _ = some (Value.int .i64 r) from rfl)); have j2 := fun o => below_cell (below_alloc (Below.refl _ W3) o) ((Joins.cell_of_block (below_row hb HC.out.2) 2).trans (show _ = some (Value.int .u64 t) from rfl)); have x0 := fun o => below_cell (below_alloc (Below.refl _ W3) o) (below_cell hb k0); have x1 := below_cell (below_alloc (Below.refl _ W3) (.cells #[.int .i64 p, .int .i64 r, .int .u64 t] 24)) (below_cell hb k1); have HX1 : Hd _ := ⟨x1⟩; clear hb k0 k1 k2 x1)
      | (go_at_call 19; refine (num_errY n _ HV.out HNn.out _ (HE.out.1.below (below_alloc HJ.out _))).mono ?_; rintro e W4 ⟨rfl, rfl⟩)
      | (go_at_call_of 27 (Value.slice A0 m0 c0); refine (returned_calls (some ad0) d0 l0 A0 c0 m0 xs (by have h1 := HO0.out.1; have h2 := HN.out.1; omega) HN.out.1 _ (H1.out.2.below (below_alloc H3.out _)) HO0.out.2.1 (HE.out.2.2.1.below (below_alloc HJ.out _)) HN.out.2.1 HN.out.2.2).mono ?_; rintro e W5 ⟨rfl, hb⟩; have H5 : Hd (Below w.heap.size w W5 ∧ Below W1.heap.size W1 W5) := ⟨below_step (below_alloc HJ.out _) hb, below_step (below_alloc H3.out _) hb⟩; have x1 := below_cell hb HX1.out; clear hb)
      | (go_at_call_of 27 (Value.slice A1 m1 c1); refine (returned_calls (some ad1) d1 l1 A1 c1 m1 ys (by have h1 := HO1.out.1; have h2 := HN1.out.1; omega) HN1.out.1 _ (HO1.out.2.2.below H5.out.2) HO1.out.2.1 (HE.out.2.2.2.below H5.out.1) HN1.out.2.1 HN1.out.2.2).mono ?_; rintro e W6 ⟨rfl, hb⟩; have H6 : Hd (Below w.heap.size w W6) := ⟨below_step H5.out.1 hb⟩; clear hb)
      | fail)
    go_ret
    exact ⟨rfl, H6.out⟩
end Go.Proofs.YtoenacghkpgnpaaDoor.LMetaChooses
