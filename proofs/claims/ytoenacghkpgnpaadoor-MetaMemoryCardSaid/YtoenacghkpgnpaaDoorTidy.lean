/- tidy: a meta that may be, out of any; its bytes are read back. -/
import Derived.Test.YtoenacghkpgnpaaDoorWalkMetaDecodes
namespace Go.Proofs.YtoenacghkpgnpaaDoor.D
open Go.RowKit Go.Proofs.YtoenacghkpgnpaaDoor.K Go.Proofs.YtoenacghkpgnpaaDoor.E Go.Proofs.YtoenacghkpgnpaaDoor.P1 Go.Proofs.YtoenacghkpgnpaaDoor.Codec Go.Proofs.YtoenacghkpgnpaaDoor.Meta Go.Proofs.YtoenacghkpgnpaaDoor.Q Go.Proofs.YtoenacghkpgnpaaDoor.S
open Go.Proofs.YtoenacghkpgnpaaDoor.LMetaDecodes (mkS getS)

theorem pick_calls (a k : Int) (hk : 1 ≤ k) (hk2 : k ≤ 4611686018427387904) (w : World) : Calls Tryd.prog 34 #[.int .i64 a, .int .i64 k] w fun e w' => ∃ r, e = .returned (.int .i64 r) ∧ (0 ≤ r ∧ r < k) ∧ Below w.heap.size w w' := by
  have h1 := Int.tmod_lt_of_pos a (show 0 < k by omega)
  have h2 : -k < Int.tmod a k := by
    rcases Int.le_total 0 a with h | h
    · rw [Int.tmod_eq_emod_of_nonneg h]; have := Int.emod_nonneg a (show k ≠ 0 by omega); omega
    · have h3 := Int.tmod_lt_of_pos (-a) (show 0 < k by omega)
      rw [Int.neg_tmod] at h3; omega
  by_cases h : Int.tmod a k < 0
  · refine (Ref.copsekit_Pick.calls a k (Int.tmod a k + k) w ?_).mono fun e w' ⟨he, hd⟩ => ⟨_, he, ⟨by omega, by omega⟩, below_drawn hd.out⟩
    unfold Ref.copsekit_Pick.f
    rw [if_neg (by omega), if_neg (by omega), if_pos h]
    refine congrArg some ?_
    unfold wrap64; omega
  · refine (Ref.copsekit_Pick.calls a k (Int.tmod a k) w ?_).mono fun e w' ⟨he, hd⟩ => ⟨_, he, ⟨by omega, by omega⟩, below_drawn hd.out⟩
    unfold Ref.copsekit_Pick.f
    rw [if_neg (by omega), if_neg (by omega), if_neg h]

set_option maxRecDepth 100000 in
set_option maxHeartbeats 1000000 in
theorem tidy_calls (P R T : Int) (w : World) : Calls Tryd.prog 33 #[.agg #[.int .i64 P, .int .i64 R, .int .u64 T]] w fun e w' => ∃ p r, e = .returned (.agg #[.int .i64 p, .int .i64 r, .int .u64 T]) ∧ Hd (MayM p r) ∧ Below w.heap.size w w' := by
  go_enter Tryd.func33, Tryd.ntmps33
  go_upto_region 1 with (fail)
  obtain ⟨W0, hW0⟩ : ∃ W0, (w.alloc (.cells #[.int .i64 P, .int .i64 R, .int .u64 T] 24)).alloc (.cells #[.int .i64 0, .int .i64 0, .int .u64 0] 24) = W0 := ⟨_, rfl⟩
  have hb1 : Below (w.alloc (.cells #[.int .i64 P, .int .i64 R, .int .u64 T] 24)).heap.size (w.alloc (.cells #[.int .i64 P, .int .i64 R, .int .u64 T] 24)) W0 := hW0 ▸ below_alloc (Below.refl _ _) _
  have HK : Hd (W0.cell? ⟨w.heap.size, 0, none⟩ = some (.int .i64 P) ∧ W0.cell? ⟨w.heap.size, 1, none⟩ = some (.int .i64 R) ∧ W0.cell? ⟨w.heap.size, 2, none⟩ = some (.int .u64 T)) := ⟨box_cell hb1 0 _ rfl, box_cell hb1 1 _ rfl, box_cell hb1 2 _ rfl⟩
  have H0 : Hd (Below w.heap.size w W0 ∧ W0.heap[w.heap.size + 1]? = some (.cells #[.int .i64 0, .int .i64 0, .int .u64 0] 24 (0, 0))) := ⟨box_below hb1, hW0 ▸ row_alloc_at _ _ _ (by simp)⟩
  rw [hW0]
  clear hW0 hb1
  go_cut [3] from 4 to 11 (fun s3 wx => ∃ g pp, s3 = .pointer (some ⟨g, 0, none⟩) ∧ Hd (4 ≤ pp ∧ pp ≤ 1048576 ∧ W0.heap.size ≤ g ∧ Below W0.heap.size W0 wx ∧ wx.heap[g]? = some (.cells #[.int .i64 pp, .int .i64 0, .int .u64 T] 24 (0, 0))))
  case first =>
    go_region_held3 (fun w' => w'.cell? ⟨w.heap.size, 0, none⟩ = some (.int .i64 P) ∧ w'.cell? ⟨w.heap.size, 1, none⟩ = some (.int .i64 R) ∧ w'.cell? ⟨w.heap.size, 2, none⟩ = some (.int .u64 T) ∧ Hd (Below W0.heap.size W0 w'))
      (first
        | exact mkS HK.out (below_drewN (Below.refl _ _) 1)
        | exact mkS HK.out (below_step (getS (by assumption)) (by assumption))
        | exact mkS HK.out (below_alloc (getS (by assumption)) _)
        | exact mkS HK.out (below_alloc (below_undrew hb) _)
        | exact mkS HK.out (below_meta (getS (by assumption)) (Nat.le_refl _) _ _ _)
        | exact mkS HK.out (below_meta (getS (by assumption)) (getS (by assumption)).size _ _ _))
      (first
        | (go_at_call 34; refine (pick_calls _ _ (by decide) (by decide) _).mono ?_; rintro e W2 ⟨r, rfl, hr, hb⟩; have hr0 := hr.1; have hr1 := hr.2; have HR : Hd (0 ≤ r ∧ r < 1048573) := ⟨hr⟩; (try have z0 := box_cell (below_undrew hb) 0 _ rfl); (try have z1 := box_cell (below_undrew hb) 1 _ rfl); (try have z2 := box_cell (below_undrew hb) 2 _ rfl); (try have zf := Joins.unfrozen_of_block (box_row (below_undrew hb))); (try have zr : Hd _ := ⟨box_row (below_undrew hb)⟩); clear hr))
    all_goals
      rename_i hH
      have hbl := getS hH
      have hw : IntKind.i64.wrap (4 + r) = 4 + r := IntWalk.i64_in _ (by have := HR.out; omega)
      (try go_wp2_with fail)
      go_meet
      exact ⟨_, IntKind.i64.wrap (4 + r), rfl, ⟨by rw [hw]; have := HR.out; omega, by rw [hw]; have := HR.out; omega, by first | exact Nat.le_refl _ | exact (below_undrew hb).size, hbl, by first | exact metaRow zr.out _ _ _ | exact row_alloc_at _ _ _ rfl⟩⟩
  case rest =>
    obtain ⟨g, pp, hs3, HC⟩ := hcut
    subst hs3
    obtain ⟨k0, k1, k2, -⟩ := mkS HK.out HC.out.2.2.2.1
    clear k0 k2
    have hp0 := HC.out.1
    have hp1 := HC.out.2.1
    have hlt := (Array.getElem?_eq_some_iff.1 H0.out.2).1
    have hne1 : g ≠ w.heap.size + 1 := by have := HC.out.2.2.1; omega
    have hne2 : w.heap.size + 1 ≠ g := by have := HC.out.2.2.1; omega
    have H2 : Hd (wc.heap[w.heap.size + 1]? = some (.cells #[.int .i64 0, .int .i64 0, .int .u64 0] 24 (0, 0))) := ⟨below_row HC.out.2.2.2.1 H0.out.2⟩
    clear hlt
    by_cases hR : R = 0
    · subst hR
      have j0 := (Joins.cell_of_block HC.out.2.2.2.2 0).trans (show _ = some (Value.int .i64 pp) from rfl)
      have j1 := (Joins.cell_of_block HC.out.2.2.2.2 1).trans (show _ = some (Value.int .i64 0) from rfl)
      have j2 := (Joins.cell_of_block HC.out.2.2.2.2 2).trans (show _ = some (Value.int .u64 T) from rfl)
      have z0 := (Joins.cell_of_block H2.out 0).trans (show _ = some (Value.int .i64 0) from rfl)
      have z1 := (Joins.cell_of_block H2.out 1).trans (show _ = some (Value.int .i64 0) from rfl)
      have z2 := (Joins.cell_of_block H2.out 2).trans (show _ = some (Value.int .u64 0) from rfl)
      have zf := Joins.unfrozen_of_block H2.out
      go_wp2
      refine bodyPost_ret (v := .agg #[.int .i64 pp, .int .i64 0, .int .u64 T]) (results_cell_row rfl _ _ (w.heap.size + 1) 24 _ (0, 0) _ rfl (metaRow H2.out _ _ _) Tryd.underlying24 rfl metaSize) rfl ⟨pp, 0, rfl, ⟨by unfold MayM; omega⟩, ?_⟩
      exact below_meta (below_step H0.out.1 HC.out.2.2.2.1) (Nat.le_succ _) _ _ _
    · have hRb : (R != 0) = true := by simp [hR]
      have j0 := (Joins.cell_of_block HC.out.2.2.2.2 0).trans (show _ = some (Value.int .i64 pp) from rfl)
      go_wp2_with (first
        | (go_at_call 34; refine (pick_calls _ _ (by omega) (by omega) _).mono ?_; rintro e W3 ⟨r, rfl, hr, hb⟩; have hr0 := hr.1; have hr1 := hr.2; have H3 : Hd (Below W0.heap.size W0 W3 ∧ W3.heap[g]? = some (.cells #[.int .i64 pp, .int .i64 0, .int .u64 T] 24 (0, 0)) ∧ W3.heap[w.heap.size + 1]? = some (.cells #[.int .i64 0, .int .i64 0, .int .u64 0] 24 (0, 0))) := ⟨below_step HC.out.2.2.2.1 hb, below_row hb HC.out.2.2.2.2, below_row hb H2.out⟩; have j0' := (Joins.cell_of_block H3.out.2.1 0).trans (show _ = some (Value.int .i64 pp) from rfl); have j1' := (Joins.cell_of_block H3.out.2.1 1).trans (show _ = some (Value.int .i64 0) from rfl); have j2' := (Joins.cell_of_block H3.out.2.1 2).trans (show _ = some (Value.int .u64 T) from rfl); have jf := Joins.unfrozen_of_block H3.out.2.1; have z0 := (Joins.cell_of_block H3.out.2.2 0).trans (show _ = some (Value.int .i64 0) from rfl); have z1 := (Joins.cell_of_block H3.out.2.2 1).trans (show _ = some (Value.int .i64 0) from rfl); have z2 := (Joins.cell_of_block H3.out.2.2 2).trans (show _ = some (Value.int .u64 0) from rfl); have zf := Joins.unfrozen_of_block H3.out.2.2; clear hr hb j0 k1)
        | fail)
      refine bodyPost_ret (v := .agg #[.int .i64 pp, .int .i64 (2 + r), .int .u64 T]) (results_cell_row rfl _ _ (w.heap.size + 1) 24 _ (0, 0) _ rfl (metaRow (below_row (below_set H3.out.1 HC.out.2.2.1 _) H0.out.2) _ _ _) Tryd.underlying24 rfl metaSize) rfl ⟨pp, 2 + r, rfl, ⟨by unfold MayM; omega⟩, ?_⟩
      exact below_meta (below_step H0.out.1 (below_set H3.out.1 HC.out.2.2.1 _)) (Nat.le_succ _) _ _ _
end Go.Proofs.YtoenacghkpgnpaaDoor.D
