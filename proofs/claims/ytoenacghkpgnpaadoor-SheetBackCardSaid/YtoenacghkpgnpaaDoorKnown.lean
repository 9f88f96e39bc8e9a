/- The chapter's first page is sealed and read. -/
import Derived.Test.YtoenacghkpgnpaaDoorSheetB
import Derived.Deep.CutBlock
import Derived.Deep.CutRange
namespace Go.Proofs.YtoenacghkpgnpaaDoor.Sh
open Go.RowKit Go.Proofs.YtoenacghkpgnpaaDoor.K Go.Proofs.YtoenacghkpgnpaaDoor.E Go.Proofs.YtoenacghkpgnpaaDoor.P1 Go.Proofs.YtoenacghkpgnpaaDoor.Codec Go.Proofs.YtoenacghkpgnpaaDoor.D Go.Proofs.YtoenacghkpgnpaaDoor.S Go.Proofs.YtoenacghkpgnpaaDoor.R5

def bd0 : ByteArray := strOfNums (zs 4072)
theorem bd0_size : bd0.size = 4072 := by unfold bd0; rw [strOfNums_size, zs_length]
theorem may0 : MayS 76 1 2 bd0.size := by rw [bd0_size]; decide
theorem pg0 (i : Nat) (y : Int) (hi : i < 16) (h : (Sh.h4 76 1 2 5)[i]? = some y) : (pg 76 1 2 5 (sb bd0))[i]? = some y := by
  rw [pg_lit _ _ _ _ _ (by rw [sb_length, bd0_size]), plit, List.getElem?_append_left (by rw [h4_length]; exact hi)]
  exact h
theorem pg0_at {W : World} {g : Nat} (hr : W.heap[g]? = some (.cells (u8s (pg 76 1 2 5 (sb bd0))) 5 (0, 0))) (i : Nat) (y : Int) (hi : i < 16) (h : (Sh.h4 76 1 2 5)[i]? = some y) : W.cell? ⟨g, i, none⟩ = some (.int .u8 y) := by
  rw [cell_of_row W g i _ _ _ hr, u8s_get, pg0 i y hi h]; rfl
theorem zs_snoc (n : Nat) : zs n ++ [0] = zs (n + 1) := by
  simp [zs, List.replicate_succ']

set_option maxRecDepth 100000 in
set_option maxHeartbeats 1000000 in
theorem known_calls {B : Nat → Addr} (w : World) (hE : Errs errG B w) (hs : TabOk w) (hh : HeadOk w) : Calls Tryd.prog 31 #[] w fun e w' => e = .returned (.bool true) ∧ Below w.heap.size w w' := by
  have HE : Hd (Errs errG B w ∧ TabOk w ∧ HeadOk w) := ⟨hE, hs, hh⟩
  have qn := eql_nil_nil
  have qn' := neq_nil_nil
  clear hE hs hh
  go_enter Tryd.func31, Tryd.ntmps31
  go_upto_block 0 with (fail)
  go_cut [1] from 8 to 14 (fun s1 wx => ∃ (A : Option Addr) (c : Nat), s1 = .slice A 4072 c ∧ Hd (Below w.heap.size w wx ∧ RdB wx A (zs 4072)))
  case first =>
    go_wp2_with (fail)
    go_loopw [1, 2] (fun v i wx => ∃ j : Nat, j ≤ 4072 ∧ i = .int .i64 j ∧ Hd (Below w.heap.size w wx ∧ OwnB wx w.heap.size v (zs j))) (fun _ i _ => 4072 - (intOf i).toNat)
    case atStart => exact ⟨0, by omega, rfl, ⟨Below.refl _ _, OwnB.nil _ _⟩⟩
    case round =>
      obtain ⟨j, hj, rfl, HJ⟩ := hrel
      by_cases hlt : (j : Int) < 4072
      · go_wp2_with (first
          | ((with_reducible refine gD (N := 14) rfl ?_); refine wpList_ap rfl (.tmp 12) (.tmp 13) rfl w.heap.size (zs j) [0] u1 rfl (Ap.alloc (.inl HJ.out.2) _) (by rw [World.size_alloc]; exact Nat.le_succ_of_le HJ.out.1.size) _ _ _ rfl rfl (by decide) (one_reads _ _ _) (by rw [zs_length]; omega) ?_; intro v2 w2 ho ht _; have HN : Hd (Below w.heap.size w w2 ∧ OwnB w2 w.heap.size v2 (zs (j + 1))) := ⟨below_tch (below_alloc HJ.out.1 _) ht (fun i hi => hi.2), by rw [← zs_snoc]; exact ho.out⟩; clear ho ht)
          | fail)
        go_roundw
        case rel => exact ⟨j + 1, by omega, by go_num, HN⟩
        case measure => simp [intOf]; omega
      · obtain rfl : j = 4072 := by omega
        obtain ⟨A, c, hv, -, hr⟩ := HJ.out.2.form
        have HR : Hd (RdB wr A (zs 4072)) := ⟨hr⟩
        rw [zs_length] at hv
        subst hv
        clear hr
        go_wp2
        go_meet
        exact ⟨A, c, rfl, ⟨HJ.out.1, HR.out⟩⟩
  case rest =>
    obtain ⟨A, c, hs1, HA⟩ := hcut
    subst hs1
    obtain ⟨b0, hb0⟩ : ∃ b0, bd0 = b0 := ⟨_, rfl⟩
    have HB0 : Hd (bd0 = b0) := ⟨hb0⟩
    have hcv : (convert 25 9 (.slice A 4072 c)).run Tryd.prog wc = .ok (.string b0) wc := by
      rw [← hb0]; exact conv_bs HA.out.2 4072 c (zs_length 4072).symm
    clear hb0
    go_upto_region 7 with (fail)
    have H1 : Hd (Below w.heap.size w (wc.alloc (.cells #[.int .i64 76, .int .i64 2, .int .u64 5, .int .i64 1, .string b0] 37)) ∧ (wc.alloc (.cells #[.int .i64 76, .int .i64 2, .int .u64 5, .int .i64 1, .string b0] 37)).heap[wc.heap.size]? = some (.cells #[.int .i64 76, .int .i64 2, .int .u64 5, .int .i64 1, .string b0] 37 (0, 0))) := ⟨below_alloc HA.out.1 _, row_alloc_at _ _ _ rfl⟩
    obtain ⟨W1, hW1⟩ : ∃ W1, wc.alloc (.cells #[.int .i64 76, .int .i64 2, .int .u64 5, .int .i64 1, .string b0] 37) = W1 := ⟨_, rfl⟩
    rw [hW1] at H1 ⊢
    clear hW1 hcv
    obtain ⟨j0, j1, j2, j3, j4⟩ := bx5 H1.out.2
    have HM : Hd (MayS 76 1 2 b0.size ∧ rdS (pg 76 1 2 5 (sb b0)) 2 = (76, 2, 5, 1, b0, 0) ∧ (pg 76 1 2 5 (sb b0)).length = 4096 ∧ ∀ x, x ∈ pg 76 1 2 5 (sb b0) → 0 ≤ x ∧ x ≤ 255) := ⟨by
      rw [← HB0.out]
      exact ⟨may0, rdS_back may0 (by decide) (by decide), pg_length _ _ _ _ _ (by rw [sb_length, bd0_size]), pg_range _ _ _ _ _ (by rw [sb_length, bd0_size]) (sb_range _)⟩⟩
    go_upto_region 8 with (first
      | (go_at_call 22; refine (seal_ok 76 2 5 1 b0 _ (HE.out.2.1.below H1.out.1) (HE.out.2.2.below H1.out.1) HM.out.1 (by decide) (by decide)).mono ?_; rintro e W2 ⟨g, rfl, -, hrow, hb⟩; have H2 : Hd ((Below w.heap.size w W2 ∧ W2.heap[wc.heap.size]? = some (.cells #[.int .i64 76, .int .i64 2, .int .u64 5, .int .i64 1, .string b0] 37 (0, 0))) ∧ W2.heap[g]? = some (.cells (u8s (pg 76 1 2 5 (sb b0))) 5 (0, 0))) := ⟨⟨below_step H1.out.1 hb, below_row hb H1.out.2⟩, hrow⟩; clear hrow hb j0 j1 j2 j3 j4)
      | fail)
    have k0 : W2.cell? ⟨g, 0, none⟩ = some (.int .u8 76) := pg0_at (by rw [HB0.out]; exact H2.out.2) 0 76 (by decide) rfl
    have k3 : W2.cell? ⟨g, 3, none⟩ = some (.int .u8 1) := pg0_at (by rw [HB0.out]; exact H2.out.2) 3 1 (by decide) rfl
    have k7 : W2.cell? ⟨g, 7, none⟩ = some (.int .u8 2) := pg0_at (by rw [HB0.out]; exact H2.out.2) 7 2 (by decide) rfl
    have k15 : W2.cell? ⟨g, 15, none⟩ = some (.int .u8 5) := pg0_at (by rw [HB0.out]; exact H2.out.2) 15 5 (by decide) rfl
    go_upto_region 10 with (fail)
    go_upto_region 11 with (first
      | (go_at_call 29; refine (read_calls (E := B) _ _ _ (pg 76 1 2 5 (sb b0)) HM.out.2.2.1.symm (Nat.le_refl _) 2 _ _ _ _ _ _ HM.out.2.1 _ (HE.out.1.below H2.out.1.1) (HE.out.2.1.below H2.out.1.1) (HE.out.2.2.below H2.out.1.1) (RdB.of_row0 H2.out.2) HM.out.2.2.2).mono ?_; rintro e W3 ⟨rfl, hb⟩; have H3 : Hd (Below w.heap.size w W3 ∧ W3.heap[wc.heap.size]? = some (.cells #[.int .i64 76, .int .i64 2, .int .u64 5, .int .i64 1, .string b0] 37 (0, 0))) := ⟨below_step H2.out.1.1 hb, below_row hb H2.out.1.2⟩; clear hb k0 k3 k7 k15)
      | fail)
    have hE0 : errV B 0 = .nilIface := rfl
    have a0 := fun o => (bx5o H3.out.2 o).1
    have a1 := fun o => (bx5o H3.out.2 o).2.1
    have a2 := fun o => (bx5o H3.out.2 o).2.2.1
    have a3 := fun o => (bx5o H3.out.2 o).2.2.2.1
    have a4 := fun o => (bx5o H3.out.2 o).2.2.2.2
    have hqs := eql_self 76 2 5 1 b0
    go_wp2
    go_ret
    exact ⟨rfl, below_alloc H3.out.1 _⟩
end Go.Proofs.YtoenacghkpgnpaaDoor.Sh
