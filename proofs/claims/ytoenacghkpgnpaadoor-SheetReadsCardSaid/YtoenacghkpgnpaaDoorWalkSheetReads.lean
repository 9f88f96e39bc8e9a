/- The walk of SheetReads: what all bytes say as the page of every number; the bytes, and what lies behind them, stay. -/
import Derived.Test.YtoenacghkpgnpaaDoorReadS
namespace Go.Proofs.YtoenacghkpgnpaaDoor.LSheetReads
open Go.RowKit Go.Proofs.YtoenacghkpgnpaaDoor.K Go.Proofs.YtoenacghkpgnpaaDoor.E Go.Proofs.YtoenacghkpgnpaaDoor.P1 Go.Proofs.YtoenacghkpgnpaaDoor.Codec Go.Proofs.YtoenacghkpgnpaaDoor.Sh Go.Proofs.YtoenacghkpgnpaaDoor.S Go.Proofs.YtoenacghkpgnpaaDoor.D Go.Proofs.YtoenacghkpgnpaaDoor.R5

/-- What is laid behind the bytes. -/
def tl (k : Nat) : List Int := (List.range k).map fun i => ((90 + i % 5 : Nat) : Int)
theorem tl_length (k : Nat) : (tl k).length = k := by simp [tl]
theorem tl_snoc (k : Nat) : tl k ++ [((90 + k % 5 : Nat) : Int)] = tl (k + 1) := by simp [tl, List.range_succ]
theorem tl_at (k i : Nat) (h : i < k) : (tl k)[i]? = some (((90 + i % 5 : Nat) : Int)) := by simp [tl, List.getElem?_range h]
theorem rd_left {w : World} {A : Option Addr} {xs ys : List Int} (h : RdB w A (xs ++ ys)) : RdB w A xs := fun hp => by
  obtain ⟨ad, e, hc⟩ := h (by rw [List.length_append]; omega)
  refine ⟨ad, e, fun j hj => ?_⟩
  have := hc j (by rw [List.length_append]; omega)
  rwa [List.getD_eq_getElem?_getD, List.getElem?_append_left hj, ← List.getD_eq_getElem?_getD] at this
theorem own_rd {w : World} {base g c n : Nat} {xs : List Int} (h : OwnB w base (.slice (some ⟨g, 0, none⟩) n c) xs) : RdB w (some ⟨g, 0, none⟩) xs := by
  obtain ⟨A, c', e, -, hr⟩ := h.form
  injection e with e1 e2 e3
  rw [e1]; exact hr
theorem num_errX {B : Nat → Addr} (n : Int) (ev : Value) (hv : errV B n = ev) (hn : n = 0 ∨ n = 2) (w : World) (hE : Errs errG B w) : Calls Tryd.prog 19 #[ev] w fun e w' => e = .returned (.int .i64 n) ∧ w = w' :=
  hv ▸ num_errV n (by omega) w hE
theorem bytesF (s : ByteArray) (hs : s.size ≤ 140737488355328) (w : World) : Calls Tryd.prog 28 #[.string s] w fun e w' => ∃ A m k, e = .returned (.slice A m k) ∧ Hd (m = s.size ∧ m ≤ k ∧ RdB w' A (sb s)) ∧ Below w.heap.size w w' :=
  (bytes_calls s hs w).mono fun e w' ⟨v, he, ho, hb⟩ => by
    obtain ⟨A, k, rfl, hc, hr⟩ := ho.form
    exact ⟨A, _, k, he, ⟨sb_length s, hc, hr⟩, hb⟩
theorem undrew {w w' : World} (h : Below w.drew.heap.size w.drew w') : Below w.heap.size w w' := ⟨h.os, h.tape, h.output, h.size, h.block⟩
/-- The box of what came in, as a region reads it. -/
theorem mkS {W1 W : World} {g : Nat} {a b : Value} (k : W1.cell? ⟨g, 0, none⟩ = some a ∧ W1.cell? ⟨g, 1, none⟩ = some b) (hb : Below W1.heap.size W1 W) : W.cell? ⟨g, 0, none⟩ = some a ∧ W.cell? ⟨g, 1, none⟩ = some b ∧ Hd (Below W1.heap.size W1 W) := ⟨below_cell hb k.1, below_cell hb k.2, ⟨hb⟩⟩
theorem getS {W1 W : World} {g : Nat} {a b : Value} (k : W.cell? ⟨g, 0, none⟩ = some a ∧ W.cell? ⟨g, 1, none⟩ = some b ∧ Hd (Below W1.heap.size W1 W)) : Below W1.heap.size W1 W := k.2.2.out
theorem bx2 {W : World} {g : Nat} {s : ByteArray} {id : Int} (h : W.heap[g]? = some (.cells #[.string s, .int .i64 id] 50 (0, 0))) : W.cell? ⟨g, 0, none⟩ = some (.string s) ∧ W.cell? ⟨g, 1, none⟩ = some (.int .i64 id) := ⟨(cell_of_row _ _ _ _ _ _ h).trans rfl, (cell_of_row _ _ _ _ _ _ h).trans rfl⟩

/-- What may turn is one block. -/
theorem mkT {W1 W : World} {g g6 : Nat} {b : Value} (k : W1.cell? ⟨g, 1, none⟩ = some b) (hg : ¬ g = g6) (hb : Tch (fun i => i = g6) W1 W) : W.cell? ⟨g, 1, none⟩ = some b ∧ Hd (Tch (fun i => i = g6) W1 W) := ⟨hb.cell k hg, ⟨hb⟩⟩
theorem getT {W1 W : World} {g g6 : Nat} {b : Value} (k : W.cell? ⟨g, 1, none⟩ = some b ∧ Hd (Tch (fun i => i = g6) W1 W)) : Tch (fun i => i = g6) W1 W := k.2.out
theorem tch_sheet {W1 W : World} {g : Nat} (h : Tch (fun i => i = g) W1 W) (a b c d e : Value) : Tch (fun i => i = g) W1 (((((W.setCell ⟨g, 0, none⟩ a).setCell ⟨g, 1, none⟩ b).setCell ⟨g, 2, none⟩ c).setCell ⟨g, 3, none⟩ d).setCell ⟨g, 4, none⟩ e) :=
  ((((h.setCell (.inl rfl) _).setCell (.inl rfl) _).setCell (.inl rfl) _).setCell (.inl rfl) _).setCell (.inl rfl) _

set_option maxRecDepth 100000 in
set_option maxHeartbeats 8000000 in
theorem walk {B : Nat → Addr} (s : ByteArray) (id : Int) (w : World) (hE : Errs errG B w) (hs : TabOk w) (hh : HeadOk w) (hsz : s.size ≤ 140737488351232) (a b t c nE : Int) (u : ByteArray) (hd : rdS (sb s) id = (a, b, t, c, u, nE))
    (a2 b2 t2 c2 nE2 : Int) (us2 : ByteArray) (hd2 : rdS ((sb s).set (s.size / 2) (((sb s).getD (s.size / 2) 0 + 1) % 256)) id = (a2, b2, t2, c2, us2, nE2)) :
    Calls Tryd.prog 6 #[.agg #[.string s, .int .i64 id]] w fun e w' => e = .returned (.bool true) ∧ Below w.heap.size w w' := by
  have HE : Hd (Errs errG B w ∧ TabOk w ∧ HeadOk w) := ⟨hE, hs, hh⟩
  have HZ : Hd (s.size ≤ 140737488351232) := ⟨hsz⟩
  have HD : Hd (rdS (sb s) id = (a, b, t, c, u, nE)) := ⟨hd⟩
  have HD2 : Hd (rdS ((sb s).set (s.size / 2) (((sb s).getD (s.size / 2) 0 + 1) % 256)) id = (a2, b2, t2, c2, us2, nE2)) := ⟨hd2⟩
  obtain ⟨ev, hev⟩ : ∃ ev, errV B nE = ev := ⟨_, rfl⟩
  have HV : Hd (errV B nE = ev ∧ (nE = 0 ∨ nE = 2)) := ⟨hev, rdS_num hd⟩
  obtain ⟨ev2, hev2⟩ : ∃ ev, errV B nE2 = ev := ⟨_, rfl⟩
  have HV2 : Hd (errV B nE2 = ev2 ∧ (nE2 = 0 ∨ nE2 = 2)) := ⟨hev2, rdS_num hd2⟩
  obtain ⟨n, hn⟩ : ∃ n, s.size = n := ⟨_, rfl⟩
  have HN : Hd (s.size = n ∧ (sb s).length = n) := ⟨hn, by rw [sb_length, hn]⟩
  have hn0 : (0 : Int) ≤ (n : Int) := Int.natCast_nonneg _
  have hn1 : (n : Int) ≤ 140737488351232 := by omega
  clear hE hs hh hd hd2 hev hev2 hsz
  go_enter Tryd.func6, Tryd.ntmps6
  go_upto_region 1 with (fail)
  have H0 : Hd (Below w.heap.size w (w.alloc (.cells #[.string s, .int .i64 id] 50)) ∧ (w.alloc (.cells #[.string s, .int .i64 id] 50)).heap[w.heap.size]? = some (.cells #[.string s, .int .i64 id] 50 (0, 0))) := ⟨below_alloc (Below.refl _ _) _, row_alloc_at _ _ _ rfl⟩
  obtain ⟨W0, hW0⟩ : ∃ W0, w.alloc (.cells #[.string s, .int .i64 id] 50) = W0 := ⟨_, rfl⟩
  rw [hW0] at H0 ⊢
  clear hW0
  obtain ⟨j0, j1⟩ := bx2 H0.out.2
  go_upto_block 0 with (first
    | (go_at_call 28; refine (bytes_calls s (by have := HZ.out; omega) _).mono ?_; rintro e W1 ⟨v0, rfl, ho, hb⟩; have H1 : Hd (Below W0.heap.size W0 W1 ∧ OwnB W1 W0.heap.size v0 (sb s)) := ⟨hb, ho⟩; clear hb ho j0 j1)
    | fail)
  clear hn
  go_cut [4] from 18 to 28 (fun s4 wx => ∃ gl k, s4 = .slice (some ⟨gl, 0, none⟩) (n + 64) k ∧ Hd (Below W0.heap.size W0 wx ∧ OwnB wx W0.heap.size (.slice (some ⟨gl, 0, none⟩) (n + 64) k) (sb s ++ tl 64) ∧ n + 64 ≤ k ∧ W0.heap.size ≤ gl))
  case first =>
    go_wp2_with (fail)
    go_loopw [4, 5] (fun v i wx => ∃ j : Nat, j ≤ 64 ∧ i = .int .i64 j ∧ Hd (Below W0.heap.size W0 wx ∧ OwnB wx W0.heap.size v (sb s ++ tl j))) (fun _ i _ => 64 - (intOf i).toNat)
    case atStart => exact ⟨0, by omega, rfl, ⟨H1.out.1, by rw [show tl 0 = [] from rfl, List.append_nil]; exact H1.out.2⟩⟩
    case round =>
      obtain ⟨j, hj, rfl, HJ⟩ := hrel
      by_cases hlt : (j : Int) < 64
      · obtain ⟨r, hr⟩ : ∃ r, j % 5 = r := ⟨_, rfl⟩
        have hri : (j : Int) % 5 = (r : Int) := by omega
        have hrl : (r : Int) < 5 := by omega
        have HRR : Hd (j % 5 = r) := ⟨hr⟩
        have hr0 : (0 : Int) ≤ (r : Int) := Int.natCast_nonneg _
        clear hr
        go_wp2_with (first
          | ((with_reducible refine gD (N := 28) rfl ?_); refine wpList_ap rfl (.tmp 22) (.tmp 27) rfl W0.heap.size (sb s ++ tl j) [90 + (r : Int)] u4 rfl (Ap.alloc (.inl HJ.out.2) _) (by rw [World.size_alloc]; exact Nat.le_succ_of_le HJ.out.1.size) _ _ _ rfl rfl (by decide) (one_reads _ _ _) (by rw [List.length_append, tl_length, HN.out.2]; omega) ?_; intro v2 w2 ho ht _; have HX : Hd (Below W0.heap.size W0 w2 ∧ OwnB w2 W0.heap.size v2 (sb s ++ tl (j + 1))) := ⟨below_tch (below_alloc HJ.out.1 _) ht (fun i hi => hi.2), by rw [← tl_snoc, HRR.out, ← List.append_assoc]; exact ho.out⟩; clear ho ht)
          | fail)
        go_roundw
        case rel => exact ⟨j + 1, by omega, by go_num, HX⟩
        case measure => simp [intOf]; omega
      · obtain rfl : j = 64 := by omega
        have hlen : (sb s ++ tl 64).length = n + 64 := by rw [List.length_append, tl_length, HN.out.2]
        obtain ⟨gl, k, hv, hk, hg⟩ := own_head HJ.out.2 (by omega)
        rw [hlen] at hv hk
        subst hv
        have HKK : Hd (n + 64 ≤ k ∧ W0.heap.size ≤ gl) := ⟨hk, hg⟩
        clear hlen hk hg
        go_wp2
        go_meet
        exact ⟨gl, k, rfl, ⟨HJ.out.1, HJ.out.2, HKK.out⟩⟩
  case rest =>
    obtain ⟨gl, k, hs4, H2⟩ := hcut
    subst hs4
    obtain ⟨W2, rfl⟩ : ∃ W2, W2 = wc := ⟨_, rfl⟩
    have hkn : (n : Int) ≤ (k : Int) := by have := H2.out.2.2.1; omega
    have hk0 : ¬ k = 0 := by have := H2.out.2.2.1; omega
    have HK : Hd (W2.cell? ⟨w.heap.size, 0, none⟩ = some (.string s) ∧ W2.cell? ⟨w.heap.size, 1, none⟩ = some (.int .i64 id)) := ⟨bx2 (below_row H2.out.1 H0.out.2)⟩
    go_upto_region 7 with (fail)
    go_cut [6, 7] from 30 to 37 (fun s6 s7 wx => ∃ g6, s6 = .pointer (some ⟨g6, 0, none⟩) ∧ s7 = ev ∧ Hd (W2.heap.size ≤ g6 ∧ Below W2.heap.size W2 wx ∧ wx.heap[g6]? = some (.cells #[.int .i64 a, .int .i64 b, .int .u64 t, .int .i64 c, .string u] 37 (0, 0))))
    case first =>
      go_region_held3 (fun w' => w'.cell? ⟨w.heap.size, 0, none⟩ = some (.string s) ∧ w'.cell? ⟨w.heap.size, 1, none⟩ = some (.int .i64 id) ∧ Hd (Below W2.heap.size W2 w'))
        (first
          | ((with_reducible refine mkS HK.out (?_ : Below _ _ (World.setCell _ _ _))); first | exact below_sheet (getS (by assumption)) (Nat.le_refl _) _ _ _ _ _ | exact below_sheet (getS (by assumption)) (getS (by assumption)).size _ _ _ _ _)
          | (with_reducible exact mkS HK.out (below_step (getS (by assumption)) (by assumption)))
          | (with_reducible exact mkS HK.out (below_alloc (getS (by assumption)) _))
          | (with_reducible exact mkS HK.out (below_alloc (undrew hb) _))
          | exact mkS HK.out (below_drewN (Below.refl _ _) 1))
        (first
          | (go_at_call 29; refine (read_calls (E := B) (some ⟨gl, 0, none⟩) n k (sb s) HN.out.2.symm (by omega) id a b t c nE u HD.out _ ?hE ?hs ?hh ?hr (sb_range s)).mono ?_; (case hE => exact ((HE.out.1.below H0.out.1).below H2.out.1).below (getS (by assumption))); (case hs => exact ((HE.out.2.1.below H0.out.1).below H2.out.1).below (getS (by assumption))); (case hh => exact ((HE.out.2.2.below H0.out.1).below H2.out.1).below (getS (by assumption))); (case hr => exact (rd_left (own_rd H2.out.2.1)).below (getS (by assumption))); rw [HV.out.1]; rintro e Wz ⟨rfl, hb⟩; (first | (guard_hyp hb : Below (W2.alloc (.cells #[.int .i64 0, .int .i64 0, .int .u64 0, .int .i64 0, .string ⟨#[]⟩] 37)).drew.heap.size (W2.alloc (.cells #[.int .i64 0, .int .i64 0, .int .u64 0, .int .i64 0, .string ⟨#[]⟩] 37)).drew Wz; have zr : Hd (Wz.heap[W2.heap.size]? = some (.cells #[.int .i64 0, .int .i64 0, .int .u64 0, .int .i64 0, .string ⟨#[]⟩] 37 (0, 0))) := ⟨box_row (undrew hb)⟩; obtain ⟨z0, z1, z2, z3, z4⟩ := bx5 zr.out; have zf := Joins.unfrozen_of_block zr.out) | skip)))
      all_goals
        rename_i hH
        have hbl := getS hH
        (try go_wp2_with fail)
        go_meet
        exact ⟨_, rfl, rfl, ⟨by first | exact Nat.le_refl _ | exact (undrew hb).size, hbl, by first | exact sheetRow zr.out _ _ _ _ _ | exact row_alloc_at _ _ _ rfl⟩⟩
    case rest =>
      obtain ⟨g6, hs6, hs7, H3⟩ := hcut
      subst hs6 hs7
      obtain ⟨W3, rfl⟩ : ∃ W3, W3 = wc := ⟨_, rfl⟩
      have HO3 : Hd (OwnB W3 W0.heap.size (.slice (some ⟨gl, 0, none⟩) (n + 64) k) (sb s ++ tl 64) ∧ (sb s ++ tl 64).length = n + 64) := ⟨H2.out.2.1.below H3.out.2.1, by rw [List.length_append, tl_length, HN.out.2]⟩
      go_upto_block 2 with (fail)
      go_cut [8] from 38 to 75 (fun s8 wx => (∃ z : Int, s8 = .int .i64 z) ∧ Hd (Below W3.heap.size W3 wx))
      case first =>
        go_wp2_with (fail)
        go_loopw [8] (fun s8 wx => ∃ i : Nat, i ≤ n + 64 ∧ s8 = .int .i64 i ∧ Hd (Below W3.heap.size W3 wx)) (fun s8 _ => n + 64 - (intOf s8).toNat)
        case atStart => exact ⟨0, by omega, rfl, ⟨Below.refl _ _⟩⟩
        case round =>
          obtain ⟨i, hi, rfl, HI⟩ := hrel
          by_cases hlt : i < n + 64
          · have hcell := own_at (HO3.out.1.below HI.out) HO3.out.2.symm i (by rw [HO3.out.2]; exact hlt)
            have hbox := (bx2 (below_row HI.out (below_row H3.out.2.1 (below_row H2.out.1 H0.out.2)))).1
            have hlti : (i : Int) < ((n + 64 : Nat) : Int) := by omega
            by_cases hin : i < n
            · have hsl : i < s.size := by rw [HN.out.1]; exact hin
              have hv : (sb s ++ tl 64).getD i 0 = ((s[i]'hsl).toNat : Int) := by
                rw [List.getD_eq_getElem?_getD, List.getElem?_append_left (by rw [HN.out.2]; exact hin), List.getElem?_eq_getElem (by rw [HN.out.2]; exact hin)]
                simp [sb]
                rfl
              rw [hv] at hcell
              have hd1 : decide ((i : Int) < (n : Int)) = true := by simpa using hin
              have hd2 : decide ((i : Int) ≥ (n : Int)) = false := by simpa using hin
              have hd3 : decide ((n : Int) ≤ (i : Int)) = false := by simpa using hin
              have hd4 : decide (n ≤ i) = false := by simpa using hin
              clear hv
              go_upto_region 11 with (fail)
              go_quiet (fail)
              go_wp2
              go_roundw
              case rel => exact ⟨i + 1, by omega, by go_num, ⟨below_drewN HI.out _⟩⟩
              case measure => simp [intOf]; omega
            · obtain ⟨m, hm⟩ : ∃ m, i - n = m := ⟨_, rfl⟩
              obtain ⟨r, hr⟩ : ∃ r, m % 5 = r := ⟨_, rfl⟩
              have hv : (sb s ++ tl 64).getD i 0 = 90 + (r : Int) := by
                rw [List.getD_eq_getElem?_getD, List.getElem?_append_right (by rw [HN.out.2]; omega), HN.out.2, tl_at 64 (i - n) (by omega), hm, hr]
                simp
              rw [hv] at hcell
              have hmi : (i : Int) - (n : Int) = (m : Int) := by omega
              have hri : (m : Int) % 5 = (r : Int) := by omega
              have hrl : (r : Int) < 5 := by omega
              have hr0 : (0 : Int) ≤ (r : Int) := Int.natCast_nonneg _
              have hm0 : (0 : Int) ≤ (m : Int) := Int.natCast_nonneg _
              have hd1 : decide ((i : Int) < (n : Int)) = false := by simpa using hin
              have hd2 : decide ((i : Int) ≥ (n : Int)) = true := by simp; omega
              have hd3 : decide ((n : Int) ≤ (i : Int)) = true := by simp; omega
              have hd4 : decide (n ≤ i) = true := by simp; omega
              have hd5 : decide (i < n) = false := by simpa using hin
              clear hv hm hr
              go_upto_region 11 with (fail)
              go_quiet (fail)
              go_wp2
              go_roundw
              case rel => exact ⟨i + 1, by omega, by go_num, ⟨below_drewN HI.out _⟩⟩
              case measure => simp [intOf]; omega
          · obtain rfl : i = n + 64 := by omega
            go_wp2
            go_meet
            exact ⟨⟨_, rfl⟩, HI⟩
      case rest =>
        obtain ⟨⟨z8, hs8⟩, H4⟩ := hcut
        subst hs8
        obtain ⟨W4, rfl⟩ : ∃ W4, W4 = wc := ⟨_, rfl⟩
        have H5 : Hd (Below W0.heap.size W0 W4 ∧ W4.heap[w.heap.size]? = some (.cells #[.string s, .int .i64 id] 50 (0, 0)) ∧ W4.heap[g6]? = some (.cells #[.int .i64 a, .int .i64 b, .int .u64 t, .int .i64 c, .string u] 37 (0, 0)) ∧ OwnB W4 W0.heap.size (.slice (some ⟨gl, 0, none⟩) (n + 64) k) (sb s ++ tl 64)) := ⟨below_step (below_step H2.out.1 H3.out.2.1) H4.out, below_row H4.out (below_row H3.out.2.1 (below_row H2.out.1 H0.out.2)), below_row H4.out H3.out.2.2, HO3.out.1.below H4.out⟩
        have HK4 : Hd (W4.cell? ⟨w.heap.size, 0, none⟩ = some (.string s) ∧ W4.cell? ⟨w.heap.size, 1, none⟩ = some (.int .i64 id)) := ⟨bx2 H5.out.2.1⟩
        have HLT : Hd (gl < W2.heap.size ∧ W2.heap.size ≤ g6 ∧ g6 < W4.heap.size ∧ w.heap.size < W0.heap.size) := ⟨(H2.out.2.1.lt gl rfl).2, H3.out.1, row_lt H5.out.2.2.1, row_lt H0.out.2⟩
        go_upto_region 13 with (fail)
        go_cut [9, 10] from 77 to 84 (fun s9 s10 wx => ∃ g9, s9 = .pointer (some ⟨g9, 0, none⟩) ∧ s10 = .int .i64 nE ∧ Hd (W4.heap.size ≤ g9 ∧ Below W4.heap.size W4 wx ∧ wx.heap[g9]? = some (.cells #[.int .i64 a, .int .i64 b, .int .u64 t, .int .i64 c, .string u] 37 (0, 0))))
        case first =>
          go_region_held3 (fun w' => w'.cell? ⟨w.heap.size, 0, none⟩ = some (.string s) ∧ w'.cell? ⟨w.heap.size, 1, none⟩ = some (.int .i64 id) ∧ Hd (Below W4.heap.size W4 w'))
            (first
              | ((with_reducible refine mkS HK4.out (?_ : Below _ _ (World.setCell _ _ _))); first | exact below_sheet HQ2.out (Nat.le_refl _) _ _ _ _ _ | exact below_sheet HQ2.out hz9.out _ _ _ _ _)
              | (with_reducible exact mkS HK4.out HQ.out)
              | (with_reducible exact mkS HK4.out HQ2.out)
              | (with_reducible exact mkS HK4.out (below_alloc (getS (by assumption)) _))
              | (with_reducible exact mkS HK4.out (below_alloc HQ2.out _))
              | (with_reducible exact mkS HK4.out (below_alloc HQ.out _))
              | (with_reducible exact mkS HK4.out (getS (by assumption)))
              | exact mkS HK4.out (below_drewN (Below.refl _ _) 1))
            (first
              | (go_at_call 28; refine (bytesF s (by have := HZ.out; omega) _).mono ?_; rintro e Wb ⟨Ab, mb, kb, rfl, HB, hb⟩; have HQ : Hd (Below W4.heap.size W4 Wb) := ⟨below_step (getS (by assumption)) hb⟩; (first | (guard_hyp hb : Below (W4.alloc (.cells #[.int .i64 0, .int .i64 0, .int .u64 0, .int .i64 0, .string ⟨#[]⟩] 37)).drew.heap.size (W4.alloc (.cells #[.int .i64 0, .int .i64 0, .int .u64 0, .int .i64 0, .string ⟨#[]⟩] 37)).drew Wb; have zr : Hd (Wb.heap[W4.heap.size]? = some (.cells #[.int .i64 0, .int .i64 0, .int .u64 0, .int .i64 0, .string ⟨#[]⟩] 37 (0, 0))) := ⟨box_row (undrew hb)⟩) | skip); have hbb : Hd (W4.heap.size ≤ Wb.heap.size) := ⟨(below_step (getS (by assumption)) hb).size⟩)
              | (go_at_call 30; refine (rread_calls Ab mb kb (sb s) (by rw [HB.out.1, sb_length]) HB.out.2.1 id a b t c nE u HD.out _ ?hr (sb_range s)).mono ?_; (case hr => first | exact HB.out.2.2 | exact HB.out.2.2.below (below_alloc (Below.refl _ _) _)); rintro e Wc ⟨rfl, hb2⟩; have HQ2 : Hd (Below W4.heap.size W4 Wc) := ⟨below_step (getS (by assumption)) hb2⟩; (first | (have zs_ : Hd (Wc.heap[W4.heap.size]? = some (.cells #[.int .i64 0, .int .i64 0, .int .u64 0, .int .i64 0, .string ⟨#[]⟩] 37 (0, 0))) := ⟨below_row hb2 zr.out⟩; have hz9 : Hd (W4.heap.size ≤ W4.heap.size) := ⟨Nat.le_refl _⟩; obtain ⟨z0, z1, z2, z3, z4⟩ := bx5 zs_.out; have zf := Joins.unfrozen_of_block zs_.out) | (guard_hyp hb2 : Below (Wb.alloc (.cells #[.int .i64 0, .int .i64 0, .int .u64 0, .int .i64 0, .string ⟨#[]⟩] 37)).heap.size (Wb.alloc (.cells #[.int .i64 0, .int .i64 0, .int .u64 0, .int .i64 0, .string ⟨#[]⟩] 37)) Wc; have zs_ : Hd (Wc.heap[Wb.heap.size]? = some (.cells #[.int .i64 0, .int .i64 0, .int .u64 0, .int .i64 0, .string ⟨#[]⟩] 37 (0, 0))) := ⟨box_row hb2⟩; have hz9 : Hd (W4.heap.size ≤ Wb.heap.size) := ⟨hbb.out⟩; obtain ⟨z0, z1, z2, z3, z4⟩ := bx5 zs_.out; have zf := Joins.unfrozen_of_block zs_.out) | skip)))
          all_goals
            rename_i hH
            have hbl := getS hH
            (try go_wp2_with fail)
            go_meet
            exact ⟨_, rfl, rfl, ⟨by first | exact Nat.le_refl _ | exact hz9.out | exact HQ2.out.size, hbl, by first | exact sheetRow zs_.out _ _ _ _ _ | exact row_alloc_at _ _ _ rfl⟩⟩
        case rest =>
          obtain ⟨g9, hs9, hs10, H6⟩ := hcut
          subst hs9 hs10
          obtain ⟨W5, rfl⟩ : ∃ W5, W5 = wc := ⟨_, rfl⟩
          have H7 : Hd (Below W0.heap.size W0 W5 ∧ W5.heap[w.heap.size]? = some (.cells #[.string s, .int .i64 id] 50 (0, 0)) ∧ W5.heap[g6]? = some (.cells #[.int .i64 a, .int .i64 b, .int .u64 t, .int .i64 c, .string u] 37 (0, 0)) ∧ W5.heap[g9]? = some (.cells #[.int .i64 a, .int .i64 b, .int .u64 t, .int .i64 c, .string u] 37 (0, 0)) ∧ OwnB W5 W0.heap.size (.slice (some ⟨gl, 0, none⟩) (n + 64) k) (sb s ++ tl 64)) := ⟨below_step H5.out.1 H6.out.2.1, below_row H6.out.2.1 H5.out.2.1, below_row H6.out.2.1 H5.out.2.2.1, H6.out.2.2, H5.out.2.2.2.below H6.out.2.1⟩
          obtain ⟨j0, j1, j2, j3, j4⟩ := bx5 H7.out.2.2.1
          obtain ⟨l0, l1, l2, l3, l4⟩ := bx5 H7.out.2.2.2.1
          obtain ⟨m0, m1⟩ := bx2 H7.out.2.1
          have qs := neq_self a b t c u
          have qe := eql_self a b t c u
          by_cases hz : n = 0
          · have hzb : ((n : Int) == 0) = true := by simp [hz]
            clear hz
            go_wp2_with (first
              | (go_at_call 19; refine (num_errX nE _ HV.out.1 HV.out.2 _ ((HE.out.1.below H0.out.1).below H7.out.1)).mono ?_; rintro e W' ⟨rfl, rfl⟩)
              | fail)
            go_ret
            exact ⟨rfl, below_step H0.out.1 H7.out.1⟩
          · have hzb : ((n : Int) == 0) = false := by simp [hz]
            have HNP : Hd (0 < n) := ⟨by omega⟩
            clear hz
            go_upto_region 17 with (first
              | (go_at_call 19; refine (num_errX nE _ HV.out.1 HV.out.2 _ ((HE.out.1.below H0.out.1).below H7.out.1)).mono ?_; rintro e W' ⟨rfl, rfl⟩)
              | (go_at_call 28; refine (bytes_calls s (by have := HZ.out; omega) _).mono ?_; rintro e W6 ⟨v11, rfl, ho, hb⟩; have H8 : Hd ((Below W0.heap.size W0 W6 ∧ W6.heap[w.heap.size]? = some (.cells #[.string s, .int .i64 id] 50 (0, 0)) ∧ W6.heap[g6]? = some (.cells #[.int .i64 a, .int .i64 b, .int .u64 t, .int .i64 c, .string u] 37 (0, 0)) ∧ W6.heap[g9]? = some (.cells #[.int .i64 a, .int .i64 b, .int .u64 t, .int .i64 c, .string u] 37 (0, 0)) ∧ OwnB W6 W0.heap.size (.slice (some ⟨gl, 0, none⟩) (n + 64) k) (sb s ++ tl 64)) ∧ OwnB W6 W5.heap.size v11 (sb s)) := ⟨⟨below_step H7.out.1 hb, below_row hb H7.out.2.1, below_row hb H7.out.2.2.1, below_row hb H7.out.2.2.2.1, H7.out.2.2.2.2.below hb⟩, ho⟩; clear ho hb j0 j1 j2 j3 j4 l0 l1 l2 l3 l4 m0 m1)
              | fail)
            obtain ⟨gq, kq, hvq, hkq, hgq⟩ := own_head H8.out.2 (by rw [HN.out.2]; exact HNP.out)
            rw [HN.out.2] at hvq hkq
            subst hvq
            have HQ : Hd (OwnB W6 W5.heap.size (.slice (some ⟨gq, 0, none⟩) n kq) (sb s) ∧ n ≤ kq ∧ W5.heap.size ≤ gq) := ⟨H8.out.2, hkq, hgq⟩
            have HNE : Hd (gl ≠ gq ∧ g6 ≠ gl ∧ g9 ≠ gl ∧ g6 ≠ gq ∧ g9 ≠ gq ∧ w.heap.size ≠ gl ∧ w.heap.size ≠ gq ∧ g9 ≠ g6 ∧ w.heap.size ≠ g6 ∧ w.heap.size ≠ g9 ∧ gl ≠ g6) := ⟨by
              have h1 := HLT.out
              have h2 := H6.out.1
              have h3 := row_lt H7.out.2.2.2.1
              have h4 := H2.out.2.2.2
              have h5 := H5.out.1.size
              omega⟩
            obtain ⟨h, hh⟩ : ∃ h, n / 2 = h := ⟨_, rfl⟩
            obtain ⟨y, hy⟩ : ∃ y, (sb s).getD h 0 = y := ⟨_, rfl⟩
            have HH : Hd (h < n ∧ (sb s ++ tl 64).length = n + 64) := ⟨by have := HNP.out; omega, HO3.out.2⟩
            have hyr : 0 ≤ y ∧ y ≤ 255 := by
              rw [← hy, List.getD_eq_getElem?_getD, List.getElem?_eq_getElem (by rw [HN.out.2]; exact HH.out.1)]
              exact sb_range s _ (List.getElem_mem _)
            have hy0 := hyr.1
            have hy1 := hyr.2
            have HD3 : Hd (rdS ((sb s).set h ((y + 1) % 256)) id = (a2, b2, t2, c2, us2, nE2)) := ⟨by have h1 := HD2.out; rw [HN.out.1, hh, hy] at h1; exact h1⟩
            have HX3 : Hd (((sb s).set h ((y + 1) % 256)).length = n ∧ ∀ x, x ∈ (sb s).set h ((y + 1) % 256) → 0 ≤ x ∧ x ≤ 255) := ⟨by rw [List.length_set, HN.out.2], fun x hx => by
              rcases List.mem_or_eq_of_mem_set hx with h1 | h1
              · exact sb_range s x h1
              · omega⟩
            have HY : Hd ((sb s ++ tl 64).getD h 0 = y ∧ (sb s ++ tl 64).set h ((y + 1) % 256) = (sb s).set h ((y + 1) % 256) ++ tl 64 ∧ (sb s).getD h 0 = y) := ⟨by
              rw [List.getD_eq_getElem?_getD, List.getElem?_append_left (by rw [HN.out.2]; exact HH.out.1), ← List.getD_eq_getElem?_getD, hy], by
              rw [List.set_append_left h _ (by rw [HN.out.2]; exact HH.out.1)], hy⟩
            have hhi : (n : Int) / 2 = (h : Int) := by omega
            have hhl : (h : Int) < (n : Int) := by have := HH.out.1; omega
            have hhl2 : (h : Int) < ((n + 64 : Nat) : Int) := by omega
            have hh0 : (0 : Int) ≤ (h : Int) := Int.natCast_nonneg _
            have cl : W6.cell? ⟨gl, h, none⟩ = some (.int .u8 y) := by
              have h1 := own_at H8.out.1.2.2.2.2 HO3.out.2.symm h (by rw [HO3.out.2]; omega)
              rw [HY.out.1] at h1
              exact h1
            have fl := own_unfrozen H8.out.1.2.2.2.2 HO3.out.2.symm
            clear hyr hkq hgq hh hy
            go_upto_region 18 with (fail)
            have H9 : Hd ((Tch (fun i => i = gl) W6 (W6.setCell ⟨gl, h, none⟩ (.int .u8 ((y + 1) % 256)))) ∧ OwnB (W6.setCell ⟨gl, h, none⟩ (.int .u8 ((y + 1) % 256))) W0.heap.size (.slice (some ⟨gl, 0, none⟩) (n + 64) k) ((sb s).set h ((y + 1) % 256) ++ tl 64)) := ⟨(Tch.refl (fun i => i = gl) W6).setCell (p := ⟨gl, h, none⟩) (.inl rfl) _, by rw [← HY.out.2.1]; exact own_set H8.out.1.2.2.2.2 HO3.out.2.symm h _⟩
            obtain ⟨W7, hW7⟩ : ∃ W7, W6.setCell ⟨gl, h, none⟩ (.int .u8 ((y + 1) % 256)) = W7 := ⟨_, rfl⟩
            rw [hW7] at H9 ⊢
            clear hW7 cl fl
            have HQ7 : Hd (OwnB W7 W5.heap.size (.slice (some ⟨gq, 0, none⟩) n kq) (sb s)) := ⟨HQ.out.1.tch H9.out.1 (fun i hi => by have h1 : gq = i := Option.some.inj hi; show ¬ i = gl; have := HNE.out; omega)⟩
            have cq : W7.cell? ⟨gq, h, none⟩ = some (.int .u8 y) := by
              have h1 := own_at HQ7.out HN.out.2.symm h (by rw [HN.out.2]; exact HH.out.1)
              rw [HY.out.2.2] at h1
              exact h1
            have fq := own_unfrozen HQ7.out HN.out.2.symm
            go_upto_region 19 with (fail)
            have H10 : Hd ((Tch (fun i => i = gq) W7 (W7.setCell ⟨gq, h, none⟩ (.int .u8 ((y + 1) % 256)))) ∧ OwnB (W7.setCell ⟨gq, h, none⟩ (.int .u8 ((y + 1) % 256))) W5.heap.size (.slice (some ⟨gq, 0, none⟩) n kq) ((sb s).set h ((y + 1) % 256))) := ⟨(Tch.refl (fun i => i = gq) W7).setCell (p := ⟨gq, h, none⟩) (.inl rfl) _, own_set HQ7.out HN.out.2.symm h _⟩
            obtain ⟨W8, hW8⟩ : ∃ W8, W7.setCell ⟨gq, h, none⟩ (.int .u8 ((y + 1) % 256)) = W8 := ⟨_, rfl⟩
            rw [hW8] at H10 ⊢
            clear hW8 cq fq
            have H11 : Hd ((Below w.heap.size w W8 ∧ W8.heap[w.heap.size]? = some (.cells #[.string s, .int .i64 id] 50 (0, 0)) ∧ W8.heap[g6]? = some (.cells #[.int .i64 a, .int .i64 b, .int .u64 t, .int .i64 c, .string u] 37 (0, 0)) ∧ W8.heap[g9]? = some (.cells #[.int .i64 a, .int .i64 b, .int .u64 t, .int .i64 c, .string u] 37 (0, 0))) ∧ RdB W8 (some ⟨gl, 0, none⟩) ((sb s).set h ((y + 1) % 256)) ∧ RdB W8 (some ⟨gq, 0, none⟩) ((sb s).set h ((y + 1) % 256))) := ⟨by
              have hn := HNE.out
              have T8 : Tch (fun i => i = gl ∨ i = gq) W6 W8 := (H9.out.1.mono (fun i hi => .inl (.inl hi))).trans H10.out.1 (fun i hi => .inl (.inr hi))
              refine ⟨⟨below_tch (below_step H0.out.1 H8.out.1.1) T8 (fun i hi => ?_), T8.row H8.out.1.2.1 (fun h => by omega), T8.row H8.out.1.2.2.1 (fun h => by omega), T8.row H8.out.1.2.2.2.1 (fun h => by omega)⟩, rd_left (own_rd (H9.out.2.tch H10.out.1 (fun i hi => by have h1 : gl = i := Option.some.inj hi; show ¬ i = gq; omega))), own_rd H10.out.2⟩
              have h4 := H2.out.2.2.2
              have h5 := HQ.out.2.2
              have h6 := H7.out.1.size
              have h7 := H0.out.1.size
              omega⟩
            have HK8 : Hd (W8.cell? ⟨w.heap.size, 0, none⟩ = some (.string s) ∧ W8.cell? ⟨w.heap.size, 1, none⟩ = some (.int .i64 id)) := ⟨bx2 H11.out.1.2.1⟩
            have HNG : Hd (¬ w.heap.size = g6) := ⟨fun h1 => by have := HNE.out; omega⟩
            go_cut [7] from 131 to 138 (fun s7 wx => s7 = ev2 ∧ Hd (Tch (fun i => i = g6) W8 wx ∧ wx.heap[g6]? = some (.cells #[.int .i64 a2, .int .i64 b2, .int .u64 t2, .int .i64 c2, .string us2] 37 (0, 0))))
            case first =>
              go_region_held3 (fun w' => w'.cell? ⟨w.heap.size, 1, none⟩ = some (.int .i64 id) ∧ Hd (Tch (fun i => i = g6) W8 w'))
                (first
                  | ((with_reducible refine mkT HK8.out.2 HNG.out (?_ : Tch _ _ (World.setCell _ _ _))); exact tch_sheet HQT.out _ _ _ _ _)
                  | (with_reducible exact mkT HK8.out.2 HNG.out HQT.out)
                  | (with_reducible exact mkT HK8.out.2 HNG.out (getT (by assumption)))
                  | exact mkT HK8.out.2 HNG.out (Tch.refl _ _).drew)
                (first
                  | (go_at_call 29; refine (read_calls (E := B) (some ⟨gl, 0, none⟩) n k ((sb s).set h ((y + 1) % 256)) HX3.out.1.symm (by omega) id a2 b2 t2 c2 nE2 us2 HD3.out _ ?hE ?hs ?hh ?hr HX3.out.2).mono ?_; (case hE => exact (HE.out.1.below H11.out.1.1).drewN 1); (case hs => exact (HE.out.2.1.below H11.out.1.1).drewN 1); (case hh => exact fun i hi => (HE.out.2.2.below H11.out.1.1) i hi); (case hr => exact H11.out.2.1.drewN 1); rw [HV2.out.1]; rintro e Wz ⟨rfl, hb⟩; have HQT : Hd (Tch (fun i => i = g6) W8 Wz) := ⟨(Tch.refl (fun i => i = g6) W8).drew.trans (Tch.of_below hb (fun _ => False)) (fun _ h1 => h1.elim)⟩; have zs_ : Hd (Wz.heap[g6]? = some (.cells #[.int .i64 a, .int .i64 b, .int .u64 t, .int .i64 c, .string u] 37 (0, 0))) := ⟨below_row hb H11.out.1.2.2.1⟩; obtain ⟨z0, z1, z2, z3, z4⟩ := bx5 zs_.out; have zf := Joins.unfrozen_of_block zs_.out; clear hb))
              all_goals
                rename_i hH
                have hbl := getT hH
                (try go_wp2_with fail)
                go_meet
                exact ⟨rfl, ⟨hbl, sheetRow zs_.out _ _ _ _ _⟩⟩
            case rest =>
              obtain ⟨hs7, H12⟩ := hcut
              subst hs7
              obtain ⟨W9, rfl⟩ : ∃ W9, W9 = wc := ⟨_, rfl⟩
              have H13 : Hd ((Below w.heap.size w W9 ∧ W9.heap[w.heap.size]? = some (.cells #[.string s, .int .i64 id] 50 (0, 0)) ∧ W9.heap[g6]? = some (.cells #[.int .i64 a2, .int .i64 b2, .int .u64 t2, .int .i64 c2, .string us2] 37 (0, 0)) ∧ W9.heap[g9]? = some (.cells #[.int .i64 a, .int .i64 b, .int .u64 t, .int .i64 c, .string u] 37 (0, 0))) ∧ RdB W9 (some ⟨gq, 0, none⟩) ((sb s).set h ((y + 1) % 256))) := ⟨by
                have hn := HNE.out
                refine ⟨⟨below_tch H11.out.1.1 H12.out.1 (fun i hi => ?_), H12.out.1.row H11.out.1.2.1 HNG.out, H12.out.2, H12.out.1.row H11.out.1.2.2.2 (fun h1 => by omega)⟩, H11.out.2.2.touch H12.out.1 (fun ad h1 => ?_)⟩
                · have h1 := HLT.out
                  have h2 := H0.out.1.size
                  have h3 := H2.out.2.2.2
                  omega
                · have h2 := Option.some.inj h1
                  subst h2
                  show ¬ gq = g6
                  omega⟩
              obtain ⟨m0, m1⟩ := bx2 H13.out.1.2.1
              go_upto_region 21 with (first
                | (go_at_call 30; refine (rread_calls (some ⟨gq, 0, none⟩) n kq ((sb s).set h ((y + 1) % 256)) HX3.out.1.symm HQ.out.2.1 id a2 b2 t2 c2 nE2 us2 HD3.out _ H13.out.2 HX3.out.2).mono ?_; rintro e W10 ⟨rfl, hb⟩; have H14 : Hd (Below w.heap.size w W10 ∧ W10.heap[g6]? = some (.cells #[.int .i64 a2, .int .i64 b2, .int .u64 t2, .int .i64 c2, .string us2] 37 (0, 0)) ∧ W10.heap[g9]? = some (.cells #[.int .i64 a, .int .i64 b, .int .u64 t, .int .i64 c, .string u] 37 (0, 0))) := ⟨below_step H13.out.1.1 hb, below_row hb H13.out.1.2.2.1, below_row hb H13.out.1.2.2.2⟩; obtain ⟨z0, z1, z2, z3, z4⟩ := bx5 H14.out.2.2; have zf := Joins.unfrozen_of_block H14.out.2.2; clear hb m0 m1)
                | fail)
              have H15 : Hd (Below w.heap.size w (((((W10.setCell ⟨g9, 0, none⟩ (.int .i64 a2)).setCell ⟨g9, 1, none⟩ (.int .i64 b2)).setCell ⟨g9, 2, none⟩ (.int .u64 t2)).setCell ⟨g9, 3, none⟩ (.int .i64 c2)).setCell ⟨g9, 4, none⟩ (.string us2)) ∧ (((((W10.setCell ⟨g9, 0, none⟩ (.int .i64 a2)).setCell ⟨g9, 1, none⟩ (.int .i64 b2)).setCell ⟨g9, 2, none⟩ (.int .u64 t2)).setCell ⟨g9, 3, none⟩ (.int .i64 c2)).setCell ⟨g9, 4, none⟩ (.string us2)).heap[g6]? = some (.cells #[.int .i64 a2, .int .i64 b2, .int .u64 t2, .int .i64 c2, .string us2] 37 (0, 0)) ∧ (((((W10.setCell ⟨g9, 0, none⟩ (.int .i64 a2)).setCell ⟨g9, 1, none⟩ (.int .i64 b2)).setCell ⟨g9, 2, none⟩ (.int .u64 t2)).setCell ⟨g9, 3, none⟩ (.int .i64 c2)).setCell ⟨g9, 4, none⟩ (.string us2)).heap[g9]? = some (.cells #[.int .i64 a2, .int .i64 b2, .int .u64 t2, .int .i64 c2, .string us2] 37 (0, 0))) := ⟨by
                have hn := HNE.out
                have h1 := HLT.out
                have h2 := H0.out.1.size
                have h3 := H6.out.1
                have h5 := H5.out.1.size
                exact ⟨below_sheet H14.out.1 (by omega) _ _ _ _ _, (tch_sheet (Tch.refl (fun i => i = g9) W10) _ _ _ _ _).row H14.out.2.1 (fun (hx : g6 = g9) => by omega), sheetRow H14.out.2.2 _ _ _ _ _⟩⟩
              obtain ⟨W11, hW11⟩ : ∃ W11, (((((W10.setCell ⟨g9, 0, none⟩ (.int .i64 a2)).setCell ⟨g9, 1, none⟩ (.int .i64 b2)).setCell ⟨g9, 2, none⟩ (.int .u64 t2)).setCell ⟨g9, 3, none⟩ (.int .i64 c2)).setCell ⟨g9, 4, none⟩ (.string us2)) = W11 := ⟨_, rfl⟩
              rw [hW11] at H15 ⊢
              clear hW11 z0 z1 z2 z3 z4 zf
              obtain ⟨j0, j1, j2, j3, j4⟩ := bx5 H15.out.2.1
              obtain ⟨l0, l1, l2, l3, l4⟩ := bx5 H15.out.2.2
              have qe2 := eql_self a2 b2 t2 c2 us2
              go_wp2_with (first
                | (go_at_call 19; refine (num_errX nE2 _ HV2.out.1 HV2.out.2 _ (HE.out.1.below H15.out.1)).mono ?_; rintro e W' ⟨rfl, rfl⟩)
                | fail)
              go_ret
              exact ⟨rfl, H15.out.1⟩
end Go.Proofs.YtoenacghkpgnpaaDoor.LSheetReads
