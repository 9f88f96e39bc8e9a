/- The reference's Read of layer 4: what it answers. -/
import Derived.Test.YtoenacghkpgnpaaDoorRead
import Derived.Test.YtoenacghkpgnpaaDoorSheetP
import Derived.Deep.CutRange
import Derived.Deep.CutBlock
import Derived.Deep.RegionHeld3
namespace Go.Proofs.YtoenacghkpgnpaaDoor.Sh
open Go.RowKit Go.Proofs.YtoenacghkpgnpaaDoor.K Go.Proofs.YtoenacghkpgnpaaDoor.E Go.Proofs.YtoenacghkpgnpaaDoor.P1 Go.Proofs.YtoenacghkpgnpaaDoor.Codec Go.Proofs.YtoenacghkpgnpaaDoor.D Go.Proofs.YtoenacghkpgnpaaDoor.S

set_option maxRecDepth 100000 in
set_option maxHeartbeats 400000 in
theorem rget1_calls (A : Option Addr) (c : Nat) (xs : List Int) (nI : Nat) (hnI : nI = xs.length) (w : World) (hr : RdB w A xs) (hx : ∀ x, x ∈ xs → 0 ≤ x ∧ x ≤ 255) (h1 : 1 ≤ xs.length) (h8 : xs.length ≤ 8) :
    Calls Tryd.prog 90 #[.slice A nI c] w fun e w' => e = .returned (.tuple #[.int .u64 (num xs), .int .i64 0]) ∧ w = w' := by
  subst hnI
  have hsg : IntKind.u64.signed = false := rfl
  go_enter Tryd.func90, Tryd.ntmps90
  go_wp2
  go_loop [4, 5] (fun r i => ∃ (k : Nat) (q : Int), k ≤ xs.length ∧ i = .int .i64 k ∧ r = .int .u64 q ∧ Hid (num (xs.take k) = q)) (fun _ i => xs.length - (intOf i).toNat)
  case atStart => exact ⟨0, 0, by omega, rfl, rfl, rfl⟩
  case round =>
    obtain ⟨k, q, hk, rfl, rfl, HQ⟩ := hrel
    by_cases hlt : k < xs.length
    · obtain ⟨ad, rfl, hc0⟩ := hr.at_ k hlt
      obtain ⟨b, hb⟩ : ∃ b, xs.getD k 0 = b := ⟨_, rfl⟩
      have hmem : b ∈ xs := by
        rw [← hb, List.getD_eq_getElem?_getD, List.getElem?_eq_getElem hlt]; exact List.getElem_mem hlt
      have hsnoc : Hid (xs.take (k + 1) = xs.take k ++ [b]) := by
        show _ = _
        rw [List.take_succ_eq_append_getElem hlt, ← hb, List.getD_eq_getElem?_getD, List.getElem?_eq_getElem hlt]; rfl
      have hc : w.cell? (ad.add k) = some (.int .u8 b) := hb ▸ hc0
      obtain ⟨hb0, hb1⟩ := hx b hmem
      have hq : 0 ≤ q ∧ q < 72057594037927936 := by
        have h := num_range (xs.take k) fun x hx' => hx x (List.mem_of_mem_take hx')
        rw [HQ.out, List.length_take, Nat.min_eq_left hk] at h
        have h7 : (256 : Int) ^ k ≤ 256 ^ 7 := pow256_le k 7 (by omega)
        exact ⟨h.1, Int.lt_of_lt_of_le h.2 h7⟩
      have hw0 := u64w b hb0 (by omega)
      have hw1 := u64w (q * 256) (by omega) (by omega)
      have hw2 := u64w (q * 256 + b) (by omega) (by omega)
      clear hc0 hb hmem
      go_wp2
      go_round
      case rel => exact ⟨k + 1, q * 256 + b, by omega, by go_num, rfl, by show _ = _; rw [hsnoc.out, num_snoc, HQ.out]⟩
      case measure => simp [intOf]; omega
    · go_wp2
      have e : num xs = q := by rw [← HQ.out, List.take_of_length_le (by omega)]
      go_ret2
      exact ⟨by rw [e]; rfl, rfl⟩
set_option maxRecDepth 100000 in
set_option maxHeartbeats 400000 in
theorem number_calls (ad : Addr) (n c : Nat) (xs : List Int) (a b : Int) (lo k : Nat) (ha : a = lo) (hb : b = ((lo + k : Nat) : Int)) (hn : n = xs.length) (hc : n ≤ c) (w : World) (hr : RdB w (some ad) xs) (hx : ∀ x, x ∈ xs → 0 ≤ x ∧ x ≤ 255) (hk1 : 1 ≤ k) (hk8 : k ≤ 8) (hf : lo + k ≤ xs.length) (hl0 : 0 < lo) (r : Int) (hr2 : num ((xs.drop lo).take k) = r) :
    Calls Tryd.prog 67 #[.slice (some ad) n c, .int .i64 a, .int .i64 b] w fun e w' => e = .returned (.int .u64 r) ∧ w = w' := by
  subst ha hb hn
  have HR : Hd (RdB w (some ad) xs ∧ (∀ x, x ∈ xs → 0 ≤ x ∧ x ≤ 255) ∧ num ((xs.drop lo).take k) = r) := ⟨hr, hx, hr2⟩
  have HL : Hd (((xs.drop lo).take k).length = k) := ⟨by rw [List.length_take, List.length_drop]; omega⟩
  have hcn : ¬ c = lo := by omega
  have hlo : ¬ lo = 0 := by omega
  have hle : (lo : Int) ≤ ((lo + k : Nat) : Int) := by omega
  have hlc : ((lo + k : Nat) : Int) ≤ (c : Int) := by omega
  have hkk : lo + k - lo = k := by omega
  clear hr hx hr2
  go_enter Tryd.func67, Tryd.ntmps67
  go_wp2_with (first
    | (go_at_call 90; refine (rget1_calls _ _ ((xs.drop lo).take k) k HL.out.symm _ (rdB_sub HR.out.1 lo k) (fun x hx' => HR.out.2.1 x (List.mem_of_mem_drop (List.mem_of_mem_take hx'))) (by rw [HL.out]; exact hk1) (by rw [HL.out]; exact hk8)).mono ?_; rintro e w' ⟨rfl, rfl⟩)
    | fail)
  go_ret
  exact ⟨by rw [HR.out.2.2]; rfl, rfl⟩
-- THE WALKS
set_option maxRecDepth 100000 in
set_option maxHeartbeats 1000000 in
theorem rread_len (A : Option Addr) (n c : Nat) (id : Int) (w : World) (hn : n ≠ 4096) :
    Calls Tryd.prog 30 #[.slice A n c, .int .i64 id] w fun e w' => e = .returned (.tuple #[.agg zSheet, .int .i64 2]) ∧ Below w.heap.size w w' := by
  have hb : ((n : Int) != 4096) = true := by simp; omega
  go_enter Tryd.func30, Tryd.ntmps30
  go_wp2
  refine bodyPost_ret (v := .tuple #[.agg zSheet, .int .i64 2]) (results_sheet rfl _ _ w.heap.size _ _ rfl rfl (row_alloc_at _ _ _ rfl) rfl) rfl ⟨rfl, ?_⟩
  exact below_alloc (Below.refl _ _) _

/-- What the region that puts the sheet together reads. -/
theorem mkR {W0 W : World} {ad : Addr} {xs : List Int} {x0 : Int} {bd : ByteArray} {c : Nat} (k : RdB W0 (some ad) xs ∧ xs.length = 4096 ∧ xs.getD 0 0 = x0 ∧ gB xs = bd) (hb : Below W0.heap.size W0 W) :
    W.cell? ad = some (.int .u8 x0) ∧ (convert 25 9 (.slice (some ⟨ad.block, ad.off + 24, none⟩) 4072 (c - 24))).run Tryd.prog W = .ok (.string bd) W ∧ Hd (Below W0.heap.size W0 W) := by
  have hr := k.1.below hb
  obtain ⟨ad', e, hc⟩ := hr (by rw [k.2.1]; decide)
  obtain rfl := Option.some.inj e
  have h0 := hc 0 (by rw [k.2.1]; decide)
  rw [show ad.add 0 = ad by unfold Addr.add; simp, k.2.2.1] at h0
  refine ⟨h0, ?_, ⟨hb⟩⟩
  rw [← k.2.2.2]
  exact conv_bs (show RdB W (some ⟨ad.block, ad.off + 24, none⟩) (xs.drop 24) from rdB_drop hr 24) 4072 (c - 24) (by rw [List.length_drop, k.2.1])
theorem getR {W0 W : World} {ad : Addr} {x0 : Int} {bd : ByteArray} {c : Nat} (k : W.cell? ad = some (.int .u8 x0) ∧ (convert 25 9 (.slice (some ⟨ad.block, ad.off + 24, none⟩) 4072 (c - 24))).run Tryd.prog W = .ok (.string bd) W ∧ Hd (Below W0.heap.size W0 W)) : Below W0.heap.size W0 W := k.2.2.out
theorem below_undrew' {w w' : World} (h : Below w.drew.heap.size w.drew w') : Below w.heap.size w w' := ⟨h.os, h.tape, h.output, h.size, h.block⟩

set_option maxRecDepth 100000 in
set_option maxHeartbeats 2000000 in
theorem rread_full (ad : Addr) (c : Nat) (xs : List Int) (id : Int) (w : World) (hr : RdB w (some ad) xs) (hc : 4096 ≤ c) (hx : xs.length = 4096) (hxr : ∀ x, x ∈ xs → 0 ≤ x ∧ x ≤ 255)
    (kd ct id' tx : Int) (bd : ByteArray) (hkd : gK xs = kd) (hct : gC xs = ct) (hid : gI xs = id') (htx : gX xs = tx) (hbd : gB xs = bd) (R : Array Value) (nE : Int)
    (hR : (if MayS kd ct id' bd.size ∧ id' = id ∧ pg kd ct id' tx (sb bd) = xs then (#[.int .i64 kd, .int .i64 id', .int .u64 tx, .int .i64 ct, .string bd], (0 : Int)) else (zSheet, 2)) = (R, nE)) :
    Calls Tryd.prog 30 #[.slice (some ad) 4096 c, .int .i64 id] w fun e w' => e = .returned (.tuple #[.agg R, .int .i64 nE]) ∧ Below w.heap.size w w' := by
  have HX : Hd (xs.length = 4096 ∧ (∀ x, x ∈ xs → 0 ≤ x ∧ x ≤ 255) ∧ RdB w (some ad) xs) := ⟨hx, hxr, hr⟩
  have hk0 : xs.getD 0 0 = kd := by
    rw [← hkd]
    match xs, hx with
    | y :: ys, _ => simp [num]
  have HV : Hd ((xs.getD 0 0 = kd ∧ gC xs = ct ∧ gI xs = id' ∧ gX xs = tx) ∧ gB xs = bd) := ⟨⟨hk0, hct, hid, htx⟩, hbd⟩
  have HR : Hd ((if MayS kd ct id' bd.size ∧ id' = id ∧ pg kd ct id' tx (sb bd) = xs then (#[.int .i64 kd, .int .i64 id', .int .u64 tx, .int .i64 ct, .string bd], (0 : Int)) else (zSheet, 2)) = (R, nE)) := ⟨hR⟩
  have hN : ∀ o k : Nat, o + k ≤ 4096 → 0 ≤ num ((xs.drop o).take k) ∧ num ((xs.drop o).take k) < 256 ^ k := fun o k h => by
    have := num_range ((xs.drop o).take k) (fun x hx' => hxr x (List.mem_of_mem_drop (List.mem_of_mem_take hx')))
    rwa [show ((xs.drop o).take k).length = k by rw [List.length_take, List.length_drop, hx]; omega] at this
  have hT : 0 ≤ tx ∧ tx < 18446744073709551616 := by rw [← htx]; exact hN 8 8 (by decide)
  have HT : Hd (0 ≤ tx ∧ tx < 18446744073709551616) := ⟨hT⟩
  have hi0 : 0 ≤ id' := by rw [← hid]; exact (hN 4 4 (by decide)).1
  have hi1 : id' < 4294967296 := by rw [← hid]; exact (hN 4 4 (by decide)).2
  have hc0 : 0 ≤ ct := by rw [← hct]; exact (hN 2 2 (by decide)).1
  have hc1 : ct < 65536 := by rw [← hct]; exact (hN 2 2 (by decide)).2
  have hk1 : 0 ≤ kd ∧ kd ≤ 255 := by rw [← hk0, List.getD_eq_getElem?_getD, List.getElem?_eq_getElem (by omega)]; exact hxr _ (List.getElem_mem _)
  have hcn : ¬ c = 24 := by omega
  have hci : ((4096 : Nat) : Int) ≤ (c : Int) := by omega
  have HC : Hd (4096 ≤ c) := ⟨hc⟩
  clear hr hx hxr hkd hct hid htx hbd hR hN hT hk0 hc
  obtain ⟨hka, hkb⟩ := hk1
  have hw0 : IntKind.i64.wrap kd = kd := IntWalk.i64_in _ (by omega)
  have hw1 : IntKind.i64.wrap id' = id' := IntWalk.i64_in _ (by omega)
  have hw2 : IntKind.i64.wrap ct = ct := IntWalk.i64_in _ (by omega)
  go_enter Tryd.func30, Tryd.ntmps30
  go_upto_region 3 with (fail)
  have H0 : Hd (Below w.heap.size w (w.alloc (.cells #[.int .i64 0, .int .i64 0, .int .u64 0, .int .i64 0, .string ⟨#[]⟩] 37)) ∧ (w.alloc (.cells #[.int .i64 0, .int .i64 0, .int .u64 0, .int .i64 0, .string ⟨#[]⟩] 37)).heap[w.heap.size]? = some (.cells zSheet 37 (0, 0))) := ⟨below_alloc (Below.refl _ _) _, row_alloc_at _ _ _ rfl⟩
  obtain ⟨W0, hW0⟩ : ∃ W0, w.alloc (.cells #[.int .i64 0, .int .i64 0, .int .u64 0, .int .i64 0, .string ⟨#[]⟩] 37) = W0 := ⟨_, rfl⟩
  rw [hW0] at H0 ⊢
  clear hW0
  have HK : Hd (RdB W0 (some ad) xs ∧ xs.length = 4096 ∧ xs.getD 0 0 = kd ∧ gB xs = bd) := ⟨HX.out.2.2.below H0.out.1, HX.out.1, HV.out.1.1, HV.out.2⟩
  go_cut [6] from 14 to 29 (fun s6 wx => ∃ g, s6 = .pointer (some ⟨g, 0, none⟩) ∧ Hd (W0.heap.size ≤ g ∧ Below W0.heap.size W0 wx ∧ wx.heap[g]? = some (.cells #[.int .i64 kd, .int .i64 id', .int .u64 tx, .int .i64 ct, .string bd] 37 (0, 0))))
  case first =>
    go_region_held3 (fun w' => w'.cell? ad = some (.int .u8 kd) ∧ (convert 25 9 (.slice (some ⟨ad.block, ad.off + 24, none⟩) 4072 (c - 24))).run Tryd.prog w' = .ok (.string bd) w' ∧ Hd (Below W0.heap.size W0 w'))
      (first
        | exact mkR HK.out (below_drewN (Below.refl _ _) 1)
        | exact mkR HK.out (below_step (getR (by assumption)) (by assumption))
        | exact mkR HK.out (below_alloc (getR (by assumption)) _)
        | exact mkR HK.out (below_alloc (below_undrew' hb) _)
        | exact mkR HK.out (below_alloc (Below.refl _ _) _).drew
        | exact mkR HK.out (getR (by assumption)))
      (first
        | (go_at_call_of 67 (Value.int .i64 16); refine (number_calls ad 4096 c xs 8 16 8 8 rfl rfl HX.out.1.symm HC.out _ (HK.out.1.below (getR (by assumption))) HX.out.2.1 (by decide) (by decide) (by rw [HX.out.1]; decide) (by decide) tx HV.out.1.2.2.2).mono ?_; rintro e W2 ⟨rfl, hb⟩; subst hb)
        | (go_at_call_of 67 (Value.int .i64 2); refine (number_calls ad 4096 c xs 2 4 2 2 rfl rfl HX.out.1.symm HC.out _ (HK.out.1.below (getR (by assumption))) HX.out.2.1 (by decide) (by decide) (by rw [HX.out.1]; decide) (by decide) ct HV.out.1.2.1).mono ?_; rintro e W2 ⟨rfl, hb⟩; subst hb)
        | (go_at_call 67; refine (number_calls ad 4096 c xs 4 8 4 4 rfl rfl HX.out.1.symm HC.out _ (HK.out.1.below (getR (by assumption))) HX.out.2.1 (by decide) (by decide) (by rw [HX.out.1]; decide) (by decide) id' HV.out.1.2.2.1).mono ?_; rintro e W2 ⟨rfl, hb⟩; subst hb))
    all_goals
      (try go_wp2_with fail)
      go_meet
      exact ⟨W0.heap.size, rfl, ⟨Nat.le_refl _, (below_alloc (Below.refl _ _) _).drew, row_alloc_at W0 _ _ rfl⟩⟩
  case rest =>
    obtain ⟨g, hs6, HG⟩ := hcut
    subst hs6
    have H1 : Hd (Below w.heap.size w wc ∧ wc.heap[w.heap.size]? = some (.cells zSheet 37 (0, 0)) ∧ wc.heap[g]? = some (.cells #[.int .i64 kd, .int .i64 id', .int .u64 tx, .int .i64 ct, .string bd] 37 (0, 0))) := ⟨below_step H0.out.1 HG.out.2.1, below_row HG.out.2.1 H0.out.2, HG.out.2.2⟩
    obtain ⟨j0, j1, j2, j3, j4⟩ := bx5 H1.out.2.2
    clear HG hw0 hw1 hw2 hi0 hi1 hc0 hc1 hka hkb hcn hci
    obtain ⟨Ln, hLn⟩ : ∃ Ln, (if MayS kd ct id' bd.size then (pg kd ct id' tx (sb bd), (0 : Int)) else ([], 1)) = Ln := ⟨_, rfl⟩
    obtain ⟨L, n⟩ := Ln
    have HLn : Hd ((if MayS kd ct id' bd.size then (pg kd ct id' tx (sb bd), (0 : Int)) else ([], 1)) = (L, n)) := ⟨hLn⟩
    clear hLn
    go_upto_region 5 with (first
      | (go_at_call 23; refine (rseal_calls kd ct id' tx bd _ HT.out.1 HT.out.2 L n HLn.out).mono ?_; rintro e W2 ⟨vq, rfl, ho, hb⟩; have H2 : Hd ((Below w.heap.size w W2 ∧ W2.heap[w.heap.size]? = some (.cells zSheet 37 (0, 0)) ∧ W2.heap[g]? = some (.cells #[.int .i64 kd, .int .i64 id', .int .u64 tx, .int .i64 ct, .string bd] 37 (0, 0))) ∧ OwnB W2 wc.heap.size vq L) := ⟨⟨below_step H1.out.1 hb, below_row hb H1.out.2.1, below_row hb H1.out.2.2⟩, ho⟩; clear ho hb j0 j1 j2 j3 j4)
      | fail)
    obtain ⟨Aq, cq, hvq, hcq, hrq⟩ := H2.out.2.form
    have HQ : Hd (L.length ≤ cq ∧ RdB W2 Aq L) := ⟨hcq, hrq⟩
    have HLL : Hd (L.length < 9223372036854775807) := ⟨by
      have h := HLn.out
      by_cases hm : MayS kd ct id' bd.size
      · rw [if_pos hm] at h
        rw [← (Prod.mk.inj h).1, pg_length _ _ _ _ _ (by rw [sb_length]; unfold MayS at hm; omega)]; decide
      · rw [if_neg hm] at h
        rw [← (Prod.mk.inj h).1]; decide⟩
    obtain ⟨sm, hsm⟩ : ∃ sm, decide (L = xs) = sm := ⟨_, rfl⟩
    have HS : Hd (decide (L = xs) = sm) := ⟨hsm⟩
    subst hvq
    clear hcq hrq hsm
    go_upto_region 6 with (first
      | (go_at_call 18; refine (same_calls _ _ _ _ _ _ L xs sm HS.out rfl HX.out.1.symm _ HQ.out.2 (HX.out.2.2.below H2.out.1.1) HQ.out.1 HC.out HLL.out (by rw [HX.out.1]; omega)).mono ?_; rintro e W3 ⟨rfl, hw⟩; have hb := below_drawn hw; have H3 : Hd (Below w.heap.size w W3 ∧ W3.heap[w.heap.size]? = some (.cells zSheet 37 (0, 0)) ∧ W3.heap[g]? = some (.cells #[.int .i64 kd, .int .i64 id', .int .u64 tx, .int .i64 ct, .string bd] 37 (0, 0))) := ⟨below_step H2.out.1.1 hb, below_row hb H2.out.1.2.1, below_row hb H2.out.1.2.2⟩; clear hw hb)
      | fail)
    obtain ⟨j0, j1, j2, j3, j4⟩ := bx5 H3.out.2.2
    obtain ⟨z0, z1, z2, z3, z4⟩ := bx5 H3.out.2.1
    have zf := Joins.unfrozen_of_block H3.out.2.1
    by_cases hm : MayS kd ct id' bd.size
    · have hl := HLn.out
      rw [if_pos hm] at hl
      obtain ⟨hl1, rfl⟩ := Prod.mk.inj hl
      by_cases hi : id' = id
      · have hib : (id' != id) = false := by simp [hi]
        by_cases hp : pg kd ct id' tx (sb bd) = xs
        · have hRR := HR.out
          rw [if_pos ⟨hm, hi, hp⟩] at hRR
          have hs : sm = true := by rw [← HS.out, ← hl1]; exact decide_eq_true hp
          obtain ⟨h1, h2⟩ := Prod.mk.inj hRR
          have HRR : Hd (R = #[.int .i64 kd, .int .i64 id', .int .u64 tx, .int .i64 ct, .string bd] ∧ nE = 0) := ⟨h1.symm, h2.symm⟩
          subst hs
          clear hm hi hp hRR h1 h2 hl hl1
          go_wp2
          obtain ⟨rfl, rfl⟩ := HRR.out
          refine bodyPost_ret (v := .tuple #[.agg #[.int .i64 kd, .int .i64 id', .int .u64 tx, .int .i64 ct, .string bd], .int .i64 0]) (results_sheet rfl _ _ w.heap.size _ _ rfl rfl (sheetRow H3.out.2.1 _ _ _ _ _) rfl) rfl ⟨rfl, ?_⟩
          exact below_sheet H3.out.1 (Nat.le_refl _) _ _ _ _ _
        · have hs : sm = false := by rw [← HS.out, ← hl1]; exact decide_eq_false hp
          have NO : Hd (¬ (MayS kd ct id' bd.size ∧ id' = id ∧ pg kd ct id' tx (sb bd) = xs)) := ⟨fun h => hp h.2.2⟩
          subst hs
          clear hm hi hp hl hl1
          go_wp2
          have hRR := HR.out
          rw [if_neg NO.out] at hRR
          obtain ⟨rfl, rfl⟩ := Prod.mk.inj hRR
          refine bodyPost_ret (v := .tuple #[.agg zSheet, .int .i64 2]) (results_sheet rfl _ _ w.heap.size _ _ rfl rfl (sheetRow H3.out.2.1 _ _ _ _ _) rfl) rfl ⟨rfl, ?_⟩
          exact below_sheet H3.out.1 (Nat.le_refl _) _ _ _ _ _
      · have hib : (id' != id) = true := by simp [hi]
        have NO : Hd (¬ (MayS kd ct id' bd.size ∧ id' = id ∧ pg kd ct id' tx (sb bd) = xs)) := ⟨fun h => hi h.2.1⟩
        clear hm hi hl hl1
        cases sm
        all_goals
          go_wp2
          have hRR := HR.out
          rw [if_neg NO.out] at hRR
          obtain ⟨rfl, rfl⟩ := Prod.mk.inj hRR
          refine bodyPost_ret (v := .tuple #[.agg zSheet, .int .i64 2]) (results_sheet rfl _ _ w.heap.size _ _ rfl rfl (sheetRow H3.out.2.1 _ _ _ _ _) rfl) rfl ⟨rfl, ?_⟩
          exact below_sheet H3.out.1 (Nat.le_refl _) _ _ _ _ _
    · have hl := HLn.out
      rw [if_neg hm] at hl
      obtain ⟨hl1, rfl⟩ := Prod.mk.inj hl
      have NO : Hd (¬ (MayS kd ct id' bd.size ∧ id' = id ∧ pg kd ct id' tx (sb bd) = xs)) := ⟨fun h => hm h.1⟩
      clear hm hl hl1
      go_wp2
      have hRR := HR.out
      rw [if_neg NO.out] at hRR
      obtain ⟨rfl, rfl⟩ := Prod.mk.inj hRR
      refine bodyPost_ret (v := .tuple #[.agg zSheet, .int .i64 2]) (results_sheet rfl _ _ w.heap.size _ _ rfl rfl (sheetRow H3.out.2.1 _ _ _ _ _) rfl) rfl ⟨rfl, ?_⟩
      exact below_sheet H3.out.1 (Nat.le_refl _) _ _ _ _ _
end Go.Proofs.YtoenacghkpgnpaaDoor.Sh
