/- Bytes of a meta that were written over, asked about in the same memory, are answered as a copy of them is. -/
import Derived.Test.YtoenacghkpgnpaaDoorChooseV
import Derived.Test.YtoenacghkpgnpaaDoorWalkMetaBack
namespace Go.Proofs.YtoenacghkpgnpaaDoor.D
open Go.RowKit Go.Proofs.YtoenacghkpgnpaaDoor.K Go.Proofs.YtoenacghkpgnpaaDoor.E Go.Proofs.YtoenacghkpgnpaaDoor.P1 Go.Proofs.YtoenacghkpgnpaaDoor.Codec Go.Proofs.YtoenacghkpgnpaaDoor.Meta Go.Proofs.YtoenacghkpgnpaaDoor.Q Go.Proofs.YtoenacghkpgnpaaDoor.S Go.Proofs.YtoenacghkpgnpaaDoor.R5
open Go.Proofs.YtoenacghkpgnpaaDoor.LMetaBack (errV0 errV2 num_errY pagesM)
open Go.Proofs.YtoenacghkpgnpaaDoor.LMetaDecodes (mkS getS)

theorem errV9 (B : Nat → Addr) : errV B 9 = errAt (B 8) := rfl
theorem wr_last (p r t : Int) : (Meta.wr p r t).getD 511 0 = 0 := by
  rw [wr_lit, lit, List.getD_eq_getElem?_getD, List.getElem?_append_right (by rw [lit0_length]; decide), lit0_length, zs, List.getElem?_replicate, if_pos (by decide)]
  rfl
/-- The bytes with the last one written over. -/
def spoilt (p r t : Int) : List Int := (Meta.wr p r t).set 511 1
theorem spoilt_length (p r t : Int) : (spoilt p r t).length = 512 := by rw [spoilt, List.length_set, wr_length]
theorem spoilt_range (p r t : Int) : ∀ x, x ∈ spoilt p r t → 0 ≤ x ∧ x ≤ 255 := fun x hx => by
  rcases List.mem_or_eq_of_mem_set hx with h | h
  · exact wr_range p r t x h
  · subst h; decide
theorem spoilt_none (p r t q s : Int) : ¬ OkD (spoilt p r t) q s := by
  rintro ⟨-, -, -, h⟩
  have h1 := congrArg (fun L => L.getD 511 0) h
  have h2 : (spoilt p r t).getD 511 0 = 1 := by
    rw [spoilt, List.getD_eq_getElem?_getD, List.getElem?_set_self (by rw [wr_length]; decide)]; rfl
  simp only [wr_last, h2] at h1
  exact absurd h1 (by decide)
theorem decR_spoilt (p r t q s : Int) (hq : PagesM q) (hs : s = 0 ∨ s = 1) : decR (spoilt p r t) q s = (0, 0, 0, 2) := by
  unfold decR
  rw [if_pos ⟨hq, hs⟩, if_neg (fun k => spoilt_none p r t q s k.2)]
theorem chR_spoilt (p r t q : Int) (hq : PagesM q) : chR (spoilt p r t) (spoilt p r t) q = (0, 0, 0, 9) := by
  unfold chR
  rw [if_pos hq, decR_spoilt p r t q 0 hq (.inl rfl), decR_spoilt p r t q 1 hq (.inr rfl)]
  rfl
theorem chR_back (p r t : Int) (hm : MayM p r) (h0 : 0 ≤ t) (h1 : t < 18446744073709551616) : chR (Meta.wr p r t) (Meta.wr p r t) p = (p, r, t, 0) := by
  unfold chR
  rw [if_pos (pagesM hm)]
  by_cases h : t % 2 = 0
  · rw [decR_back p r t hm h0 h1 0 h, decR_other p r t hm h0 h1 p 1 (pagesM hm) (.inr rfl) (fun k => by omega)]
    rfl
  · rw [decR_back p r t hm h0 h1 1 (by omega), decR_other p r t hm h0 h1 p 0 (pagesM hm) (.inl rfl) (fun k => by omega)]
    rfl
theorem neq_metaE (p r t : Int) (w : World) : (binOp .neq 24 (.agg #[.int .i64 p, .int .i64 r, .int .u64 t]) (.agg #[.int .i64 p, .int .i64 r, .int .u64 t])).run Tryd.prog w = .ok (.bool false) w := by
  have h := eql_meta p r t p r t true (by simp) w
  rw [run_eql_struct] at h
  rw [run_neq_struct]
  cases hx : (Op.equalIn 10000 24 (.agg #[.int .i64 p, .int .i64 r, .int .u64 t]) (.agg #[.int .i64 p, .int .i64 r, .int .u64 t])).run Tryd.prog w <;> rw [hx] at h <;> simp [Result.andThen] at h ⊢
  · exact h

theorem copyF {A : Option Addr} {c nI : Nat} {xs : List Int} (hnI : nI = xs.length) {w : World} (hr : RdB w A xs) (hc : nI ≤ c) (hl : xs.length ≤ 140737488355328) :
    Calls Tryd.prog 37 #[.slice A nI c] w fun e w' => ∃ A1 m c1, e = .returned (.slice A1 m c1) ∧ Hd (m = xs.length ∧ m ≤ c1 ∧ RdB w' A1 xs) ∧ Below w.heap.size w w' :=
  (copy_calls A c nI xs hnI w hr hc hl).mono fun e w' ⟨v, he, ho, hb⟩ => by
    obtain ⟨A1, c1, rfl, hcc, hrd⟩ := ho.form
    exact ⟨A1, _, c1, he, ⟨rfl, hcc, hrd⟩, hb⟩
/-- What is true of the world throughout: the box of the meta, the bytes. -/
structure AS (w0 W : World) (bx g : Nat) (p r T : Int) (L : List Int) : Prop where
  below : Below w0.heap.size w0 W
  box : W.heap[bx]? = some (.cells #[.int .i64 p, .int .i64 r, .int .u64 T] 24 (0, 0))
  bytes : W.heap[g]? = some (.cells (u8s L) 5 (0, 0))
theorem AS.step {w0 W W' : World} {bx g : Nat} {p r T : Int} {L : List Int} (h : AS w0 W bx g p r T L) (hb : Below W.heap.size W W') : AS w0 W' bx g p r T L :=
  ⟨below_step h.below hb, below_row hb h.box, below_row hb h.bytes⟩
theorem AS.put {w0 W : World} {bx g : Nat} {p r T : Int} {L : List Int} (h : AS w0 W bx g p r T L) (hg : w0.heap.size ≤ g) (hbx : bx ≠ g) (i : Nat) (v : Int) : AS w0 (W.setCell ⟨g, i, none⟩ (.int .u8 v)) bx g p r T (L.set i v) := by
  have ht := (Tch.refl (fun j => j = g) W).setCell (p := ⟨g, i, none⟩) (.inl rfl) (.int .u8 v)
  exact ⟨below_set h.below hg _, ht.row h.box hbx, by rw [← u8s_set]; exact Joins.block_setCell h.bytes _⟩

set_option maxRecDepth 100000 in
set_option maxHeartbeats 1000000 in
theorem anew_calls {B : Nat → Addr} (w0 w : World) (g : Nat) (p r T : Int) (HM : Hd (MayM p r)) (HT : Hd (0 ≤ T ∧ T < 18446744073709551616)) (HE : Hd (Errs errG B w0 ∧ TabOk w0)) (HB : Hd (Below w0.heap.size w0 w ∧ w0.heap.size ≤ g ∧ w.heap[g]? = some (.cells (u8s (Meta.wr p r T)) 5 (0, 0)))) :
    Calls Tryd.prog 38 #[.slice (some ⟨g, 0, none⟩) 512 512, .agg #[.int .i64 p, .int .i64 r, .int .u64 T]] w fun e w' => e = .returned (.bool true) ∧ Below w0.heap.size w0 w' := by
  obtain ⟨T2, hT2⟩ : ∃ T2, T % 2 = T2 := ⟨_, rfl⟩
  have HT2 : Hd (T % 2 = T2) := ⟨hT2⟩
  have ht20 : 0 ≤ T2 := by omega
  have ht21 : T2 ≤ 1 := by omega
  have ht0 := HT.out.1
  have hrem : Int.tmod T 2 = T2 := by rw [Int.tmod_eq_emod_of_nonneg ht0]; exact hT2
  have qn := neq_nil_nil
  have qm := neq_metaE p r T
  have hx1 : bits .xor .u8 0 1 = 1 := by decide
  have HGw : Hd (w.heap.size ≠ g) := ⟨by have := (Array.getElem?_eq_some_iff.1 HB.out.2.2).1; omega⟩
  clear hT2
  go_enter Tryd.func38, Tryd.ntmps38
  go_upto_region 6 with (first
    | (go_at_call 25; refine (decode_calls (B := B) _ 512 512 (Meta.wr p r T) (wr_length p r T).symm p T2 _ _ _ _ (decR_back p r T HM.out HT.out.1 HT.out.2 T2 HT2.out) _ (HE.out.1.below (below_step HB.out.1 (below_alloc (Below.refl _ _) _))) (HE.out.2.below (below_step HB.out.1 (below_alloc (Below.refl _ _) _))) (RdB.of_row0 (below_row (below_alloc (Below.refl _ _) _) HB.out.2.2)) (wr_range p r T)).mono ?_; rw [errV0]; rintro e W1 ⟨rfl, hb⟩; have H1 : Hd (AS w0 W1 w.heap.size g p r T (Meta.wr p r T)) := ⟨⟨below_step HB.out.1 (box_below hb), box_row hb, below_row (box_below hb) HB.out.2.2⟩⟩; have j0 := fun o => below_cell (below_alloc (Below.refl _ W1) o) ((Joins.cell_of_block H1.out.box 0).trans (show _ = some (Value.int .i64 p) from rfl)); clear hb)
    | (go_at_call 35; refine (choose_calls (B := B) _ _ 512 512 512 512 (Meta.wr p r T) (Meta.wr p r T) (wr_length p r T).symm (wr_length p r T).symm p _ _ _ _ (chR_back p r T HM.out HT.out.1 HT.out.2) (wr_range p r T) (wr_range p r T) _ (HE.out.1.below (below_alloc H1.out.below _)) (HE.out.2.below (below_alloc H1.out.below _)) (RdB.of_row0 (below_row (below_alloc (Below.refl _ _) _) H1.out.bytes)) (RdB.of_row0 (below_row (below_alloc (Below.refl _ _) _) H1.out.bytes))).mono ?_; rw [errV0]; rintro e W2 ⟨rfl, hb⟩; have H2 : Hd (AS w0 W2 w.heap.size g p r T (Meta.wr p r T)) := ⟨H1.out.step (box_below hb)⟩; have a0 := fun o => below_cell (below_alloc (Below.refl _ W2) o) (box_cell hb 0 _ rfl); have a1 := fun o => below_cell (below_alloc (Below.refl _ W2) o) (box_cell hb 1 _ rfl); have a2 := fun o => below_cell (below_alloc (Below.refl _ W2) o) (box_cell hb 2 _ rfl); have x0 := fun o => below_cell (below_alloc (Below.refl _ W2) o) ((Joins.cell_of_block H2.out.box 0).trans (show _ = some (Value.int .i64 p) from rfl)); have x1 := fun o => below_cell (below_alloc (Below.refl _ W2) o) ((Joins.cell_of_block H2.out.box 1).trans (show _ = some (Value.int .i64 r) from rfl)); have x2 := fun o => below_cell (below_alloc (Below.refl _ W2) o) ((Joins.cell_of_block H2.out.box 2).trans (show _ = some (Value.int .u64 T) from rfl)); clear hb j0)
    | fail)
  -- SECOND
  obtain ⟨W3, hW3⟩ : ∃ W3, W2.alloc (.cells #[.int .i64 p, .int .i64 r, .int .u64 T] 24) = W3 := ⟨_, rfl⟩
  have H3 : Hd (AS w0 W3 w.heap.size g p r T (Meta.wr p r T)) := ⟨hW3 ▸ H2.out.step (below_alloc (Below.refl _ _) _)⟩
  rw [hW3]
  clear hW3 a0 a1 a2 x0 x1 x2
  have hc := (Joins.cell_of_block H3.out.bytes 511).trans ((K.u8s_at (Meta.wr p r T) 511 (by rw [wr_length]; decide)).trans (by rw [wr_last]))
  have hf := Joins.unfrozen_of_block H3.out.bytes
  have HP : Hd (AS w0 (W3.setCell ⟨g, 511, none⟩ (.int .u8 1)) w.heap.size g p r T (spoilt p r T)) := ⟨H3.out.put HB.out.2.1 HGw.out 511 1⟩
  have y0 := ((Joins.cell_of_block HP.out.box 0).trans (show _ = some (Value.int .i64 p) from rfl))
  go_upto_region 8 with (first
    | (go_at_call 25; refine (decode_calls (B := B) _ 512 512 (spoilt p r T) (spoilt_length p r T).symm p T2 _ _ _ _ (decR_spoilt p r T p T2 (pagesM HM.out) (by omega)) _ (HE.out.1.below HP.out.below) (HE.out.2.below HP.out.below) (RdB.of_row0 HP.out.bytes) (spoilt_range p r T)).mono ?_; rw [errV2]; rintro e W4 ⟨rfl, hb⟩; have H4 : Hd (AS w0 W4 w.heap.size g p r T (spoilt p r T)) := ⟨HP.out.step hb⟩; clear hb y0 hc hf)
    | fail)
  obtain ⟨W5, hW5⟩ : ∃ W5, W4.alloc (.cells #[.int .i64 0, .int .i64 0, .int .u64 0] 24) = W5 := ⟨_, rfl⟩
  have H5 : Hd (AS w0 W5 w.heap.size g p r T (spoilt p r T) ∧ W5.heap[W4.heap.size]? = some (.cells #[.int .i64 0, .int .i64 0, .int .u64 0] 24 (0, 0))) := ⟨hW5 ▸ H4.out.step (below_alloc (Below.refl _ _) _), hW5 ▸ row_alloc_at _ _ _ rfl⟩
  rw [hW5]
  clear hW5
  have HK : Hd (W5.cell? ⟨w.heap.size, 0, none⟩ = some (.int .i64 p) ∧ W5.cell? ⟨w.heap.size, 1, none⟩ = some (.int .i64 r) ∧ W5.cell? ⟨w.heap.size, 2, none⟩ = some (.int .u64 T)) := ⟨((Joins.cell_of_block H5.out.1.box 0).trans (show _ = some (Value.int .i64 p) from rfl)), ((Joins.cell_of_block H5.out.1.box 1).trans (show _ = some (Value.int .i64 r) from rfl)), ((Joins.cell_of_block H5.out.1.box 2).trans (show _ = some (Value.int .u64 T) from rfl))⟩
  go_cut [12, 13] from 79 to 87 (fun s12 s13 wx => ∃ g12, s12 = .pointer (some ⟨g12, 0, none⟩) ∧ s13 = errAt (B 1) ∧ Hd (Below W5.heap.size W5 wx ∧ wx.heap[g12]? = some (.cells #[.int .i64 0, .int .i64 0, .int .u64 0] 24 (0, 0))))
  case first =>
    go_region_held3 (fun w' => w'.cell? ⟨w.heap.size, 0, none⟩ = some (.int .i64 p) ∧ w'.cell? ⟨w.heap.size, 1, none⟩ = some (.int .i64 r) ∧ w'.cell? ⟨w.heap.size, 2, none⟩ = some (.int .u64 T) ∧ Hd (Below W5.heap.size W5 w'))
      (first
        | exact mkS HK.out (below_drewN (Below.refl _ _) 1)
        | exact mkS HK.out HQ.out
        | exact mkS HK.out HQ2.out
        | exact mkS HK.out (below_alloc (getS (by assumption)) _)
        | exact mkS HK.out (below_alloc HQ2.out _)
        | exact mkS HK.out (below_meta HQ2.out (Nat.le_refl _) _ _ _)
        | exact mkS HK.out (below_meta HQ2.out HQ.out.size _ _ _)
        | exact mkS HK.out (getS (by assumption)))
      (first
        | (go_at_call 37; refine (copyF (spoilt_length p r T).symm ?hr (Nat.le_refl _) (by rw [spoilt_length]; decide)).mono ?_; (case hr => exact (RdB.of_row0 H5.out.1.bytes).below (getS (by assumption))); rintro e Wc ⟨Ac, mc, cc, rfl, HC, hb⟩; have HQ : Hd (Below W5.heap.size W5 Wc) := ⟨below_step (getS (by assumption)) hb⟩; (try have zr : Hd _ := ⟨box_row (below_undrew hb)⟩); clear hb)
        | (go_at_call 25; refine (decode_calls (B := B) _ _ _ (spoilt p r T) HC.out.1 p T2 _ _ _ _ (decR_spoilt p r T p T2 (pagesM HM.out) (by omega)) _ ?hE ?hs ?hr (spoilt_range p r T)).mono ?_; (case hE => exact HE.out.1.below (below_step H5.out.1.below (getS (by assumption)))); (case hs => exact HE.out.2.below (below_step H5.out.1.below (getS (by assumption)))); (case hr => first | exact HC.out.2.2 | exact HC.out.2.2.below (below_alloc (Below.refl _ _) _)); rw [errV2]; rintro e Wd ⟨rfl, hb⟩; have HQ2 : Hd (Below W5.heap.size W5 Wd) := ⟨below_step (getS (by assumption)) hb⟩; (try have zq : Hd _ := ⟨below_row hb zr.out⟩); (try have zq : Hd _ := ⟨box_row hb⟩); (try have q0 := (Joins.cell_of_block zq.out 0).trans (show _ = some (Value.int .i64 0) from rfl)); (try have q1 := (Joins.cell_of_block zq.out 1).trans (show _ = some (Value.int .i64 0) from rfl)); (try have q2 := (Joins.cell_of_block zq.out 2).trans (show _ = some (Value.int .u64 0) from rfl)); (try have qf := Joins.unfrozen_of_block zq.out); clear hb))
    all_goals
      rename_i hH
      have hbl := getS hH
      (try go_wp2_with fail)
      go_meet
      exact ⟨_, rfl, rfl, ⟨hbl, by first | exact metaRow zq.out _ _ _ | exact row_alloc_at _ _ _ rfl⟩⟩
  case rest =>
    obtain ⟨g12, hs12, hs13, HC2⟩ := hcut
    subst hs12
    subst hs13
    have H6 : Hd (AS w0 wc w.heap.size g p r T (spoilt p r T) ∧ wc.heap[W4.heap.size]? = some (.cells #[.int .i64 0, .int .i64 0, .int .u64 0] 24 (0, 0)) ∧ wc.heap[g12]? = some (.cells #[.int .i64 0, .int .i64 0, .int .u64 0] 24 (0, 0))) := ⟨H5.out.1.step HC2.out.1, below_row HC2.out.1 H5.out.2, HC2.out.2⟩
    have y1 := (Joins.cell_of_block H6.out.1.box 0).trans (show _ = some (Value.int .i64 p) from rfl)
    go_upto_region 10 with (first
      | (go_at_call 35; refine (choose_calls (B := B) _ _ 512 512 512 512 (spoilt p r T) (spoilt p r T) (spoilt_length p r T).symm (spoilt_length p r T).symm p _ _ _ _ (chR_spoilt p r T p (pagesM HM.out)) (spoilt_range p r T) (spoilt_range p r T) _ (HE.out.1.below H6.out.1.below) (HE.out.2.below H6.out.1.below) (RdB.of_row0 H6.out.1.bytes) (RdB.of_row0 H6.out.1.bytes)).mono ?_; rw [errV9]; rintro e W7 ⟨rfl, hb⟩; have H7 : Hd (AS w0 W7 w.heap.size g p r T (spoilt p r T) ∧ W7.heap[W4.heap.size]? = some (.cells #[.int .i64 0, .int .i64 0, .int .u64 0] 24 (0, 0)) ∧ W7.heap[g12]? = some (.cells #[.int .i64 0, .int .i64 0, .int .u64 0] 24 (0, 0))) := ⟨H6.out.1.step hb, below_row hb H6.out.2.1, below_row hb H6.out.2.2⟩; clear hb y1)
      | fail)
    obtain ⟨W8, hW8⟩ : ∃ W8, W7.alloc (.cells #[.int .i64 0, .int .i64 0, .int .u64 0] 24) = W8 := ⟨_, rfl⟩
    have H8 : Hd ((AS w0 W8 w.heap.size g p r T (spoilt p r T) ∧ W8.heap[W4.heap.size]? = some (.cells #[.int .i64 0, .int .i64 0, .int .u64 0] 24 (0, 0)) ∧ W8.heap[g12]? = some (.cells #[.int .i64 0, .int .i64 0, .int .u64 0] 24 (0, 0))) ∧ W8.heap[W7.heap.size]? = some (.cells #[.int .i64 0, .int .i64 0, .int .u64 0] 24 (0, 0))) := ⟨⟨hW8 ▸ H7.out.1.step (below_alloc (Below.refl _ _) _), hW8 ▸ below_row (below_alloc (Below.refl _ _) _) H7.out.2.1, hW8 ▸ below_row (below_alloc (Below.refl _ _) _) H7.out.2.2⟩, hW8 ▸ row_alloc_at _ _ _ rfl⟩
    rw [hW8]
    clear hW8
    have HK8 : Hd (W8.cell? ⟨w.heap.size, 0, none⟩ = some (.int .i64 p) ∧ W8.cell? ⟨w.heap.size, 1, none⟩ = some (.int .i64 r) ∧ W8.cell? ⟨w.heap.size, 2, none⟩ = some (.int .u64 T)) := ⟨(Joins.cell_of_block H8.out.1.1.box 0).trans (show _ = some (Value.int .i64 p) from rfl), (Joins.cell_of_block H8.out.1.1.box 1).trans (show _ = some (Value.int .i64 r) from rfl), (Joins.cell_of_block H8.out.1.1.box 2).trans (show _ = some (Value.int .u64 T) from rfl)⟩
    go_cut [16, 17] from 96 to 105 (fun s16 s17 wx => ∃ g16, s16 = .pointer (some ⟨g16, 0, none⟩) ∧ s17 = errAt (B 8) ∧ Hd (Below W8.heap.size W8 wx ∧ wx.heap[g16]? = some (.cells #[.int .i64 0, .int .i64 0, .int .u64 0] 24 (0, 0))))
    case first =>
      go_region_held3 (fun w' => w'.cell? ⟨w.heap.size, 0, none⟩ = some (.int .i64 p) ∧ w'.cell? ⟨w.heap.size, 1, none⟩ = some (.int .i64 r) ∧ w'.cell? ⟨w.heap.size, 2, none⟩ = some (.int .u64 T) ∧ Hd (Below W8.heap.size W8 w'))
        (first
          | exact mkS HK8.out (below_drewN (Below.refl _ _) 1)
          | exact mkS HK8.out HQ.out
          | exact mkS HK8.out HQb.out
          | exact mkS HK8.out HQ2.out
          | exact mkS HK8.out (below_alloc (getS (by assumption)) _)
          | exact mkS HK8.out (below_alloc HQ2.out _)
          | exact mkS HK8.out (below_meta HQ2.out (Nat.le_refl _) _ _ _)
          | exact mkS HK8.out (below_meta HQ2.out HQ.out.size _ _ _)
          | exact mkS HK8.out (below_meta HQ2.out HQb.out.size _ _ _)
          | exact mkS HK8.out (getS (by assumption)))
        (first
          | (go_at_call 37; have hcc := HC.out.2.2; refine (copyF (spoilt_length p r T).symm ?hr (Nat.le_refl _) (by rw [spoilt_length]; decide)).mono ?_; (case hr => exact (RdB.of_row0 H8.out.1.1.bytes).below (getS (by assumption))); rintro e We ⟨Ae, me, ce, rfl, HCb, hb⟩; have HQb : Hd (Below W8.heap.size W8 We) := ⟨below_step (getS (by assumption)) hb⟩; have HCa : Hd (RdB We Ac (spoilt p r T)) := ⟨by first | exact hcc.below hb | exact (hcc.below (below_alloc (Below.refl _ _) _)).below hb⟩; (try have zs : Hd _ := ⟨below_row hb zr.out⟩); (try have zs : Hd _ := ⟨box_row hb⟩); clear hb hcc)
          | (go_at_call 37; refine (copyF (spoilt_length p r T).symm ?hr (Nat.le_refl _) (by rw [spoilt_length]; decide)).mono ?_; (case hr => exact (RdB.of_row0 H8.out.1.1.bytes).below (getS (by assumption))); rintro e Wc ⟨Ac, mc, cc, rfl, HC, hb⟩; have HQ : Hd (Below W8.heap.size W8 Wc) := ⟨below_step (getS (by assumption)) hb⟩; (try have zr : Hd _ := ⟨box_row (below_undrew hb)⟩); clear hb)
          | (go_at_call 35; refine (choose_calls (B := B) _ _ _ _ _ _ (spoilt p r T) (spoilt p r T) HC.out.1 HCb.out.1 p _ _ _ _ (chR_spoilt p r T p (pagesM HM.out)) (spoilt_range p r T) (spoilt_range p r T) _ ?hE ?hs ?hr ?hq).mono ?_; (case hE => exact HE.out.1.below (below_step H8.out.1.1.below (getS (by assumption)))); (case hs => exact HE.out.2.below (below_step H8.out.1.1.below (getS (by assumption)))); (case hr => first | exact HCa.out | exact HCa.out.below (below_alloc (Below.refl _ _) _)); (case hq => first | exact HCb.out.2.2 | exact HCb.out.2.2.below (below_alloc (Below.refl _ _) _)); rw [errV9]; rintro e Wd ⟨rfl, hb⟩; have HQ2 : Hd (Below W8.heap.size W8 Wd) := ⟨below_step (getS (by assumption)) hb⟩; (try have zq : Hd _ := ⟨below_row hb zs.out⟩); (try have zq : Hd _ := ⟨box_row hb⟩); (try have q0 := (Joins.cell_of_block zq.out 0).trans (show _ = some (Value.int .i64 0) from rfl)); (try have q1 := (Joins.cell_of_block zq.out 1).trans (show _ = some (Value.int .i64 0) from rfl)); (try have q2 := (Joins.cell_of_block zq.out 2).trans (show _ = some (Value.int .u64 0) from rfl)); (try have qf := Joins.unfrozen_of_block zq.out); clear hb))
      all_goals
        rename_i hH
        have hbl := getS hH
        (try go_wp2_with fail)
        go_meet
        exact ⟨_, rfl, rfl, ⟨hbl, by first | exact metaRow zq.out _ _ _ | exact row_alloc_at _ _ _ rfl⟩⟩
    case rest =>
      obtain ⟨g16, hs16, hs17, HC3⟩ := hcut
      subst hs16
      subst hs17
      have H9 : Hd (Below w0.heap.size w0 wc) := ⟨below_step H8.out.1.1.below HC3.out.1⟩
      have qq : ∀ w, (binOp .eql 24 (.agg #[.int .i64 0, .int .i64 0, .int .u64 0]) (.agg #[.int .i64 0, .int .i64 0, .int .u64 0])).run Tryd.prog w = .ok (.bool true) w := fun w => eql_meta 0 0 0 0 0 0 true rfl w
      have qa := neq_err_nil (B 1)
      have a0 := (Joins.cell_of_block (below_row HC3.out.1 H8.out.1.2.1) 0).trans (show _ = some (Value.int .i64 0) from rfl)
      have a1 := (Joins.cell_of_block (below_row HC3.out.1 H8.out.1.2.1) 1).trans (show _ = some (Value.int .i64 0) from rfl)
      have a2 := (Joins.cell_of_block (below_row HC3.out.1 H8.out.1.2.1) 2).trans (show _ = some (Value.int .u64 0) from rfl)
      have b0 := (Joins.cell_of_block (below_row HC3.out.1 H8.out.1.2.2) 0).trans (show _ = some (Value.int .i64 0) from rfl)
      have b1 := (Joins.cell_of_block (below_row HC3.out.1 H8.out.1.2.2) 1).trans (show _ = some (Value.int .i64 0) from rfl)
      have b2 := (Joins.cell_of_block (below_row HC3.out.1 H8.out.1.2.2) 2).trans (show _ = some (Value.int .u64 0) from rfl)
      have c0 := (Joins.cell_of_block (below_row HC3.out.1 H8.out.2) 0).trans (show _ = some (Value.int .i64 0) from rfl)
      have c1 := (Joins.cell_of_block (below_row HC3.out.1 H8.out.2) 1).trans (show _ = some (Value.int .i64 0) from rfl)
      have c2 := (Joins.cell_of_block (below_row HC3.out.1 H8.out.2) 2).trans (show _ = some (Value.int .u64 0) from rfl)
      have d0 := (Joins.cell_of_block HC3.out.2 0).trans (show _ = some (Value.int .i64 0) from rfl)
      have d1 := (Joins.cell_of_block HC3.out.2 1).trans (show _ = some (Value.int .i64 0) from rfl)
      have d2 := (Joins.cell_of_block HC3.out.2 2).trans (show _ = some (Value.int .u64 0) from rfl)
      go_wp2_with (first
        | (go_at_call_of 19 (errAt (B 1)); refine (num_errY 2 _ (errV2 B) (by decide) _ (HE.out.1.below H9.out)).mono ?_; rintro e Wn ⟨rfl, rfl⟩)
        | (go_at_call_of 19 (errAt (B 8)); refine (num_errY 9 _ (errV9 B) (by decide) _ (HE.out.1.below H9.out)).mono ?_; rintro e Wn ⟨rfl, rfl⟩)
        | fail)
      go_ret
      exact ⟨rfl, H9.out⟩
end Go.Proofs.YtoenacghkpgnpaaDoor.D
