/- The walk of SheetBack: a page is read as what it was sealed of, and by its own number alone. -/
import Derived.Test.YtoenacghkpgnpaaDoorKnown
namespace Go.Proofs.YtoenacghkpgnpaaDoor.LSheetBack
open Go.RowKit Go.Proofs.YtoenacghkpgnpaaDoor.K Go.Proofs.YtoenacghkpgnpaaDoor.E Go.Proofs.YtoenacghkpgnpaaDoor.P1 Go.Proofs.YtoenacghkpgnpaaDoor.Codec Go.Proofs.YtoenacghkpgnpaaDoor.Sh Go.Proofs.YtoenacghkpgnpaaDoor.S Go.Proofs.YtoenacghkpgnpaaDoor.D

theorem mx {W : World} {b : Nat} {C : Array Value} (h : W.heap[b]? = some (.cells C 59 (0, 0))) (i : Nat) (v : Value) (hv : C[i]? = some v) : W.cell? ⟨b, i, none⟩ = some v := (cell_of_row _ _ _ _ _ _ h).trans hv
theorem mxo {W : World} {b : Nat} {C : Array Value} (h : W.heap[b]? = some (.cells C 59 (0, 0))) (i : Nat) (v : Value) (hv : C[i]? = some v) (o : Obj) : (W.alloc o).cell? ⟨b, i, none⟩ = some v := mx (below_row (below_alloc (Below.refl _ _) o) h) i v hv

set_option maxRecDepth 100000 in
set_option maxHeartbeats 1000000 in
theorem walk_no {B : Nat → Addr} (kd id tx ct j at_ tn : Int) (bd : ByteArray) (w : World) (hE : Errs errG B w) (hs : TabOk w) (hh : HeadOk w) (ht0 : 0 ≤ tx) (ht1 : tx < 18446744073709551616) (hm : ¬ MayS kd ct id bd.size) :
    Calls Tryd.prog 7 #[.agg #[.int .i64 kd, .int .i64 id, .int .u64 tx, .int .i64 ct, .string bd, .int .i64 j, .int .i64 at_, .int .u32 tn]] w fun e w' => e = .returned (.bool true) ∧ Below w.heap.size w w' := by
  have HE : Hd (Errs errG B w ∧ TabOk w ∧ HeadOk w) := ⟨hE, hs, hh⟩
  have HT : Hd (0 ≤ tx ∧ tx < 18446744073709551616) := ⟨ht0, ht1⟩
  have HM : Hd (¬ MayS kd ct id bd.size) := ⟨hm⟩
  have qn := eql_nil_nil
  have qn' := neq_nil_nil
  clear hE hs hh ht0 ht1 hm
  go_enter Tryd.func7, Tryd.ntmps7
  go_upto_region 1 with (fail)
  have H0 : Hd (Below w.heap.size w (w.alloc (.cells #[.int .i64 kd, .int .i64 id, .int .u64 tx, .int .i64 ct, .string bd, .int .i64 j, .int .i64 at_, .int .u32 tn] 59)) ∧ (w.alloc (.cells #[.int .i64 kd, .int .i64 id, .int .u64 tx, .int .i64 ct, .string bd, .int .i64 j, .int .i64 at_, .int .u32 tn] 59)).heap[w.heap.size]? = some (.cells #[.int .i64 kd, .int .i64 id, .int .u64 tx, .int .i64 ct, .string bd, .int .i64 j, .int .i64 at_, .int .u32 tn] 59 (0, 0))) := ⟨below_alloc (Below.refl _ _) _, row_alloc_at _ _ _ rfl⟩
  obtain ⟨W0, hW0⟩ : ∃ W0, w.alloc (.cells #[.int .i64 kd, .int .i64 id, .int .u64 tx, .int .i64 ct, .string bd, .int .i64 j, .int .i64 at_, .int .u32 tn] 59) = W0 := ⟨_, rfl⟩
  rw [hW0] at H0 ⊢
  clear hW0
  go_upto_region 4 with (first
    | (go_at_call 31; refine (known_calls (B := B) _ (HE.out.1.below H0.out.1) (HE.out.2.1.below H0.out.1) (HE.out.2.2.below H0.out.1)).mono ?_; rintro e W1 ⟨rfl, hb⟩; have H1 : Hd (Below w.heap.size w W1 ∧ W1.heap[w.heap.size]? = some (.cells #[.int .i64 kd, .int .i64 id, .int .u64 tx, .int .i64 ct, .string bd, .int .i64 j, .int .i64 at_, .int .u32 tn] 59 (0, 0))) := ⟨below_step H0.out.1 hb, below_row hb H0.out.2⟩; clear hb)
    | fail)
  have j0 := mx H1.out.2 0 _ rfl; have j1 := mx H1.out.2 1 _ rfl; have j2 := mx H1.out.2 2 _ rfl; have j3 := mx H1.out.2 3 _ rfl; have j4 := mx H1.out.2 4 _ rfl; have j5 := mx H1.out.2 5 _ rfl
  have qe := neq_err_nil (B 0)
  have hn1 : errV B 1 = errAt (B 0) := rfl
  go_wp2_with (first
    | (go_at_call 22; refine (seal_no kd id tx ct bd _ _ ((HE.out.1.below H1.out.1).cell 0 (by decide)) HM.out).mono ?_; rintro e W2 ⟨rfl, hb⟩; have H2 : Hd (Below w.heap.size w W2) := ⟨below_step H1.out.1 hb⟩; clear hb j0 j1 j2 j3 j4 j5)
    | (go_at_call 19; refine (num_errV (B := B) 1 (by decide) _ (HE.out.1.below H2.out)).mono ?_; rintro e W' ⟨rfl, rfl⟩)
    | fail)
  go_ret
  exact ⟨rfl, H2.out⟩

set_option maxRecDepth 100000 in
set_option maxHeartbeats 1000000 in
theorem walk_same {B : Nat → Addr} (kd id tx ct j at_ tn : Int) (bd : ByteArray) (w : World) (hE : Errs errG B w) (hs : TabOk w) (hh : HeadOk w) (ht0 : 0 ≤ tx) (ht1 : tx < 18446744073709551616) (hm : MayS kd ct id bd.size) (hj : j = id) :
    Calls Tryd.prog 7 #[.agg #[.int .i64 kd, .int .i64 id, .int .u64 tx, .int .i64 ct, .string bd, .int .i64 j, .int .i64 at_, .int .u32 tn]] w fun e w' => e = .returned (.bool true) ∧ Below w.heap.size w w' := by
  have HE : Hd (Errs errG B w ∧ TabOk w ∧ HeadOk w) := ⟨hE, hs, hh⟩
  have HT : Hd (0 ≤ tx ∧ tx < 18446744073709551616) := ⟨ht0, ht1⟩
  have HM : Hd (MayS kd ct id bd.size) := ⟨hm⟩
  subst hj
  have HL : Hd ((pg kd ct j tx (sb bd)).length = 4096 ∧ (∀ x, x ∈ pg kd ct j tx (sb bd) → 0 ≤ x ∧ x ≤ 255) ∧ rdS (pg kd ct j tx (sb bd)) j = (kd, j, tx, ct, bd, 0)) := ⟨pg_length _ _ _ _ _ (by rw [sb_length]; unfold MayS at hm; omega), pg_range _ _ _ _ _ (by rw [sb_length]; unfold MayS at hm; omega) (sb_range _), rdS_back hm ht0 ht1⟩
  have hjb : (j == j) = true := by simp
  have qn := eql_nil_nil
  have qn' := neq_nil_nil
  clear hE hs hh ht0 ht1 hm
  go_enter Tryd.func7, Tryd.ntmps7
  go_upto_region 1 with (fail)
  have H0 : Hd (Below w.heap.size w (w.alloc (.cells #[.int .i64 kd, .int .i64 j, .int .u64 tx, .int .i64 ct, .string bd, .int .i64 j, .int .i64 at_, .int .u32 tn] 59)) ∧ (w.alloc (.cells #[.int .i64 kd, .int .i64 j, .int .u64 tx, .int .i64 ct, .string bd, .int .i64 j, .int .i64 at_, .int .u32 tn] 59)).heap[w.heap.size]? = some (.cells #[.int .i64 kd, .int .i64 j, .int .u64 tx, .int .i64 ct, .string bd, .int .i64 j, .int .i64 at_, .int .u32 tn] 59 (0, 0))) := ⟨below_alloc (Below.refl _ _) _, row_alloc_at _ _ _ rfl⟩
  obtain ⟨W0, hW0⟩ : ∃ W0, w.alloc (.cells #[.int .i64 kd, .int .i64 j, .int .u64 tx, .int .i64 ct, .string bd, .int .i64 j, .int .i64 at_, .int .u32 tn] 59) = W0 := ⟨_, rfl⟩
  rw [hW0] at H0 ⊢
  clear hW0
  go_upto_region 4 with (first
    | (go_at_call 31; refine (known_calls (B := B) _ (HE.out.1.below H0.out.1) (HE.out.2.1.below H0.out.1) (HE.out.2.2.below H0.out.1)).mono ?_; rintro e W1 ⟨rfl, hb⟩; have H1 : Hd (Below w.heap.size w W1 ∧ W1.heap[w.heap.size]? = some (.cells #[.int .i64 kd, .int .i64 j, .int .u64 tx, .int .i64 ct, .string bd, .int .i64 j, .int .i64 at_, .int .u32 tn] 59 (0, 0))) := ⟨below_step H0.out.1 hb, below_row hb H0.out.2⟩; clear hb)
    | fail)
  have j0 := mx H1.out.2 0 _ rfl; have j1 := mx H1.out.2 1 _ rfl; have j2 := mx H1.out.2 2 _ rfl; have j3 := mx H1.out.2 3 _ rfl; have j4 := mx H1.out.2 4 _ rfl; have j5 := mx H1.out.2 5 _ rfl
  go_upto_region 7 with (first
    | (go_at_call 22; refine (seal_ok kd j tx ct bd _ (HE.out.2.1.below H1.out.1) (HE.out.2.2.below H1.out.1) HM.out HT.out.1 HT.out.2).mono ?_; rintro e W2 ⟨g, rfl, -, hrow, hb⟩; have H2 : Hd ((Below w.heap.size w W2 ∧ W2.heap[w.heap.size]? = some (.cells #[.int .i64 kd, .int .i64 j, .int .u64 tx, .int .i64 ct, .string bd, .int .i64 j, .int .i64 at_, .int .u32 tn] 59 (0, 0))) ∧ W2.heap[g]? = some (.cells (u8s (pg kd ct j tx (sb bd))) 5 (0, 0))) := ⟨⟨below_step H1.out.1 hb, below_row hb H1.out.2⟩, hrow⟩; clear hrow hb j0 j1 j2 j3 j4 j5)
    | fail)
  have j0 := mx H2.out.1.2 0 _ rfl; have j1 := mx H2.out.1.2 1 _ rfl; have j2 := mx H2.out.1.2 2 _ rfl; have j3 := mx H2.out.1.2 3 _ rfl; have j4 := mx H2.out.1.2 4 _ rfl; have j5 := mx H2.out.1.2 5 _ rfl
  go_upto_region 8 with (first
    | (go_at_call 29; refine (read_calls (E := B) _ _ _ (pg kd ct j tx (sb bd)) HL.out.1.symm (Nat.le_refl _) j _ _ _ _ _ _ HL.out.2.2 _ (HE.out.1.below H2.out.1.1) (HE.out.2.1.below H2.out.1.1) (HE.out.2.2.below H2.out.1.1) (RdB.of_row0 H2.out.2) HL.out.2.1).mono ?_; rintro e W3 ⟨rfl, hb⟩; have H3 : Hd ((Below w.heap.size w W3 ∧ W3.heap[w.heap.size]? = some (.cells #[.int .i64 kd, .int .i64 j, .int .u64 tx, .int .i64 ct, .string bd, .int .i64 j, .int .i64 at_, .int .u32 tn] 59 (0, 0))) ∧ W3.heap[g]? = some (.cells (u8s (pg kd ct j tx (sb bd))) 5 (0, 0))) := ⟨⟨below_step H2.out.1.1 hb, below_row hb H2.out.1.2⟩, below_row hb H2.out.2⟩; clear hb j0 j1 j2 j3 j4 j5)
    | fail)
  have hE0 : errV B 0 = .nilIface := rfl
  have a0 := mxo H3.out.1.2 0 _ rfl; have a1 := mxo H3.out.1.2 1 _ rfl; have a2 := mxo H3.out.1.2 2 _ rfl; have a3 := mxo H3.out.1.2 3 _ rfl; have a4 := mxo H3.out.1.2 4 _ rfl; have a5 := mxo H3.out.1.2 5 _ rfl
  have hqs := neq_self kd j tx ct bd
  go_upto_region 10 with (fail)
  have H4 : Hd ((Below w.heap.size w (W3.alloc (.cells #[.int .i64 kd, .int .i64 j, .int .u64 tx, .int .i64 ct, .string bd] 37)) ∧ (W3.alloc (.cells #[.int .i64 kd, .int .i64 j, .int .u64 tx, .int .i64 ct, .string bd] 37)).heap[w.heap.size]? = some (.cells #[.int .i64 kd, .int .i64 j, .int .u64 tx, .int .i64 ct, .string bd, .int .i64 j, .int .i64 at_, .int .u32 tn] 59 (0, 0))) ∧ (W3.alloc (.cells #[.int .i64 kd, .int .i64 j, .int .u64 tx, .int .i64 ct, .string bd] 37)).heap[g]? = some (.cells (u8s (pg kd ct j tx (sb bd))) 5 (0, 0))) := ⟨⟨below_alloc H3.out.1.1 _, below_row (below_alloc (Below.refl _ _) _) H3.out.1.2⟩, below_row (below_alloc (Below.refl _ _) _) H3.out.2⟩
  obtain ⟨W4, hW4⟩ : ∃ W4, W3.alloc (.cells #[.int .i64 kd, .int .i64 j, .int .u64 tx, .int .i64 ct, .string bd] 37) = W4 := ⟨_, rfl⟩
  rw [hW4] at H4 ⊢
  clear hW4 a0 a1 a2 a3 a4 a5 hqs
  have j0 := mx H4.out.1.2 0 _ rfl; have j1 := mx H4.out.1.2 1 _ rfl; have j2 := mx H4.out.1.2 2 _ rfl; have j3 := mx H4.out.1.2 3 _ rfl; have j4 := mx H4.out.1.2 4 _ rfl; have j5 := mx H4.out.1.2 5 _ rfl
  go_upto_region 11 with (first
    | (go_at_call 29; refine (read_calls (E := B) _ _ _ (pg kd ct j tx (sb bd)) HL.out.1.symm (Nat.le_refl _) j _ _ _ _ _ _ HL.out.2.2 _ (HE.out.1.below H4.out.1.1) (HE.out.2.1.below H4.out.1.1) (HE.out.2.2.below H4.out.1.1) (RdB.of_row0 H4.out.2) HL.out.2.1).mono ?_; rintro e W5 ⟨rfl, hb⟩; have H5 : Hd (Below w.heap.size w W5 ∧ W5.heap[w.heap.size]? = some (.cells #[.int .i64 kd, .int .i64 j, .int .u64 tx, .int .i64 ct, .string bd, .int .i64 j, .int .i64 at_, .int .u32 tn] 59 (0, 0))) := ⟨below_step H4.out.1.1 hb, below_row hb H4.out.1.2⟩; clear hb j0 j1 j2 j3 j4 j5)
    | fail)
  have a0 := mxo H5.out.2 0 _ rfl; have a1 := mxo H5.out.2 1 _ rfl; have a2 := mxo H5.out.2 2 _ rfl; have a3 := mxo H5.out.2 3 _ rfl; have a4 := mxo H5.out.2 4 _ rfl; have a5 := mxo H5.out.2 5 _ rfl
  go_quiet (fail)
  go_wp2
  go_ret
  exact ⟨rfl, below_drewN (below_alloc H5.out.1 _) _⟩

set_option maxRecDepth 100000 in
set_option maxHeartbeats 1000000 in
theorem walk_other {B : Nat → Addr} (kd id tx ct j at_ tn : Int) (bd : ByteArray) (w : World) (hE : Errs errG B w) (hs : TabOk w) (hh : HeadOk w) (ht0 : 0 ≤ tx) (ht1 : tx < 18446744073709551616) (hm : MayS kd ct id bd.size) (hj : ¬ j = id) :
    Calls Tryd.prog 7 #[.agg #[.int .i64 kd, .int .i64 id, .int .u64 tx, .int .i64 ct, .string bd, .int .i64 j, .int .i64 at_, .int .u32 tn]] w fun e w' => e = .returned (.bool true) ∧ Below w.heap.size w w' := by
  have HE : Hd (Errs errG B w ∧ TabOk w ∧ HeadOk w) := ⟨hE, hs, hh⟩
  have HT : Hd (0 ≤ tx ∧ tx < 18446744073709551616) := ⟨ht0, ht1⟩
  have HM : Hd (MayS kd ct id bd.size) := ⟨hm⟩
  have HL : Hd ((pg kd ct id tx (sb bd)).length = 4096 ∧ (∀ x, x ∈ pg kd ct id tx (sb bd) → 0 ≤ x ∧ x ≤ 255) ∧ rdS (pg kd ct id tx (sb bd)) id = (kd, id, tx, ct, bd, 0)) := ⟨pg_length _ _ _ _ _ (by rw [sb_length]; unfold MayS at hm; omega), pg_range _ _ _ _ _ (by rw [sb_length]; unfold MayS at hm; omega) (sb_range _), rdS_back hm ht0 ht1⟩
  have HO : Hd (rdS (pg kd ct id tx (sb bd)) j = (0, 0, 0, 0, ⟨#[]⟩, 2)) := ⟨rdS_other hm ht0 ht1 j hj⟩
  have hjb : (j == id) = false := by simp [hj]
  clear hj
  have qn := eql_nil_nil
  have qn' := neq_nil_nil
  clear hE hs hh ht0 ht1 hm
  go_enter Tryd.func7, Tryd.ntmps7
  go_upto_region 1 with (fail)
  have H0 : Hd (Below w.heap.size w (w.alloc (.cells #[.int .i64 kd, .int .i64 id, .int .u64 tx, .int .i64 ct, .string bd, .int .i64 j, .int .i64 at_, .int .u32 tn] 59)) ∧ (w.alloc (.cells #[.int .i64 kd, .int .i64 id, .int .u64 tx, .int .i64 ct, .string bd, .int .i64 j, .int .i64 at_, .int .u32 tn] 59)).heap[w.heap.size]? = some (.cells #[.int .i64 kd, .int .i64 id, .int .u64 tx, .int .i64 ct, .string bd, .int .i64 j, .int .i64 at_, .int .u32 tn] 59 (0, 0))) := ⟨below_alloc (Below.refl _ _) _, row_alloc_at _ _ _ rfl⟩
  obtain ⟨W0, hW0⟩ : ∃ W0, w.alloc (.cells #[.int .i64 kd, .int .i64 id, .int .u64 tx, .int .i64 ct, .string bd, .int .i64 j, .int .i64 at_, .int .u32 tn] 59) = W0 := ⟨_, rfl⟩
  rw [hW0] at H0 ⊢
  clear hW0
  go_upto_region 4 with (first
    | (go_at_call 31; refine (known_calls (B := B) _ (HE.out.1.below H0.out.1) (HE.out.2.1.below H0.out.1) (HE.out.2.2.below H0.out.1)).mono ?_; rintro e W1 ⟨rfl, hb⟩; have H1 : Hd (Below w.heap.size w W1 ∧ W1.heap[w.heap.size]? = some (.cells #[.int .i64 kd, .int .i64 id, .int .u64 tx, .int .i64 ct, .string bd, .int .i64 j, .int .i64 at_, .int .u32 tn] 59 (0, 0))) := ⟨below_step H0.out.1 hb, below_row hb H0.out.2⟩; clear hb)
    | fail)
  have j0 := mx H1.out.2 0 _ rfl; have j1 := mx H1.out.2 1 _ rfl; have j2 := mx H1.out.2 2 _ rfl; have j3 := mx H1.out.2 3 _ rfl; have j4 := mx H1.out.2 4 _ rfl; have j5 := mx H1.out.2 5 _ rfl
  go_upto_region 7 with (first
    | (go_at_call 22; refine (seal_ok kd id tx ct bd _ (HE.out.2.1.below H1.out.1) (HE.out.2.2.below H1.out.1) HM.out HT.out.1 HT.out.2).mono ?_; rintro e W2 ⟨g, rfl, -, hrow, hb⟩; have H2 : Hd ((Below w.heap.size w W2 ∧ W2.heap[w.heap.size]? = some (.cells #[.int .i64 kd, .int .i64 id, .int .u64 tx, .int .i64 ct, .string bd, .int .i64 j, .int .i64 at_, .int .u32 tn] 59 (0, 0))) ∧ W2.heap[g]? = some (.cells (u8s (pg kd ct id tx (sb bd))) 5 (0, 0))) := ⟨⟨below_step H1.out.1 hb, below_row hb H1.out.2⟩, hrow⟩; clear hrow hb j0 j1 j2 j3 j4 j5)
    | fail)
  have j0 := mx H2.out.1.2 0 _ rfl; have j1 := mx H2.out.1.2 1 _ rfl; have j2 := mx H2.out.1.2 2 _ rfl; have j3 := mx H2.out.1.2 3 _ rfl; have j4 := mx H2.out.1.2 4 _ rfl; have j5 := mx H2.out.1.2 5 _ rfl
  go_upto_region 8 with (first
    | (go_at_call 29; refine (read_calls (E := B) _ _ _ (pg kd ct id tx (sb bd)) HL.out.1.symm (Nat.le_refl _) id _ _ _ _ _ _ HL.out.2.2 _ (HE.out.1.below H2.out.1.1) (HE.out.2.1.below H2.out.1.1) (HE.out.2.2.below H2.out.1.1) (RdB.of_row0 H2.out.2) HL.out.2.1).mono ?_; rintro e W3 ⟨rfl, hb⟩; have H3 : Hd ((Below w.heap.size w W3 ∧ W3.heap[w.heap.size]? = some (.cells #[.int .i64 kd, .int .i64 id, .int .u64 tx, .int .i64 ct, .string bd, .int .i64 j, .int .i64 at_, .int .u32 tn] 59 (0, 0))) ∧ W3.heap[g]? = some (.cells (u8s (pg kd ct id tx (sb bd))) 5 (0, 0))) := ⟨⟨below_step H2.out.1.1 hb, below_row hb H2.out.1.2⟩, below_row hb H2.out.2⟩; clear hb j0 j1 j2 j3 j4 j5)
    | fail)
  have hE0 : errV B 0 = .nilIface := rfl
  have a0 := mxo H3.out.1.2 0 _ rfl; have a1 := mxo H3.out.1.2 1 _ rfl; have a2 := mxo H3.out.1.2 2 _ rfl; have a3 := mxo H3.out.1.2 3 _ rfl; have a4 := mxo H3.out.1.2 4 _ rfl; have a5 := mxo H3.out.1.2 5 _ rfl
  have hqs := neq_self kd id tx ct bd
  go_upto_region 10 with (fail)
  have H4 : Hd ((Below w.heap.size w (W3.alloc (.cells #[.int .i64 kd, .int .i64 id, .int .u64 tx, .int .i64 ct, .string bd] 37)) ∧ (W3.alloc (.cells #[.int .i64 kd, .int .i64 id, .int .u64 tx, .int .i64 ct, .string bd] 37)).heap[w.heap.size]? = some (.cells #[.int .i64 kd, .int .i64 id, .int .u64 tx, .int .i64 ct, .string bd, .int .i64 j, .int .i64 at_, .int .u32 tn] 59 (0, 0))) ∧ (W3.alloc (.cells #[.int .i64 kd, .int .i64 id, .int .u64 tx, .int .i64 ct, .string bd] 37)).heap[g]? = some (.cells (u8s (pg kd ct id tx (sb bd))) 5 (0, 0))) := ⟨⟨below_alloc H3.out.1.1 _, below_row (below_alloc (Below.refl _ _) _) H3.out.1.2⟩, below_row (below_alloc (Below.refl _ _) _) H3.out.2⟩
  obtain ⟨W4, hW4⟩ : ∃ W4, W3.alloc (.cells #[.int .i64 kd, .int .i64 id, .int .u64 tx, .int .i64 ct, .string bd] 37) = W4 := ⟨_, rfl⟩
  rw [hW4] at H4 ⊢
  clear hW4 a0 a1 a2 a3 a4 a5 hqs
  have j0 := mx H4.out.1.2 0 _ rfl; have j1 := mx H4.out.1.2 1 _ rfl; have j2 := mx H4.out.1.2 2 _ rfl; have j3 := mx H4.out.1.2 3 _ rfl; have j4 := mx H4.out.1.2 4 _ rfl; have j5 := mx H4.out.1.2 5 _ rfl
  go_upto_region 11 with (first
    | (go_at_call 29; refine (read_calls (E := B) _ _ _ (pg kd ct id tx (sb bd)) HL.out.1.symm (Nat.le_refl _) j _ _ _ _ _ _ HO.out _ (HE.out.1.below H4.out.1.1) (HE.out.2.1.below H4.out.1.1) (HE.out.2.2.below H4.out.1.1) (RdB.of_row0 H4.out.2) HL.out.2.1).mono ?_; rintro e W5 ⟨rfl, hb⟩; have H5 : Hd (Below w.heap.size w W5 ∧ W5.heap[w.heap.size]? = some (.cells #[.int .i64 kd, .int .i64 id, .int .u64 tx, .int .i64 ct, .string bd, .int .i64 j, .int .i64 at_, .int .u32 tn] 59 (0, 0))) := ⟨below_step H4.out.1.1 hb, below_row hb H4.out.1.2⟩; clear hb j0 j1 j2 j3 j4 j5)
    | fail)
  have a0 := mxo H5.out.2 0 _ rfl; have a1 := mxo H5.out.2 1 _ rfl; have a2 := mxo H5.out.2 2 _ rfl; have a3 := mxo H5.out.2 3 _ rfl; have a4 := mxo H5.out.2 4 _ rfl; have a5 := mxo H5.out.2 5 _ rfl
  have hn2 : errV B 2 = errAt (B 1) := rfl
  have qe := eql_err_nil (B 1)
  go_quiet ((go_at_call 19; exact Calls.quiet_of_same ((num_errV (B := B) 2 (by decide) _ ((HE.out.1.below (below_alloc H5.out.1 _)).drewN _)).mono fun _ _ h => ⟨h.1, h.2.symm⟩)))
  go_wp2
  go_ret
  exact ⟨rfl, below_drewN (below_alloc H5.out.1 _) _⟩
end Go.Proofs.YtoenacghkpgnpaaDoor.LSheetBack
