/- sheet.Seal's inner function: it writes a number into the page. -/
import Derived.Test.YtoenacghkpgnpaaDoorCodec
import Derived.Test.YtoenacghkpgnpaaDoorRef1
namespace Go.Proofs.YtoenacghkpgnpaaDoor.Sh
open Go.RowKit Go.Proofs.YtoenacghkpgnpaaDoor.K Go.Proofs.YtoenacghkpgnpaaDoor.E Go.Proofs.YtoenacghkpgnpaaDoor.P1 Go.Proofs.YtoenacghkpgnpaaDoor.Codec

set_option maxRecDepth 100000 in
set_option maxHeartbeats 400000 in
theorem seal1_calls (b g : Nat) (cur : List Int) (plI wI n : Int) (pl k : Nat) (hpl : plI = pl) (hkI : wI = k) (w : World) (hv : w.cell? ⟨b, 0, none⟩ = some (.slice (some ⟨g, 0, none⟩) 4096 4096)) (hg : w.heap[g]? = some (.cells (u8s cur) 5 (0, 0))) (hx : cur.length = 4096)
    (h1 : 1 ≤ k) (h2 : k ≤ 8) (hf : pl + k ≤ 4096) (h0 : 0 ≤ n) (hn : n < 256 ^ k) :
    Calls Tryd.prog 56 #[.int .i64 plI, .int .i64 wI, .int .u64 n, .pointer (some ⟨b, 0, none⟩)] w fun e w' => e = .returned (.tuple #[]) ∧ w'.heap[g]? = some (.cells (u8s (splice cur pl (be n k))) 5 (0, 0)) ∧ Tch (fun i => i = g) w w' := by
  subst hpl hkI
  have HB : Hd (w.heap[g]? = some (.cells (u8s cur) 5 (0, 0))) := ⟨hg⟩
  have HX : Hd (cur.length = 4096) := ⟨hx⟩
  have HN : Hd (n < 256 ^ k) := ⟨hn⟩
  have hle0 : (0 : Int) ≤ (pl : Int) := by omega
  have hle1 : (pl : Int) ≤ 4096 := by omega
  clear hg hx hn
  go_enter Tryd.func56, Tryd.ntmps56
  go_wp2_with (first
    | (go_at_call 57; refine (put_calls n k k rfl _ h1 h2 h0 HN.out).mono ?_; rintro e w1 ⟨g1, rfl, hg1, hgr, hbl⟩; have HG : Hd (w1.heap[g1]? = some (.cells (u8s (be n k)) 5 (0, 0))) := ⟨hgr⟩; clear hgr; have HB1 : Hd (w1.heap[g]? = some (.cells (u8s cur) 5 (0, 0))) := ⟨below_row hbl HB.out⟩; have HBL : Hd (Below w.heap.size w w1) := ⟨hbl⟩; have hv1 := below_cell hbl hv; clear hbl hv)
    | ((with_reducible refine gD (N := 19) rfl ?_); refine wpList_cpW rfl (.tmp 17) (.tmp 18) 25 25 rfl 5 Tryd.underlying25 u8size _ _ _ _ _ _ _ rfl rfl cur 5 HB1.out (be n k) ?hn (RdB.of_row0 HG.out) ?hf ?_; (case hn => rw [be_length]; exact (Nat.min_eq_left (by omega)).symm); (case hf => rw [be_length, HX.out]; omega); intro w2 hr2 ht2)
    | fail)
  go_end0
  exact ⟨rfl, hr2.out, (Tch.of_below HBL.out (fun i => i = g)).trans ht2 (fun i hi => .inl hi)⟩

/-- The getters and setters of a sheet's numbers. -/
theorem get_kind (b : Nat) (v : Int) (w : World) (hc : w.cell? ⟨b, 0, none⟩ = some (.int .i64 v)) (h0 : 0 ≤ v) (h1 : v ≤ 4294967296) : Calls Tryd.prog 79 #[.pointer (some ⟨b, 0, none⟩)] w fun e w' => e = .returned (.int .u64 v) ∧ w = w' := by
  go_enter Tryd.func79, Tryd.ntmps79
  go_wp2
  go_ret
  exact ⟨rfl, rfl⟩
theorem set_kind (b : Nat) (v : Int) (u : Value) (w : World) (hc : w.cell? ⟨b, 0, none⟩ = some u) (hf : w.frozen? ⟨b, 0, none⟩ = false) (h0 : 0 ≤ v) (h1 : v ≤ 4294967296) : Calls Tryd.prog 80 #[.pointer (some ⟨b, 0, none⟩), .int .u64 v] w fun e w' => e = .returned (.tuple #[]) ∧ w.setCell ⟨b, 0, none⟩ (.int .i64 v) = w' := by
  go_enter Tryd.func80, Tryd.ntmps80
  go_wp2
  go_end0
  exact ⟨rfl, rfl⟩
theorem get_count (b : Nat) (v : Int) (w : World) (hc : w.cell? ⟨b, 3, none⟩ = some (.int .i64 v)) (h0 : 0 ≤ v) (h1 : v ≤ 4294967296) : Calls Tryd.prog 81 #[.pointer (some ⟨b, 0, none⟩)] w fun e w' => e = .returned (.int .u64 v) ∧ w = w' := by
  go_enter Tryd.func81, Tryd.ntmps81
  go_wp2
  go_ret
  exact ⟨rfl, rfl⟩
theorem set_count (b : Nat) (v : Int) (u : Value) (w : World) (hc : w.cell? ⟨b, 3, none⟩ = some u) (hf : w.frozen? ⟨b, 3, none⟩ = false) (h0 : 0 ≤ v) (h1 : v ≤ 4294967296) : Calls Tryd.prog 82 #[.pointer (some ⟨b, 0, none⟩), .int .u64 v] w fun e w' => e = .returned (.tuple #[]) ∧ w.setCell ⟨b, 3, none⟩ (.int .i64 v) = w' := by
  go_enter Tryd.func82, Tryd.ntmps82
  go_wp2
  go_end0
  exact ⟨rfl, rfl⟩
theorem get_id (b : Nat) (v : Int) (w : World) (hc : w.cell? ⟨b, 1, none⟩ = some (.int .i64 v)) (h0 : 0 ≤ v) (h1 : v ≤ 4294967296) : Calls Tryd.prog 83 #[.pointer (some ⟨b, 0, none⟩)] w fun e w' => e = .returned (.int .u64 v) ∧ w = w' := by
  go_enter Tryd.func83, Tryd.ntmps83
  go_wp2
  go_ret
  exact ⟨rfl, rfl⟩
theorem set_id (b : Nat) (v : Int) (u : Value) (w : World) (hc : w.cell? ⟨b, 1, none⟩ = some u) (hf : w.frozen? ⟨b, 1, none⟩ = false) (h0 : 0 ≤ v) (h1 : v ≤ 4294967296) : Calls Tryd.prog 84 #[.pointer (some ⟨b, 0, none⟩), .int .u64 v] w fun e w' => e = .returned (.tuple #[]) ∧ w.setCell ⟨b, 1, none⟩ (.int .i64 v) = w' := by
  go_enter Tryd.func84, Tryd.ntmps84
  go_wp2
  go_end0
  exact ⟨rfl, rfl⟩
theorem get_txid (b : Nat) (v : Int) (w : World) (hc : w.cell? ⟨b, 2, none⟩ = some (.int .u64 v)) : Calls Tryd.prog 85 #[.pointer (some ⟨b, 0, none⟩)] w fun e w' => e = .returned (.int .u64 v) ∧ w = w' := by
  go_enter Tryd.func85, Tryd.ntmps85
  go_wp2
  go_ret
  exact ⟨rfl, rfl⟩
theorem set_txid (b : Nat) (v : Int) (u : Value) (w : World) (hc : w.cell? ⟨b, 2, none⟩ = some u) (hf : w.frozen? ⟨b, 2, none⟩ = false) : Calls Tryd.prog 86 #[.pointer (some ⟨b, 0, none⟩), .int .u64 v] w fun e w' => e = .returned (.tuple #[]) ∧ w.setCell ⟨b, 2, none⟩ (.int .u64 v) = w' := by
  go_enter Tryd.func86, Tryd.ntmps86
  go_wp2
  go_end0
  exact ⟨rfl, rfl⟩
/-- The functions of the head's numbers. -/
def numsV : Array Value := #[.func (.func 79) #[] #[], .func (.func 80) #[] #[], .func (.func 81) #[] #[], .func (.func 82) #[] #[], .func (.func 83) #[] #[], .func (.func 84) #[] #[], .func (.func 85) #[] #[], .func (.func 86) #[] #[]]
theorem numsSize : (Tryd.prog.info? 109).map (·.size) = some 8 := by kernel_rfl
set_option maxRecDepth 100000 in
theorem numbers_calls (w : World) : Calls Tryd.prog 58 #[] w fun e w' => e = .returned (.agg numsV) ∧ Below w.heap.size w w' := by
  go_enter Tryd.func58, Tryd.ntmps58
  go_wp2_with (first
    | ((with_reducible refine gS (t := 109) (x := .tmp 0) (y := .tmp 5) rfl ?_); refine wpList_stW rfl 109 (.tmp 0) (.tmp 5) rfl w.heap.size _ rfl rfl 109 _ (row_alloc_at _ _ _ rfl) numsSize rfl (by decide) ?_; intro W1 hr1 ht1)
    | fail)
  refine bodyPost_ret (v := .agg numsV) (results_cell_row rfl _ _ w.heap.size 109 _ (0, 0) _ rfl hr1.out Tryd.underlying109 rfl numsSize) rfl ⟨rfl, ?_⟩
  exact below_tch (below_alloc (Below.refl _ _) _) ht1 (fun i hi => by omega)
/-! ### The page, number by number, as Seal lays it -/
def t1 (kd : Int) : List Int := splice (zs 4096) 0 (be kd 1)
def t2 (kd ct : Int) : List Int := splice (t1 kd) 2 (be ct 2)
def t3 (kd ct id : Int) : List Int := splice (t2 kd ct) 4 (be id 4)
def t4 (kd ct id tx : Int) : List Int := splice (t3 kd ct id) 8 (be tx 8)
def t5 (kd ct id tx : Int) (bd : List Int) : List Int := splice (t4 kd ct id tx) 24 bd
def pg (kd ct id tx : Int) (bd : List Int) : List Int := splice (t5 kd ct id tx bd) 16 (be (crc (t5 kd ct id tx bd)) 4)
theorem t1_length (kd : Int) : (t1 kd).length = 4096 := by unfold t1; rw [length_splice _ _ _ (by rw [zs_length, be_length]; decide), zs_length]
theorem t2_length (kd ct : Int) : (t2 kd ct).length = 4096 := by unfold t2; rw [length_splice _ _ _ (by rw [t1_length, be_length]; decide), t1_length]
theorem t3_length (kd ct id : Int) : (t3 kd ct id).length = 4096 := by unfold t3; rw [length_splice _ _ _ (by rw [t2_length, be_length]; decide), t2_length]
theorem t4_length (kd ct id tx : Int) : (t4 kd ct id tx).length = 4096 := by unfold t4; rw [length_splice _ _ _ (by rw [t3_length, be_length]; decide), t3_length]
theorem t5_length (kd ct id tx : Int) (bd : List Int) (h : bd.length = 4072) : (t5 kd ct id tx bd).length = 4096 := by unfold t5; rw [length_splice _ _ _ (by rw [t4_length, h]; decide), t4_length]
theorem pg_length (kd ct id tx : Int) (bd : List Int) (h : bd.length = 4072) : (pg kd ct id tx bd).length = 4096 := by unfold pg; rw [length_splice _ _ _ (by rw [t5_length kd ct id tx bd h, be_length]; decide), t5_length kd ct id tx bd h]
/-- May a sheet be so? -/
def MayS (kd ct id : Int) (n : Nat) : Prop := (kd = 66 ∨ kd = 76) ∧ 2 ≤ id ∧ id < 1048576 ∧ 0 ≤ ct ∧ ct ≤ 65535 ∧ n = 4072
instance (kd ct id : Int) (n : Nat) : Decidable (MayS kd ct id n) := by unfold MayS; exact inferInstance
theorem mayS_calls (kd id tx ct : Int) (bd : ByteArray) (w : World) (b : Bool) (hb : decide (MayS kd ct id bd.size) = b) : Calls Tryd.prog 55 #[.agg #[.int .i64 kd, .int .i64 id, .int .u64 tx, .int .i64 ct, .string bd]] w fun e w' => e = .returned (.bool b) ∧ Below w.heap.size w w' := by
  subst hb
  refine (Ref.sheet_mayBe.calls kd id tx ct bd (decide (MayS kd ct id bd.size)) w ?_).mono fun e w' h => h
  have hsz : ((bd.size : Int) == 4072) = decide (bd.size = 4072) := by
    rw [Bool.eq_iff_iff, beq_iff_eq, decide_eq_true_iff]; omega
  unfold Ref.sheet_mayBe.f MayS
  rw [hsz]
  by_cases h0 : kd = 66
  · by_cases h1 : id ≥ 2 <;> by_cases h2 : id < 1048576 <;> by_cases h3 : ct ≥ 0 <;> by_cases h4 : ct ≤ 65535 <;> simp [h0, h1, h2, h3, h4]
  · by_cases h5 : kd = 76
    · by_cases h1 : id ≥ 2 <;> by_cases h2 : id < 1048576 <;> by_cases h3 : ct ≥ 0 <;> by_cases h4 : ct ≤ 65535 <;> simp [h5, h1, h2, h3, h4]
    · simp [h0, h5]
end Go.Proofs.YtoenacghkpgnpaaDoor.Sh
