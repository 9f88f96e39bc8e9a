/- Both Reads of layer 4 answer the same; two sheets compared; the bytes of a text; a page is read as what it was sealed of, by its own number alone; the chapter's first page is sealed and read. -/
import Derived.Test.YtoenacghkpgnpaaDoorRRead
import Derived.Test.YtoenacghkpgnpaaDoorWEqStruct
import Derived.Laws.StructEq
import Derived.ChangeKeysEq
import Derived.DeepKeys
import Derived.Laws.OwnMore
import Derived.Deep.CutBlock
import Derived.Deep.CutRange
namespace Go.Proofs.YtoenacghkpgnpaaDoor.Sh
open Go.RowKit Go.Proofs.YtoenacghkpgnpaaDoor.K Go.Proofs.YtoenacghkpgnpaaDoor.E Go.Proofs.YtoenacghkpgnpaaDoor.P1 Go.Proofs.YtoenacghkpgnpaaDoor.Codec Go.Proofs.YtoenacghkpgnpaaDoor.D Go.Proofs.YtoenacghkpgnpaaDoor.S

def OkS (xs : List Int) (id : Int) : Prop := MayS (gK xs) (gC xs) (gI xs) (gB xs).size ∧ gI xs = id ∧ pg (gK xs) (gC xs) (gI xs) (gX xs) (sb (gB xs)) = xs
instance (xs : List Int) (id : Int) : Decidable (OkS xs id) := by unfold OkS; exact inferInstance
/-- What the bytes say as the page of that number: kind, number, transaction, count, body; the number of the refusal. -/
def rdS (xs : List Int) (id : Int) : Int × Int × Int × Int × ByteArray × Int := if xs.length = 4096 ∧ OkS xs id then (gK xs, gI xs, gX xs, gC xs, gB xs, 0) else (0, 0, 0, 0, ⟨#[]⟩, 2)
theorem rdS_num {xs : List Int} {id a b t c n : Int} {s : ByteArray} (h : rdS xs id = (a, b, t, c, s, n)) : n = 0 ∨ n = 2 := by
  unfold rdS at h
  by_cases k : xs.length = 4096 ∧ OkS xs id
  · rw [if_pos k] at h
    simp only [Prod.mk.injEq] at h
    exact .inl h.2.2.2.2.2.symm
  · rw [if_neg k] at h
    simp only [Prod.mk.injEq] at h
    exact .inr h.2.2.2.2.2.symm
theorem rdS_full {xs : List Int} {id a b t c n : Int} {s : ByteArray} (h : rdS xs id = (a, b, t, c, s, n)) (hx : xs.length = 4096) :
    (if MayS (gK xs) (gC xs) (gI xs) (gB xs).size ∧ gI xs = id ∧ pg (gK xs) (gC xs) (gI xs) (gX xs) (sb (gB xs)) = xs then (#[.int .i64 (gK xs), .int .i64 (gI xs), .int .u64 (gX xs), .int .i64 (gC xs), .string (gB xs)], (0 : Int)) else (zSheet, 2)) = ((#[.int .i64 a, .int .i64 b, .int .u64 t, .int .i64 c, .string s] : Array Value), n) := by
  unfold rdS at h
  by_cases k : OkS xs id
  · rw [if_pos ⟨hx, k⟩] at h
    simp only [Prod.mk.injEq] at h
    obtain ⟨rfl, rfl, rfl, rfl, rfl, rfl⟩ := h
    exact if_pos k
  · rw [if_neg (fun e => k e.2)] at h
    simp only [Prod.mk.injEq] at h
    obtain ⟨rfl, rfl, rfl, rfl, rfl, rfl⟩ := h
    exact if_neg k

theorem read_calls {E : Nat → Addr} (A : Option Addr) (n0 c0 : Nat) (xs : List Int) (hn : n0 = xs.length) (hc : n0 ≤ c0) (id a b t c n : Int) (s : ByteArray) (hd : rdS xs id = (a, b, t, c, s, n)) (w : World) (hE : Errs errG E w) (hs : TabOk w) (hh : HeadOk w) (hr : RdB w A xs) (hxr : ∀ x, x ∈ xs → 0 ≤ x ∧ x ≤ 255) :
    Calls Tryd.prog 29 #[.slice A n0 c0, .int .i64 id] w fun e w' => e = .returned (.tuple #[.agg #[.int .i64 a, .int .i64 b, .int .u64 t, .int .i64 c, .string s], errV E n]) ∧ Below w.heap.size w w' := by
  by_cases hx : xs.length = 4096
  · obtain ⟨ad, rfl, -⟩ := hr (by omega)
    obtain rfl : n0 = 4096 := by omega
    exact read_full ad c0 xs id w hE hs hh hr hc hx hxr _ _ _ _ _ rfl rfl rfl rfl rfl _ _ (rdS_full hd hx)
  · unfold rdS at hd
    rw [if_neg (fun k => hx k.1)] at hd
    simp only [Prod.mk.injEq] at hd
    obtain ⟨rfl, rfl, rfl, rfl, rfl, rfl⟩ := hd
    exact read_len A n0 c0 id w _ (hE.cell 1 (by decide)) (by omega)
theorem rread_calls (A : Option Addr) (n0 c0 : Nat) (xs : List Int) (hn : n0 = xs.length) (hc : n0 ≤ c0) (id a b t c n : Int) (s : ByteArray) (hd : rdS xs id = (a, b, t, c, s, n)) (w : World) (hr : RdB w A xs) (hxr : ∀ x, x ∈ xs → 0 ≤ x ∧ x ≤ 255) :
    Calls Tryd.prog 30 #[.slice A n0 c0, .int .i64 id] w fun e w' => e = .returned (.tuple #[.agg #[.int .i64 a, .int .i64 b, .int .u64 t, .int .i64 c, .string s], .int .i64 n]) ∧ Below w.heap.size w w' := by
  by_cases hx : xs.length = 4096
  · obtain ⟨ad, rfl, -⟩ := hr (by omega)
    obtain rfl : n0 = 4096 := by omega
    exact rread_full ad c0 xs id w hr hc hx hxr _ _ _ _ _ rfl rfl rfl rfl rfl _ _ (rdS_full hd hx)
  · unfold rdS at hd
    rw [if_neg (fun k => hx k.1)] at hd
    simp only [Prod.mk.injEq] at hd
    obtain ⟨rfl, rfl, rfl, rfl, rfl, rfl⟩ := hd
    exact rread_len A n0 c0 id w (by omega)

/-! ### Two sheets compared -/
theorem sheetHeld : Tryd.prog.stoodInHeld 37 = false := by kernel_rfl
set_option maxRecDepth 100000 in
theorem equal_sheet (a b t c a' b' t' c' : Int) (s s' : ByteArray) (w : World) :
    (Op.equalIn (9998 + 1 + 1) 37 (.agg #[.int .i64 a, .int .i64 b, .int .u64 t, .int .i64 c, .string s]) (.agg #[.int .i64 a', .int .i64 b', .int .u64 t', .int .i64 c', .string s'])).run Tryd.prog w = .ok (a == a' && (b == b' && (t == t' && (c == c' && s.toList == s'.toList)))) w := by
  have P0 : Tryd.prog.plainKey 3 = true := by kernel_rfl
  have P1 : Tryd.prog.plainKey 22 = true := by kernel_rfl
  have P2 : Tryd.prog.plainKey 9 = true := by kernel_rfl
  open Go.Proofs.YtoenacghkpgnpaaDoorW.PrintWords in
  refine eqA_of Tryd.underlying37 sheetHeld ?_
  refine eqf_cons rfl (run_part_plain w P0 rfl) (run_part_plain w P0 rfl) (run_equalIn_int w 9998 _ _ _ _ _ Tryd.underlying3) ?_
  refine eqf_cons rfl (run_part_plain w P0 rfl) (run_part_plain w P0 rfl) (run_equalIn_int w 9998 _ _ _ _ _ Tryd.underlying3) ?_
  refine eqf_cons rfl (run_part_plain w P1 rfl) (run_part_plain w P1 rfl) (run_equalIn_int w 9998 _ _ _ _ _ Tryd.underlying22) ?_
  refine eqf_cons rfl (run_part_plain w P0 rfl) (run_part_plain w P0 rfl) (run_equalIn_int w 9998 _ _ _ _ _ Tryd.underlying3) ?_
  exact eqf_last rfl (run_part_plain w P2 rfl) (run_part_plain w P2 rfl) (run_equalIn_string w 9998 _ _ _ Tryd.underlying9)
theorem eql_sheet (a b t c a' b' t' c' : Int) (s s' : ByteArray) (q : Bool) (hq : (a == a' && (b == b' && (t == t' && (c == c' && s.toList == s'.toList)))) = q) (w : World) :
    (binOp .eql 37 (.agg #[.int .i64 a, .int .i64 b, .int .u64 t, .int .i64 c, .string s]) (.agg #[.int .i64 a', .int .i64 b', .int .u64 t', .int .i64 c', .string s'])).run Tryd.prog w = .ok (.bool q) w := by
  rw [run_eql_struct, show (10000 : Nat) = 9998 + 1 + 1 from rfl, equal_sheet, Result.andThen_ok, hq]
theorem neq_sheet (a b t c a' b' t' c' : Int) (s s' : ByteArray) (q : Bool) (hq : (!(a == a' && (b == b' && (t == t' && (c == c' && s.toList == s'.toList))))) = q) (w : World) :
    (binOp .neq 37 (.agg #[.int .i64 a, .int .i64 b, .int .u64 t, .int .i64 c, .string s]) (.agg #[.int .i64 a', .int .i64 b', .int .u64 t', .int .i64 c', .string s'])).run Tryd.prog w = .ok (.bool q) w := by
  rw [run_neq_struct, show (10000 : Nat) = 9998 + 1 + 1 from rfl, equal_sheet, Result.andThen_ok, hq]
theorem eql_self (a b t c : Int) (s : ByteArray) (w : World) :
    (binOp .eql 37 (.agg #[.int .i64 a, .int .i64 b, .int .u64 t, .int .i64 c, .string s]) (.agg #[.int .i64 a, .int .i64 b, .int .u64 t, .int .i64 c, .string s])).run Tryd.prog w = .ok (.bool true) w := eql_sheet _ _ _ _ _ _ _ _ _ _ true (by simp) w
theorem neq_self (a b t c : Int) (s : ByteArray) (w : World) :
    (binOp .neq 37 (.agg #[.int .i64 a, .int .i64 b, .int .u64 t, .int .i64 c, .string s]) (.agg #[.int .i64 a, .int .i64 b, .int .u64 t, .int .i64 c, .string s])).run Tryd.prog w = .ok (.bool false) w := neq_sheet _ _ _ _ _ _ _ _ _ _ false (by simp) w

/-! ### The bytes of a text, as a list of the statement's own -/
open Go.Proofs.YtoenacghkpgnpaaDoorW.PrintWords (bt rd) in
theorem bytes_one (k : Nat) (s : ByteArray) (ys : List Int) (i : Int) : Ref.copsekit_Bytes.l0 (k + 1) s ys i = if i < (s.size : Int) then (if 0 ≤ i then (if ys.length < 140737488355328 then (Ref.copsekit_Bytes.l0 k s (ys ++ [bt s i]) (wrap64 (i + 1))) else (none)) else (none)) else (some ys) := rfl
theorem bytes_l0 (s : ByteArray) (hs : s.size ≤ 140737488355328) : ∀ (m i k : Nat), s.size - i = m → i ≤ s.size → Ref.copsekit_Bytes.l0 (k + m + 1) s ((sb s).take i) (i : Int) = some (sb s) := by
  intro m
  induction m with
  | zero =>
    intro i k hm hi
    obtain rfl : i = s.size := by omega
    rw [show k + 0 + 1 = k + 1 by rfl, bytes_one, if_neg (by omega), List.take_of_length_le (by rw [sb_length]; omega)]
  | succ m ih =>
    intro i k hm hi
    have hlt : i < s.size := by omega
    have h2 := ih (i + 1) k (by omega) (by omega)
    rw [List.take_succ_eq_append_getElem (by rw [sb_length]; exact hlt), ← bt_sb s i hlt] at h2
    rw [show k + (m + 1) + 1 = (k + m + 1) + 1 by omega, bytes_one, if_pos (by omega), if_pos (by omega), if_pos (by rw [List.length_take, sb_length]; omega), show ((i : Int) + 1) = ((i + 1 : Nat) : Int) by omega, wrapN (i + 1) (by omega), h2]
theorem bytes_calls (s : ByteArray) (hs : s.size ≤ 140737488355328) (w : World) : Calls Tryd.prog 28 #[.string s] w fun e w' => ∃ v, e = .returned v ∧ OwnB w' w.heap.size v (sb s) ∧ Below w.heap.size w w' :=
  (Ref.copsekit_Bytes.calls (0 + s.size + 1) s (sb s) w (bytes_l0 s hs s.size 0 0 (by omega) (by omega))).mono fun _ _ ⟨v, he, ho, hb⟩ => ⟨v, he, .of ho, hb⟩

/-! ### A row of bytes of one's own, written in place -/
theorem own_head {w : World} {base : Nat} {v : Value} {xs : List Int} (h : OwnB w base v xs) (hp : 0 < xs.length) : ∃ g c, v = .slice (some ⟨g, 0, none⟩) xs.length c ∧ xs.length ≤ c ∧ base ≤ g := by
  rcases h.2 with ⟨-, h0⟩ | ⟨g, cap, cur, rfl, hb, hh, h1, -⟩
  · omega
  · exact ⟨g, cap, rfl, h1, hb⟩
theorem own_at {w : World} {base g c n : Nat} {xs : List Int} (h : OwnB w base (.slice (some ⟨g, 0, none⟩) n c) xs) (hn : n = xs.length) (j : Nat) (hj : j < xs.length) : w.cell? ⟨g, j, none⟩ = some (.int .u8 (xs.getD j 0)) := by
  subst hn
  have h1 := World.ownsRow.cellAt h j (by omega)
  rw [h1, List.getElem?_map, List.getElem?_eq_getElem hj, List.getD_eq_getElem?_getD, List.getElem?_eq_getElem hj]; rfl
theorem own_unfrozen {w : World} {base g c n : Nat} {xs : List Int} (h : OwnB w base (.slice (some ⟨g, 0, none⟩) n c) xs) (hn : n = xs.length) (j : Nat) : w.frozen? ⟨g, j, none⟩ = false := by
  subst hn
  exact World.ownsRow.frozenAt h j
theorem own_set {w : World} {base g c n : Nat} {xs : List Int} (h : OwnB w base (.slice (some ⟨g, 0, none⟩) n c) xs) (hn : n = xs.length) (j : Nat) (y : Int) : OwnB (w.setCell ⟨g, j, none⟩ (.int .u8 y)) base (.slice (some ⟨g, 0, none⟩) n c) (xs.set j y) := by
  subst hn
  have h1 := World.ownsRow.stored h j (.int .u8 y)
  unfold OwnB
  rw [List.length_set, List.map_set]
  exact h1.1
end Go.Proofs.YtoenacghkpgnpaaDoor.Sh
namespace Go.Proofs.YtoenacghkpgnpaaDoor.Sh
open Go.RowKit Go.Proofs.YtoenacghkpgnpaaDoor.K Go.Proofs.YtoenacghkpgnpaaDoor.E Go.Proofs.YtoenacghkpgnpaaDoor.P1 Go.Proofs.YtoenacghkpgnpaaDoor.Codec Go.Proofs.YtoenacghkpgnpaaDoor.D Go.Proofs.YtoenacghkpgnpaaDoor.S

/-- The cells of a sheet's box, whatever is made beside it. -/
theorem bx5o {W : World} {g : Nat} {a b c d e : Value} (h : W.heap[g]? = some (.cells #[a, b, c, d, e] 37 (0, 0))) (o : Obj) : (W.alloc o).cell? ⟨g, 0, none⟩ = some a ∧ (W.alloc o).cell? ⟨g, 1, none⟩ = some b ∧ (W.alloc o).cell? ⟨g, 2, none⟩ = some c ∧ (W.alloc o).cell? ⟨g, 3, none⟩ = some d ∧ (W.alloc o).cell? ⟨g, 4, none⟩ = some e :=
  bx5 (below_row (below_alloc (Below.refl _ _) o) h)
theorem be_snoc (n : Int) (k : Nat) : be n (k + 1) = be (n / 256) k ++ [n % 256] := by
  refine List.ext_getElem (by simp [be_length]) fun i h1 h2 => ?_
  rw [be_length] at h1
  by_cases hi : i < k
  · rw [List.getElem_append_left (by rw [be_length]; exact hi)]
    simp only [be, List.getElem_map, List.getElem_range]
    unfold byteAt
    have e : k + 1 - 1 - i = (k - 1 - i) + 1 := by omega
    rw [e, Int.pow_succ, Int.mul_comm, Int.ediv_ediv_of_nonneg (by omega)]
  · obtain rfl : i = k := by omega
    rw [List.getElem_append_right (by rw [be_length]; omega)]
    simp only [be, List.getElem_map, List.getElem_range, List.length_map, List.length_range]
    unfold byteAt
    simp
theorem num_be : ∀ (k : Nat) (n : Int), 0 ≤ n → n < 256 ^ k → num (be n k) = n
  | 0, n, h0, h1 => by
    have : n = 0 := by rw [Int.pow_zero] at h1; omega
    subst this; rfl
  | k + 1, n, h0, h1 => by
    rw [be_snoc, num_snoc, num_be k (n / 256) (by omega) (by rw [Int.pow_succ] at h1; omega)]
    omega
theorem mid_part (A B C : List Int) (o k : Nat) (hA : A.length = o) (hB : B.length = k) : ((A ++ (B ++ C)).drop o).take k = B := by
  subst hA hB
  rw [List.drop_left, List.take_left]

section
variable {kd ct id tx s : Int} {bd : List Int}
theorem gK_lit (h0 : 0 ≤ kd) (h1 : kd < 256) : gK (plit kd ct id tx s bd) = kd := by
  have e : plit kd ct id tx s bd = be kd 1 ++ (zs 1 ++ be ct 2 ++ be id 4 ++ be tx 8 ++ (be s 4 ++ (zs 4 ++ bd))) := by simp [plit, Sh.h4, Sh.h3, Sh.h2, Sh.h1]
  unfold gK
  rw [e, List.take_left' (be_length _ _)]
  exact num_be 1 kd h0 h1
theorem gC_lit (h0 : 0 ≤ ct) (h1 : ct < 65536) : gC (plit kd ct id tx s bd) = ct := by
  have e : plit kd ct id tx s bd = Sh.h1 kd ++ (be ct 2 ++ (be id 4 ++ be tx 8 ++ (be s 4 ++ (zs 4 ++ bd)))) := by simp [plit, Sh.h4, Sh.h3, Sh.h2]
  unfold gC
  rw [e, mid_part _ _ _ 2 2 (h1_length _) (be_length _ _)]
  exact num_be 2 ct h0 h1
theorem gI_lit (h0 : 0 ≤ id) (h1 : id < 4294967296) : gI (plit kd ct id tx s bd) = id := by
  have e : plit kd ct id tx s bd = Sh.h2 kd ct ++ (be id 4 ++ (be tx 8 ++ (be s 4 ++ (zs 4 ++ bd)))) := by simp [plit, Sh.h4, Sh.h3]
  unfold gI
  rw [e, mid_part _ _ _ 4 4 (h2_length _ _) (be_length _ _)]
  exact num_be 4 id h0 h1
theorem gX_lit (h0 : 0 ≤ tx) (h1 : tx < 18446744073709551616) : gX (plit kd ct id tx s bd) = tx := by
  have e : plit kd ct id tx s bd = Sh.h3 kd ct id ++ (be tx 8 ++ (be s 4 ++ (zs 4 ++ bd))) := by simp [plit, Sh.h4]
  unfold gX
  rw [e, mid_part _ _ _ 8 8 (h3_length _ _ _) (be_length _ _)]
  exact num_be 8 tx h0 h1
theorem drop24_lit : (plit kd ct id tx s bd).drop 24 = bd := by
  have e : plit kd ct id tx s bd = (Sh.h4 kd ct id tx ++ (be s 4 ++ zs 4)) ++ bd := by simp [plit]
  rw [e]
  exact List.drop_left' (by rw [List.length_append, List.length_append, h4_length, be_length, zs_length])
end
theorem parts_pg {kd ct id tx : Int} {bd : ByteArray} (hm : MayS kd ct id bd.size) (h0 : 0 ≤ tx) (h1 : tx < 18446744073709551616) :
    gK (pg kd ct id tx (sb bd)) = kd ∧ gC (pg kd ct id tx (sb bd)) = ct ∧ gI (pg kd ct id tx (sb bd)) = id ∧ gX (pg kd ct id tx (sb bd)) = tx ∧ gB (pg kd ct id tx (sb bd)) = bd := by
  have hl : (sb bd).length = 4072 := by rw [sb_length]; unfold MayS at hm; omega
  unfold MayS at hm
  rw [pg_lit _ _ _ _ _ hl]
  refine ⟨gK_lit (by omega) (by omega), gC_lit (by omega) (by omega), gI_lit (by omega) (by omega), gX_lit h0 h1, ?_⟩
  unfold gB
  rw [drop24_lit, str_sb]
theorem rdS_back {kd ct id tx : Int} {bd : ByteArray} (hm : MayS kd ct id bd.size) (h0 : 0 ≤ tx) (h1 : tx < 18446744073709551616) : rdS (pg kd ct id tx (sb bd)) id = (kd, id, tx, ct, bd, 0) := by
  obtain ⟨e1, e2, e3, e4, e5⟩ := parts_pg hm h0 h1
  have hl : (pg kd ct id tx (sb bd)).length = 4096 := pg_length _ _ _ _ _ (by rw [sb_length]; unfold MayS at hm; omega)
  unfold rdS
  rw [if_pos ⟨hl, by unfold OkS; rw [e1, e2, e3, e4, e5]; exact ⟨hm, rfl, rfl⟩⟩, e1, e2, e3, e4, e5]
theorem rdS_other {kd ct id tx : Int} {bd : ByteArray} (hm : MayS kd ct id bd.size) (h0 : 0 ≤ tx) (h1 : tx < 18446744073709551616) (j : Int) (hj : ¬ j = id) : rdS (pg kd ct id tx (sb bd)) j = (0, 0, 0, 0, ⟨#[]⟩, 2) := by
  obtain ⟨e1, e2, e3, e4, e5⟩ := parts_pg hm h0 h1
  unfold rdS
  rw [if_neg]
  rintro ⟨-, h⟩
  unfold OkS at h
  rw [e3] at h
  exact hj h.2.1.symm
end Go.Proofs.YtoenacghkpgnpaaDoor.Sh
namespace Go.Proofs.YtoenacghkpgnpaaDoor.Sh
open Go.RowKit Go.Proofs.YtoenacghkpgnpaaDoor.K Go.Proofs.YtoenacghkpgnpaaDoor.E Go.Proofs.YtoenacghkpgnpaaDoor.P1 Go.Proofs.YtoenacghkpgnpaaDoor.Codec Go.Proofs.YtoenacghkpgnpaaDoor.D Go.Proofs.YtoenacghkpgnpaaDoor.S Go.Proofs.YtoenacghkpgnpaaDoor.R5

def bd0 : ByteArray := strOfNums (zs 4072)
theorem bd0_size : bd0.size = 4072 := by unfold bd0; rw [strOfNums_size, zs_length]
theorem may0 : MayS 76 1 2 bd0.size := by rw [bd0_size]; decide
theorem pg0 (i : Nat) (y : Int) (hi : i < 16) (h : (Sh.h4 76 1 2 5)[i]? = some y) : (pg 76 1 2 5 (sb bd0))[i]? = some y := by
  rw [pg_lit _ _ _ _ _ (by rw [sb_length, bd0_size]), plit, List.getElem?_append_left (by rw [h4_length]; exact hi)]
  exact h
theorem pg0_at {W : World} {g : Nat} (hr : W.heap[g]? = some (.cells (u8s (pg 76 1 2 5 (sb bd0))) 5 (0, 0))) (i : Nat) (y : Int) (hi : i < 16) (h : (Sh.h4 76 1 2 5)[i]? = some y) : W.cell? ⟨g, i, none⟩ = some (.int .u8 y) := by
  rw [cell_of_row W g i _ _ _ hr, u8s_get, pg0 i y hi h]; rfl
theorem zs_snoc (n : Nat) : zs n ++ [0] = zs (n + 1) := by
  simp [zs, List.replicate_succ']

set_option maxRecDepth 100000 in
set_option maxHeartbeats 1000000 in
theorem known_calls {B : Nat → Addr} (w : World) (hE : Errs errG B w) (hs : TabOk w) (hh : HeadOk w) : Calls Tryd.prog 31 #[] w fun e w' => e = .returned (.bool true) ∧ Below w.heap.size w w' := by
  have HE : Hd (Errs errG B w ∧ TabOk w ∧ HeadOk w) := ⟨hE, hs, hh⟩
  have qn := eql_nil_nil
  have qn' := neq_nil_nil
  clear hE hs hh
  go_enter Tryd.func31, Tryd.ntmps31
  go_upto_block 0 with (fail)
  go_cut [1] from 8 to 14 (fun s1 wx => ∃ (A : Option Addr) (c : Nat), s1 = .slice A 4072 c ∧ Hd (Below w.heap.size w wx ∧ RdB wx A (zs 4072)))
  case first =>
    go_wp2_with (fail)
    go_loopw [1, 2] (fun v i wx => ∃ j : Nat, j ≤ 4072 ∧ i = .int .i64 j ∧ Hd (Below w.heap.size w wx ∧ OwnB wx w.heap.size v (zs j))) (fun _ i _ => 4072 - (intOf i).toNat)
    case atStart => exact ⟨0, by omega, rfl, ⟨Below.refl _ _, OwnB.nil _ _⟩⟩
    case round =>
      obtain ⟨j, hj, rfl, HJ⟩ := hrel
      by_cases hlt : (j : Int) < 4072
      · go_wp2_with (first
          | ((with_reducible refine gD (N := 14) rfl ?_); refine wpList_ap rfl (.tmp 12) (.tmp 13) rfl w.heap.size (zs j) [0] u1 rfl (Ap.alloc (.inl HJ.out.2) _) (by rw [World.size_alloc]; exact Nat.le_succ_of_le HJ.out.1.size) _ _ _ rfl rfl (by decide) (one_reads _ _ _) (by rw [zs_length]; omega) ?_; intro v2 w2 ho ht _; have HN : Hd (Below w.heap.size w w2 ∧ OwnB w2 w.heap.size v2 (zs (j + 1))) := ⟨below_tch (below_alloc HJ.out.1 _) ht (fun i hi => hi.2), by rw [← zs_snoc]; exact ho.out⟩; clear ho ht)
          | fail)
        go_roundw
        case rel => exact ⟨j + 1, by omega, by go_num, HN⟩
        case measure => simp [intOf]; omega
      · obtain rfl : j = 4072 := by omega
        obtain ⟨A, c, hv, -, hr⟩ := HJ.out.2.form
        have HR : Hd (RdB wr A (zs 4072)) := ⟨hr⟩
        rw [zs_length] at hv
        subst hv
        clear hr
        go_wp2
        go_meet
        exact ⟨A, c, rfl, ⟨HJ.out.1, HR.out⟩⟩
  case rest =>
    obtain ⟨A, c, hs1, HA⟩ := hcut
    subst hs1
    obtain ⟨b0, hb0⟩ : ∃ b0, bd0 = b0 := ⟨_, rfl⟩
    have HB0 : Hd (bd0 = b0) := ⟨hb0⟩
    have hcv : (convert 25 9 (.slice A 4072 c)).run Tryd.prog wc = .ok (.string b0) wc := by
      rw [← hb0]; exact conv_bs HA.out.2 4072 c (zs_length 4072).symm
    clear hb0
    go_upto_region 7 with (fail)
    have H1 : Hd (Below w.heap.size w (wc.alloc (.cells #[.int .i64 76, .int .i64 2, .int .u64 5, .int .i64 1, .string b0] 37)) ∧ (wc.alloc (.cells #[.int .i64 76, .int .i64 2, .int .u64 5, .int .i64 1, .string b0] 37)).heap[wc.heap.size]? = some (.cells #[.int .i64 76, .int .i64 2, .int .u64 5, .int .i64 1, .string b0] 37 (0, 0))) := ⟨below_alloc HA.out.1 _, row_alloc_at _ _ _ rfl⟩
    obtain ⟨W1, hW1⟩ : ∃ W1, wc.alloc (.cells #[.int .i64 76, .int .i64 2, .int .u64 5, .int .i64 1, .string b0] 37) = W1 := ⟨_, rfl⟩
    rw [hW1] at H1 ⊢
    clear hW1 hcv
    obtain ⟨j0, j1, j2, j3, j4⟩ := bx5 H1.out.2
    have HM : Hd (MayS 76 1 2 b0.size ∧ rdS (pg 76 1 2 5 (sb b0)) 2 = (76, 2, 5, 1, b0, 0) ∧ (pg 76 1 2 5 (sb b0)).length = 4096 ∧ ∀ x, x ∈ pg 76 1 2 5 (sb b0) → 0 ≤ x ∧ x ≤ 255) := ⟨by
      rw [← HB0.out]
      exact ⟨may0, rdS_back may0 (by decide) (by decide), pg_length _ _ _ _ _ (by rw [sb_length, bd0_size]), pg_range _ _ _ _ _ (by rw [sb_length, bd0_size]) (sb_range _)⟩⟩
    go_upto_region 8 with (first
      | (go_at_call 22; refine (seal_ok 76 2 5 1 b0 _ (HE.out.2.1.below H1.out.1) (HE.out.2.2.below H1.out.1) HM.out.1 (by decide) (by decide)).mono ?_; rintro e W2 ⟨g, rfl, -, hrow, hb⟩; have H2 : Hd ((Below w.heap.size w W2 ∧ W2.heap[wc.heap.size]? = some (.cells #[.int .i64 76, .int .i64 2, .int .u64 5, .int .i64 1, .string b0] 37 (0, 0))) ∧ W2.heap[g]? = some (.cells (u8s (pg 76 1 2 5 (sb b0))) 5 (0, 0))) := ⟨⟨below_step H1.out.1 hb, below_row hb H1.out.2⟩, hrow⟩; clear hrow hb j0 j1 j2 j3 j4)
      | fail)
    have k0 : W2.cell? ⟨g, 0, none⟩ = some (.int .u8 76) := pg0_at (by rw [HB0.out]; exact H2.out.2) 0 76 (by decide) rfl
    have k3 : W2.cell? ⟨g, 3, none⟩ = some (.int .u8 1) := pg0_at (by rw [HB0.out]; exact H2.out.2) 3 1 (by decide) rfl
    have k7 : W2.cell? ⟨g, 7, none⟩ = some (.int .u8 2) := pg0_at (by rw [HB0.out]; exact H2.out.2) 7 2 (by decide) rfl
    have k15 : W2.cell? ⟨g, 15, none⟩ = some (.int .u8 5) := pg0_at (by rw [HB0.out]; exact H2.out.2) 15 5 (by decide) rfl
    go_upto_region 10 with (fail)
    go_upto_region 11 with (first
      | (go_at_call 29; refine (read_calls (E := B) _ _ _ (pg 76 1 2 5 (sb b0)) HM.out.2.2.1.symm (Nat.le_refl _) 2 _ _ _ _ _ _ HM.out.2.1 _ (HE.out.1.below H2.out.1.1) (HE.out.2.1.below H2.out.1.1) (HE.out.2.2.below H2.out.1.1) (RdB.of_row0 H2.out.2) HM.out.2.2.2).mono ?_; rintro e W3 ⟨rfl, hb⟩; have H3 : Hd (Below w.heap.size w W3 ∧ W3.heap[wc.heap.size]? = some (.cells #[.int .i64 76, .int .i64 2, .int .u64 5, .int .i64 1, .string b0] 37 (0, 0))) := ⟨below_step H2.out.1.1 hb, below_row hb H2.out.1.2⟩; clear hb k0 k3 k7 k15)
      | fail)
    have hE0 : errV B 0 = .nilIface := rfl
    have a0 := fun o => (bx5o H3.out.2 o).1
    have a1 := fun o => (bx5o H3.out.2 o).2.1
    have a2 := fun o => (bx5o H3.out.2 o).2.2.1
    have a3 := fun o => (bx5o H3.out.2 o).2.2.2.1
    have a4 := fun o => (bx5o H3.out.2 o).2.2.2.2
    have hqs := eql_self 76 2 5 1 b0
    go_wp2
    go_ret
    exact ⟨rfl, below_alloc H3.out.1 _⟩
theorem mx {W : World} {b : Nat} {C : Array Value} (h : W.heap[b]? = some (.cells C 59 (0, 0))) (i : Nat) (v : Value) (hv : C[i]? = some v) : W.cell? ⟨b, i, none⟩ = some v := (cell_of_row _ _ _ _ _ _ h).trans hv
theorem mxo {W : World} {b : Nat} {C : Array Value} (h : W.heap[b]? = some (.cells C 59 (0, 0))) (i : Nat) (v : Value) (hv : C[i]? = some v) (o : Obj) : (W.alloc o).cell? ⟨b, i, none⟩ = some v := mx (below_row (below_alloc (Below.refl _ _) o) h) i v hv
end Go.Proofs.YtoenacghkpgnpaaDoor.Sh
