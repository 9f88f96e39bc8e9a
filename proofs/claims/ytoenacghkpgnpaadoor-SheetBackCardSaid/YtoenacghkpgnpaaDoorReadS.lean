/- Both Reads of layer 4 answer the same: five fields and the number of a refusal; two sheets compared; the bytes of a text. -/
import Derived.Test.YtoenacghkpgnpaaDoorRRead
import Derived.Test.YtoenacghkpgnpaaDoorWEqStruct
import Derived.Laws.StructEq
import Derived.ChangeKeysEq
import Derived.DeepKeys
import Derived.Laws.OwnMore
namespace Go.Proofs.YtoenacghkpgnpaaDoor.Sh
open Go.RowKit Go.Proofs.YtoenacghkpgnpaaDoor.K Go.Proofs.YtoenacghkpgnpaaDoor.E Go.Proofs.YtoenacghkpgnpaaDoor.P1 Go.Proofs.YtoenacghkpgnpaaDoor.Codec Go.Proofs.YtoenacghkpgnpaaDoor.D Go.Proofs.YtoenacghkpgnpaaDoor.S

def OkS (xs : List Int) (id : Int) : Prop := MayS (gK xs) (gC xs) (gI xs) (gB xs).size ∧ gI xs = id ∧ pg (gK xs) (gC xs) (gI xs) (gX xs) (sb (gB xs)) = xs
instance (xs : List Int) (id : Int) : Decidable (OkS xs id) := by unfold OkS; exact inferInstance
/-- What the bytes say as the page of that number: kind, number, transaction, count, body; the number of the refusal. -/
def rdS (xs : List Int) (id : Int) : Int × Int × Int × Int × ByteArray × Int := if xs.length = 4096 ∧ OkS xs id then (gK xs, gI xs, gX xs, gC xs, gB xs, 0) else (0, 0, 0, 0, ⟨#[]⟩, 2)
theorem rdS_num {xs : List Int} {id a b t c n : Int} {s : ByteArray} (h : rdS xs id = (a, b, t, c, s, n)) : n = 0 ∨ n = 2 := by
  unfold rdS at h
  by_cases k : xs.length = 4096 ∧ OkS xs id
  · rw [if_pos k] at h
    simp only [Prod.mk.injEq] at h
    exact .inl h.2.2.2.2.2.symm
  · rw [if_neg k] at h
    simp only [Prod.mk.injEq] at h
    exact .inr h.2.2.2.2.2.symm
theorem rdS_full {xs : List Int} {id a b t c n : Int} {s : ByteArray} (h : rdS xs id = (a, b, t, c, s, n)) (hx : xs.length = 4096) :
    (if MayS (gK xs) (gC xs) (gI xs) (gB xs).size ∧ gI xs = id ∧ pg (gK xs) (gC xs) (gI xs) (gX xs) (sb (gB xs)) = xs then (#[.int .i64 (gK xs), .int .i64 (gI xs), .int .u64 (gX xs), .int .i64 (gC xs), .string (gB xs)], (0 : Int)) else (zSheet, 2)) = ((#[.int .i64 a, .int .i64 b, .int .u64 t, .int .i64 c, .string s] : Array Value), n) := by
  unfold rdS at h
  by_cases k : OkS xs id
  · rw [if_pos ⟨hx, k⟩] at h
    simp only [Prod.mk.injEq] at h
    obtain ⟨rfl, rfl, rfl, rfl, rfl, rfl⟩ := h
    exact if_pos k
  · rw [if_neg (fun e => k e.2)] at h
    simp only [Prod.mk.injEq] at h
    obtain ⟨rfl, rfl, rfl, rfl, rfl, rfl⟩ := h
    exact if_neg k

theorem read_calls {E : Nat → Addr} (A : Option Addr) (n0 c0 : Nat) (xs : List Int) (hn : n0 = xs.length) (hc : n0 ≤ c0) (id a b t c n : Int) (s : ByteArray) (hd : rdS xs id = (a, b, t, c, s, n)) (w : World) (hE : Errs errG E w) (hs : TabOk w) (hh : HeadOk w) (hr : RdB w A xs) (hxr : ∀ x, x ∈ xs → 0 ≤ x ∧ x ≤ 255) :
    Calls Tryd.prog 29 #[.slice A n0 c0, .int .i64 id] w fun e w' => e = .returned (.tuple #[.agg #[.int .i64 a, .int .i64 b, .int .u64 t, .int .i64 c, .string s], errV E n]) ∧ Below w.heap.size w w' := by
  by_cases hx : xs.length = 4096
  · obtain ⟨ad, rfl, -⟩ := hr (by omega)
    obtain rfl : n0 = 4096 := by omega
    exact read_full ad c0 xs id w hE hs hh hr hc hx hxr _ _ _ _ _ rfl rfl rfl rfl rfl _ _ (rdS_full hd hx)
  · unfold rdS at hd
    rw [if_neg (fun k => hx k.1)] at hd
    simp only [Prod.mk.injEq] at hd
    obtain ⟨rfl, rfl, rfl, rfl, rfl, rfl⟩ := hd
    exact read_len A n0 c0 id w _ (hE.cell 1 (by decide)) (by omega)
theorem rread_calls (A : Option Addr) (n0 c0 : Nat) (xs : List Int) (hn : n0 = xs.length) (hc : n0 ≤ c0) (id a b t c n : Int) (s : ByteArray) (hd : rdS xs id = (a, b, t, c, s, n)) (w : World) (hr : RdB w A xs) (hxr : ∀ x, x ∈ xs → 0 ≤ x ∧ x ≤ 255) :
    Calls Tryd.prog 30 #[.slice A n0 c0, .int .i64 id] w fun e w' => e = .returned (.tuple #[.agg #[.int .i64 a, .int .i64 b, .int .u64 t, .int .i64 c, .string s], .int .i64 n]) ∧ Below w.heap.size w w' := by
  by_cases hx : xs.length = 4096
  · obtain ⟨ad, rfl, -⟩ := hr (by omega)
    obtain rfl : n0 = 4096 := by omega
    exact rread_full ad c0 xs id w hr hc hx hxr _ _ _ _ _ rfl rfl rfl rfl rfl _ _ (rdS_full hd hx)
  · unfold rdS at hd
    rw [if_neg (fun k => hx k.1)] at hd
    simp only [Prod.mk.injEq] at hd
    obtain ⟨rfl, rfl, rfl, rfl, rfl, rfl⟩ := hd
    exact rread_len A n0 c0 id w (by omega)

/-! ### Two sheets compared -/
theorem sheetHeld : Tryd.prog.stoodInHeld 37 = false := by kernel_rfl
set_option maxRecDepth 100000 in
theorem equal_sheet (a b t c a' b' t' c' : Int) (s s' : ByteArray) (w : World) :
    (Op.equalIn (9998 + 1 + 1) 37 (.agg #[.int .i64 a, .int .i64 b, .int .u64 t, .int .i64 c, .string s]) (.agg #[.int .i64 a', .int .i64 b', .int .u64 t', .int .i64 c', .string s'])).run Tryd.prog w = .ok (a == a' && (b == b' && (t == t' && (c == c' && s.toList == s'.toList)))) w := by
  have P0 : Tryd.prog.plainKey 3 = true := by kernel_rfl
  have P1 : Tryd.prog.plainKey 22 = true := by kernel_rfl
  have P2 : Tryd.prog.plainKey 9 = true := by kernel_rfl
  open Go.Proofs.YtoenacghkpgnpaaDoorW.PrintWords in
  refine eqA_of Tryd.underlying37 sheetHeld ?_
  refine eqf_cons rfl (run_part_plain w P0 rfl) (run_part_plain w P0 rfl) (run_equalIn_int w 9998 _ _ _ _ _ Tryd.underlying3) ?_
  refine eqf_cons rfl (run_part_plain w P0 rfl) (run_part_plain w P0 rfl) (run_equalIn_int w 9998 _ _ _ _ _ Tryd.underlying3) ?_
  refine eqf_cons rfl (run_part_plain w P1 rfl) (run_part_plain w P1 rfl) (run_equalIn_int w 9998 _ _ _ _ _ Tryd.underlying22) ?_
  refine eqf_cons rfl (run_part_plain w P0 rfl) (run_part_plain w P0 rfl) (run_equalIn_int w 9998 _ _ _ _ _ Tryd.underlying3) ?_
  exact eqf_last rfl (run_part_plain w P2 rfl) (run_part_plain w P2 rfl) (run_equalIn_string w 9998 _ _ _ Tryd.underlying9)
theorem eql_sheet (a b t c a' b' t' c' : Int) (s s' : ByteArray) (q : Bool) (hq : (a == a' && (b == b' && (t == t' && (c == c' && s.toList == s'.toList)))) = q) (w : World) :
    (binOp .eql 37 (.agg #[.int .i64 a, .int .i64 b, .int .u64 t, .int .i64 c, .string s]) (.agg #[.int .i64 a', .int .i64 b', .int .u64 t', .int .i64 c', .string s'])).run Tryd.prog w = .ok (.bool q) w := by
  rw [run_eql_struct, show (10000 : Nat) = 9998 + 1 + 1 from rfl, equal_sheet, Result.andThen_ok, hq]
theorem neq_sheet (a b t c a' b' t' c' : Int) (s s' : ByteArray) (q : Bool) (hq : (!(a == a' && (b == b' && (t == t' && (c == c' && s.toList == s'.toList))))) = q) (w : World) :
    (binOp .neq 37 (.agg #[.int .i64 a, .int .i64 b, .int .u64 t, .int .i64 c, .string s]) (.agg #[.int .i64 a', .int .i64 b', .int .u64 t', .int .i64 c', .string s'])).run Tryd.prog w = .ok (.bool q) w := by
  rw [run_neq_struct, show (10000 : Nat) = 9998 + 1 + 1 from rfl, equal_sheet, Result.andThen_ok, hq]
theorem eql_self (a b t c : Int) (s : ByteArray) (w : World) :
    (binOp .eql 37 (.agg #[.int .i64 a, .int .i64 b, .int .u64 t, .int .i64 c, .string s]) (.agg #[.int .i64 a, .int .i64 b, .int .u64 t, .int .i64 c, .string s])).run Tryd.prog w = .ok (.bool true) w := eql_sheet _ _ _ _ _ _ _ _ _ _ true (by simp) w
theorem neq_self (a b t c : Int) (s : ByteArray) (w : World) :
    (binOp .neq 37 (.agg #[.int .i64 a, .int .i64 b, .int .u64 t, .int .i64 c, .string s]) (.agg #[.int .i64 a, .int .i64 b, .int .u64 t, .int .i64 c, .string s])).run Tryd.prog w = .ok (.bool false) w := neq_sheet _ _ _ _ _ _ _ _ _ _ false (by simp) w

/-! ### The bytes of a text, as a list of the statement's own -/
open Go.Proofs.YtoenacghkpgnpaaDoorW.PrintWords (bt rd) in
theorem bytes_one (k : Nat) (s : ByteArray) (ys : List Int) (i : Int) : Ref.copsekit_Bytes.l0 (k + 1) s ys i = if i < (s.size : Int) then (if 0 ≤ i then (if ys.length < 140737488355328 then (Ref.copsekit_Bytes.l0 k s (ys ++ [bt s i]) (wrap64 (i + 1))) else (none)) else (none)) else (some ys) := rfl
theorem bytes_l0 (s : ByteArray) (hs : s.size ≤ 140737488355328) : ∀ (m i k : Nat), s.size - i = m → i ≤ s.size → Ref.copsekit_Bytes.l0 (k + m + 1) s ((sb s).take i) (i : Int) = some (sb s) := by
  intro m
  induction m with
  | zero =>
    intro i k hm hi
    obtain rfl : i = s.size := by omega
    rw [show k + 0 + 1 = k + 1 by rfl, bytes_one, if_neg (by omega), List.take_of_length_le (by rw [sb_length]; omega)]
  | succ m ih =>
    intro i k hm hi
    have hlt : i < s.size := by omega
    have h2 := ih (i + 1) k (by omega) (by omega)
    rw [List.take_succ_eq_append_getElem (by rw [sb_length]; exact hlt), ← bt_sb s i hlt] at h2
    rw [show k + (m + 1) + 1 = (k + m + 1) + 1 by omega, bytes_one, if_pos (by omega), if_pos (by omega), if_pos (by rw [List.length_take, sb_length]; omega), show ((i : Int) + 1) = ((i + 1 : Nat) : Int) by omega, wrapN (i + 1) (by omega), h2]
theorem bytes_calls (s : ByteArray) (hs : s.size ≤ 140737488355328) (w : World) : Calls Tryd.prog 28 #[.string s] w fun e w' => ∃ v, e = .returned v ∧ OwnB w' w.heap.size v (sb s) ∧ Below w.heap.size w w' :=
  (Ref.copsekit_Bytes.calls (0 + s.size + 1) s (sb s) w (bytes_l0 s hs s.size 0 0 (by omega) (by omega))).mono fun _ _ ⟨v, he, ho, hb⟩ => ⟨v, he, .of ho, hb⟩

/-! ### A row of bytes of one's own, written in place -/
theorem own_head {w : World} {base : Nat} {v : Value} {xs : List Int} (h : OwnB w base v xs) (hp : 0 < xs.length) : ∃ g c, v = .slice (some ⟨g, 0, none⟩) xs.length c ∧ xs.length ≤ c ∧ base ≤ g := by
  rcases h.2 with ⟨-, h0⟩ | ⟨g, cap, cur, rfl, hb, hh, h1, -⟩
  · omega
  · exact ⟨g, cap, rfl, h1, hb⟩
theorem own_at {w : World} {base g c n : Nat} {xs : List Int} (h : OwnB w base (.slice (some ⟨g, 0, none⟩) n c) xs) (hn : n = xs.length) (j : Nat) (hj : j < xs.length) : w.cell? ⟨g, j, none⟩ = some (.int .u8 (xs.getD j 0)) := by
  subst hn
  have h1 := World.ownsRow.cellAt h j (by omega)
  rw [h1, List.getElem?_map, List.getElem?_eq_getElem hj, List.getD_eq_getElem?_getD, List.getElem?_eq_getElem hj]; rfl
theorem own_unfrozen {w : World} {base g c n : Nat} {xs : List Int} (h : OwnB w base (.slice (some ⟨g, 0, none⟩) n c) xs) (hn : n = xs.length) (j : Nat) : w.frozen? ⟨g, j, none⟩ = false := by
  subst hn
  exact World.ownsRow.frozenAt h j
theorem own_set {w : World} {base g c n : Nat} {xs : List Int} (h : OwnB w base (.slice (some ⟨g, 0, none⟩) n c) xs) (hn : n = xs.length) (j : Nat) (y : Int) : OwnB (w.setCell ⟨g, j, none⟩ (.int .u8 y)) base (.slice (some ⟨g, 0, none⟩) n c) (xs.set j y) := by
  subst hn
  have h1 := World.ownsRow.stored h j (.int .u8 y)
  unfold OwnB
  rw [List.length_set, List.map_set]
  exact h1.1
end Go.Proofs.YtoenacghkpgnpaaDoor.Sh
