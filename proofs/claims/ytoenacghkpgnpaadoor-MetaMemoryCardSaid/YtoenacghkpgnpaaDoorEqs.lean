/- Equality of two arrays of bytes, and of two metas, as the walk meets them. -/
import Derived.Test.YtoenacghkpgnpaaDoorMeta2
import Derived.Test.YtoenacghkpgnpaaDoorWEqStruct
import Derived.ChangeKeysEq
import Derived.DeepKeys
import Derived.Laws.StructEq
namespace Go.Proofs.YtoenacghkpgnpaaDoor.Q
open Go.RowKit Go.Proofs.YtoenacghkpgnpaaDoor.K

theorem plainU8 : Tryd.prog.plainKey 5 = true := by kernel_rfl
theorem u8Info : (Tryd.prog.info? 5).isSome = true := by kernel_rfl
theorem u8Cells : Tryd.prog.cellsOf 5 = 1 := by kernel_rfl
theorem u8s_at (xs : List Int) (i : Nat) (h : i < xs.length) : (u8s xs)[i]? = some (.int .u8 (xs.getD i 0)) := by
  rw [u8s]
  simp [List.getD_eq_getElem?_getD, h]
theorem items_run (d : Nat) (xs ys : List Int) (w : World) : ∀ (is : List Nat), (∀ i, i ∈ is → i < xs.length ∧ i < ys.length) →
    (Op.eqItems (d + 1) 5 1 (u8s xs) (u8s ys) is).run Tryd.prog w = .ok (is.all fun i => xs.getD i 0 == ys.getD i 0) w
  | [], _ => by simp [Op.eqItems]
  | i :: is, h => by
    have hi := h i (by simp)
    have p1 := run_part_plain (w := w) plainU8 (u8s_at xs i hi.1)
    have p2 := run_part_plain (w := w) plainU8 (u8s_at ys i hi.2)
    have p3 := Go.run_equalIn_int (P := Tryd.prog) w d 5 .u8 .u8 (xs.getD i 0) (ys.getD i 0) Tryd.underlying5
    have ih := items_run d xs ys w is (fun j hj => h j (by simp [hj]))
    simp only [Op.eqItems, Nat.mul_one, Sem.run_bind, p1, p2, p3, Result.andThen_ok, List.all_cons]
    cases (xs.getD i 0 == ys.getD i 0)
    · simp
    · simpa using ih
theorem all_eq (xs ys : List Int) (h : xs.length = ys.length) : ((List.range xs.length).all fun i => xs.getD i 0 == ys.getD i 0) = decide (xs = ys) := by
  rw [Bool.eq_iff_iff, List.all_eq_true, decide_eq_true_iff]
  refine ⟨fun h1 => ?_, fun e i _ => by simp [e]⟩
  refine List.ext_getElem h fun i h2 h3 => ?_
  have := h1 i (List.mem_range.2 h2)
  simpa [List.getD_eq_getElem?_getD, h2, h3] using this
theorem neq_arr (xs ys : List Int) (hx : xs.length = 512) (hy : ys.length = 512) (b : Bool) (hb : decide (xs ≠ ys) = b) (w : World) :
    (binOp .neq 99 (.agg (u8s xs)) (.agg (u8s ys))).run Tryd.prog w = .ok (.bool b) w := by
  obtain ⟨i, hi⟩ := Option.isSome_iff_exists.1 u8Info
  rw [run_neq_struct, show (10000 : Nat) = 9998 + 1 + 1 from rfl, run_equalIn_array w (9998 + 1) (u8s xs) (u8s ys) Tryd.underlying99 hi, u8Cells, items_run 9998 xs ys w _ (fun i hi => by rw [List.mem_range] at hi; omega), ← hx, all_eq xs ys (by omega)]
  rw [Result.andThen_ok, ← hb]
  by_cases e : xs = ys <;> simp [e]

theorem metaHeld : Tryd.prog.stoodInHeld 24 = false := by kernel_rfl
theorem eql_meta (p r t p' r' t' : Int) (b : Bool) (hb : (p == p' && (r == r' && t == t')) = b) (w : World) :
    (binOp .eql 24 (.agg #[.int .i64 p, .int .i64 r, .int .u64 t]) (.agg #[.int .i64 p', .int .i64 r', .int .u64 t'])).run Tryd.prog w = .ok (.bool b) w := by
  rw [run_eql_struct, show (10000 : Nat) = 9998 + 1 + 1 from rfl]
  have P0 : Tryd.prog.plainKey 3 = true := by kernel_rfl
  have P1 : Tryd.prog.plainKey 22 = true := by kernel_rfl
  have q : (Op.equalIn (9998 + 1 + 1) 24 (.agg #[.int .i64 p, .int .i64 r, .int .u64 t]) (.agg #[.int .i64 p', .int .i64 r', .int .u64 t'])).run Tryd.prog w = .ok (p == p' && (r == r' && t == t')) w := by
    open Go.Proofs.YtoenacghkpgnpaaDoorW.PrintWords in
    refine eqA_of Tryd.underlying24 metaHeld ?_
    refine eqf_cons rfl (run_part_plain w P0 rfl) (run_part_plain w P0 rfl) (run_equalIn_int w 9998 _ _ _ _ _ Tryd.underlying3) ?_
    refine eqf_cons rfl (run_part_plain w P0 rfl) (run_part_plain w P0 rfl) (run_equalIn_int w 9998 _ _ _ _ _ Tryd.underlying3) ?_
    exact eqf_last rfl (run_part_plain w P1 rfl) (run_part_plain w P1 rfl) (run_equalIn_int w 9998 _ _ _ _ _ Tryd.underlying22)
  rw [q, Result.andThen_ok, hb]
end Go.Proofs.YtoenacghkpgnpaaDoor.Q
