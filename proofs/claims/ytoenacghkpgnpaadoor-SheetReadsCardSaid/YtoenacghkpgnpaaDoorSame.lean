/- The statements' helpers, in this session's own words: the same bytes; slots. -/
import Derived.Test.YtoenacghkpgnpaaDoorPureRef1
import Derived.Test.YtoenacghkpgnpaaDoorNum
namespace Go.Proofs.YtoenacghkpgnpaaDoor.S
open Go.RowKit Go.Proofs.YtoenacghkpgnpaaDoor.K Go.Proofs.YtoenacghkpgnpaaDoor.E Go.Proofs.YtoenacghkpgnpaaDoor.P1 Go.Proofs.YtoenacghkpgnpaaDoor.Codec Go.Proofs.YtoenacghkpgnpaaDoor.Meta
open Go.Proofs.YtoenacghkpgnpaaDoorW.PrintWords (Kd Drawn0)

theorem same_calls (A0 A1 : Option Addr) (n0 n1 c0 c1 : Nat) (xs ys : List Int) (b : Bool) (hb : decide (xs = ys) = b) (h0 : n0 = xs.length) (h1 : n1 = ys.length) (w : World) (hx : RdB w A0 xs) (hy : RdB w A1 ys) (hc0 : n0 ≤ c0) (hc1 : n1 ≤ c1)
    (hm0 : xs.length < 9223372036854775807) (hm1 : ys.length < 9223372036854775807) :
    Calls Tryd.prog 18 #[.slice A0 n0 c0, .slice A1 n1 c1] w fun e w' => e = .returned (.bool b) ∧ ∃ n, w' = w.drewN n := by
  subst h0 h1 hb
  exact (Ref.copseref0_SameBytes.calls (0 + xs.length + 1) A0 c0 xs A1 c1 ys _ w (hx.toC (by omega)) hc0 (hy.toC (by omega)) hc1 (same_eval xs ys hm0 0)).mono fun e w' ⟨he, hw⟩ => ⟨he, hw.out⟩

/-- A number of a slot, in a region that only reads. -/
theorem slot_quiet (t : Int) (w : World) (n : Nat) : Calls Tryd.prog 20 #[.int .u64 t] (w.drewN n) fun e w'' => e = .returned (.int .i64 (wrap64 (Int.tmod t 2))) ∧ ∃ m, w'' = w.drewN m :=
  Calls.quiet_of ((Ref.meta_Slot.calls t _ (w.drewN n) rfl).mono fun _ _ ⟨a, b⟩ => ⟨a, b.out⟩)
theorem rslot_quiet (t : Int) (w : World) (n : Nat) : Calls Tryd.prog 21 #[.int .u64 t] (w.drewN n) fun e w'' => e = .returned (.int .i64 (wrap64 (Int.tmod t 2))) ∧ ∃ m, w'' = w.drewN m :=
  Calls.quiet_of ((Ref.copseref5_Slot.calls t _ (w.drewN n) rfl).mono fun _ _ ⟨a, b⟩ => ⟨a, b.out⟩)
theorem quiet_same {f : FuncId} {args : Array Value} {w : World} {n : Nat} {v : Value} (h : Calls Tryd.prog f args (w.drewN n) fun e w' => e = .returned v ∧ w.drewN n = w') : Calls Tryd.prog f args (w.drewN n) fun e w'' => e = .returned v ∧ ∃ m, w'' = w.drewN m :=
  Calls.quiet_of_same (h.mono fun _ _ ⟨a, b⟩ => ⟨a, b.symm⟩)

/-- The reference's Encode. -/
theorem rencode_ok (p r t : Int) (w : World) (hm : MayM p r) : Calls Tryd.prog 17 #[.agg #[.int .i64 p, .int .i64 r, .int .u64 t]] w fun e w' => ∃ v, e = .returned (.tuple #[v, .int .i64 0]) ∧ OwnB w' w.heap.size v (wr p r t) ∧ Below w.heap.size w w' :=
  (Ref.copseref5_Encode.calls (0 + 10 * 512 + 1) p r t (wr p r t) 0 w (by rw [refEncode, if_pos hm])).mono fun _ _ ⟨v, he, ho, hb⟩ => ⟨v, he, .of ho, hb⟩
theorem rencode_no (p r t : Int) (w : World) (hm : ¬ MayM p r) : Calls Tryd.prog 17 #[.agg #[.int .i64 p, .int .i64 r, .int .u64 t]] w fun e w' => ∃ v, e = .returned (.tuple #[v, .int .i64 1]) ∧ OwnB w' w.heap.size v [] ∧ Below w.heap.size w w' :=
  (Ref.copseref5_Encode.calls (0 + 10 * 512 + 1) p r t [] 1 w (by rw [refEncode, if_neg hm])).mono fun _ _ ⟨v, he, ho, hb⟩ => ⟨v, he, .of ho, hb⟩
end Go.Proofs.YtoenacghkpgnpaaDoor.S
