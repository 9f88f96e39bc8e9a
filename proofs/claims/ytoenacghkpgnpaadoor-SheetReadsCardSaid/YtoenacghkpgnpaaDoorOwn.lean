/- Rows of bytes of the call's own that grow by append; and how they stand to the words of the printed functions. -/
import Derived.Test.YtoenacghkpgnpaaDoorCodec
import Derived.Test.YtoenacghkpgnpaaDoorRef3
import Derived.Maps.AppendAt
namespace Go.Proofs.YtoenacghkpgnpaaDoor.K
open Go.RowKit Go.Proofs.YtoenacghkpgnpaaDoor.Codec
open Go.Proofs.YtoenacghkpgnpaaDoorW.PrintWords (Kd encs ReadsOf)

/-- The value is a slice that lies at the head of a row of its own, in a block from 'base' on; it holds these bytes (or it is nil, and there are none). -/
def OwnB (w : World) (base : Nat) (v : Value) (xs : List Int) : Prop := w.ownsRow base 5 1 v xs.length (xs.map (Value.int .u8))
theorem OwnB.nil (w : World) (base : Nat) : OwnB w base (.slice none 0 0) [] := World.ownsRow_nil w base _ 1
theorem OwnB.to {w : World} {base : Nat} {ok : Nat → Prop} {v : Value} {xs : List Int} (h : OwnB w base v xs) (hok : ∀ k, v.ownBlock = some k → ok k) : (Kd.int .u8).R 5 w base ok v xs := Kd.R_of_own h hok
theorem OwnB.of {w : World} {base : Nat} {ok : Nat → Prop} {v : Value} {xs : List Int} (h : (Kd.int .u8).R 5 w base ok v xs) : OwnB w base v xs := Kd.own_of_R h
theorem OwnB.lt {w : World} {base : Nat} {v : Value} {xs : List Int} (h : OwnB w base v xs) : ∀ k, v.ownBlock = some k → base ≤ k ∧ k < w.heap.size := World.ownsRow.lt h
theorem OwnB.tch {w w' : World} {S : Nat → Prop} {base : Nat} {v : Value} {xs : List Int} (h : OwnB w base v xs) (ht : Tch S w w') (hS : ∀ k, v.ownBlock = some k → ¬ S k) : OwnB w' base v xs := by
  refine ⟨h.1, ?_⟩
  rcases h.2 with hn | ⟨g, cap, cur, rfl, hb, hh, r⟩
  · exact .inl hn
  · exact .inr ⟨g, cap, cur, rfl, hb, ht.row hh (hS g rfl), r⟩
theorem OwnB.below {w w' : World} {base : Nat} {v : Value} {xs : List Int} (h : OwnB w base v xs) (hb : Below w.heap.size w w') : OwnB w' base v xs := h.tch (Tch.of_below hb (fun _ => False)) (fun _ _ h => h)
theorem OwnB.mono {w : World} {base base' : Nat} {v : Value} {xs : List Int} (h : OwnB w base v xs) (hb : base' ≤ base) : OwnB w base' v xs := by
  refine ⟨h.1, ?_⟩
  rcases h.2 with hn | ⟨g, cap, cur, hv, hg, r⟩
  · exact .inl hn
  · exact .inr ⟨g, cap, cur, hv, by omega, r⟩
theorem OwnB.drewN {w : World} {base : Nat} {v : Value} {xs : List Int} (h : OwnB w base v xs) (n : Nat) : OwnB (w.drewN n) base v xs := h
/-- Its shape, and that it can be read. -/
theorem OwnB.form {w : World} {base : Nat} {v : Value} {xs : List Int} (h : OwnB w base v xs) : ∃ A c, v = .slice A xs.length c ∧ xs.length ≤ c ∧ RdB w A xs := by
  rcases h.2 with ⟨rfl, h0⟩ | ⟨g, cap, cur, rfl, hb, hh, h1, h2, h3, h4⟩
  · obtain rfl : xs = [] := List.eq_nil_of_length_eq_zero h0
    exact ⟨none, 0, rfl, Nat.le_refl _, RdB.nil _ _⟩
  · refine ⟨_, cap, rfl, h1, fun _ => ⟨_, rfl, fun j hj => ?_⟩⟩
    refine World.ownsRow.cells (g := g) h rfl j _ ?_
    simp [List.getD_eq_getElem?_getD, List.getElem?_eq_getElem hj]
/-- A row that is known whole. -/
theorem OwnB.of_row {w : World} {base g : Nat} {xs : List Int} (hh : w.heap[g]? = some (.cells (u8s xs) 5 (0, 0))) (hb : base ≤ g) (hl : xs.length ≤ 281474976710656) : OwnB w base (.slice (some ⟨g, 0, none⟩) xs.length xs.length) xs :=
  ⟨by simp, .inr ⟨g, xs.length, u8s xs, rfl, hb, hh, Nat.le_refl _, by simp only [maxLen]; omega, by simp [u8s_size], by rw [u8s_toList, Nat.mul_one]; exact List.take_of_length_le (by simp)⟩⟩
theorem RdB.toC {w : World} {A : Option Addr} {xs : List Int} (h : RdB w A xs) (hl : xs.length ≤ 9223372036854775807) : (Kd.int .u8).C w A xs.length xs :=
  Kd.C_of_reads (d := 0) ⟨rfl, hl, fun hp => by
    obtain ⟨ad, e, hc⟩ := h hp
    exact ⟨ad, e, hc⟩⟩
theorem RdB.ofC {w : World} {A : Option Addr} {n : Nat} {xs : List Int} (h : (Kd.int .u8).C w A n xs) : RdB w A xs := fun hp => by
  have hr := Kd.reads_of_C (enc := Value.int .u8) (d := (0 : Int)) h
  have hn : xs.length = n := hr.1
  obtain ⟨ad, e, hc⟩ := hr.2.2 (by omega)
  exact ⟨ad, e, fun j hj => hc j (by omega)⟩

theorem u8_at {xs : List Int} {j : Nat} {u : Value} (hu : (xs.map (Value.int .u8))[j]? = some u) : j < xs.length ∧ u = .int .u8 (xs.getD j 0) := by
  rw [List.getElem?_map] at hu
  rcases Nat.lt_or_ge j xs.length with hj | hj
  · rw [List.getElem?_eq_getElem hj] at hu
    refine ⟨hj, ?_⟩
    rw [List.getD_eq_getElem?_getD, List.getElem?_eq_getElem hj]
    exact (Option.some.inj hu).symm
  · rw [List.getElem?_eq_none hj] at hu
    cases hu

/-- A block of another make is not its own. -/
theorem OwnB.ne {w : World} {base g : Nat} {v : Value} {xs : List Int} {C : Array Value} {t : TypeId} {fr : Nat × Nat} (h : OwnB w base v xs) (hg : w.heap[g]? = some (.cells C t fr)) (ht : t ≠ 5) : ∀ k, v.ownBlock = some k → k ≠ g := by
  intro k hk e
  subst e
  rcases h.2 with ⟨rfl, _⟩ | ⟨g', cap, cur, rfl, hb, hh, _⟩
  · simp [Value.ownBlock] at hk
  · have : g' = k := by simpa [Value.ownBlock] using hk
    subst this
    rw [hg] at hh
    injection hh with hh
    injection hh with _ hh
    exact ht hh

/-- What an append can be made onto: a row of its own, or a full slice that can be read. -/
def Ap (w : World) (base : Nat) (v : Value) (xs : List Int) : Prop := OwnB w base v xs ∨ ∃ A, v = .slice A xs.length xs.length ∧ (A = none → xs = []) ∧ RdB w A xs
theorem Ap.below {w w' : World} {base : Nat} {v : Value} {xs : List Int} (h : Ap w base v xs) (hb : Below w.heap.size w w') : Ap w' base v xs := by
  rcases h with h | ⟨A, hv, hn, hr⟩
  · exact .inl (h.below hb)
  · exact .inr ⟨A, hv, hn, hr.below hb⟩
theorem Ap.alloc {w : World} {base : Nat} {v : Value} {xs : List Int} (h : Ap w base v xs) (o : Obj) : Ap (w.alloc o) base v xs := h.below (below_alloc (Below.refl _ _) o)
/-- Which block an append onto it may write. -/
def ApS (base : Nat) (v : Value) (i : Nat) : Prop := v.ownBlock = some i ∧ base ≤ i

section
variable {w : World} {ops : Array Oper} {rest : List Oper} {o : Oper} {a : Act} {Q : Exit → Act → World → Prop}
set_option maxRecDepth 100000 in
/-- 'append' of some bytes that lie at an address. -/
theorem wpList_ap (hg : o.guard = none) (s x : Operand) (hop : o.op = Op.call { callee := Callee.builtin Builtin.append, args := #[s, x], argTypes := #[25, 25] })
    (base : Nat) (xs news : List Int) (v : Value) (hs : a.eval s = v) (h : Ap w base v xs) (hbase : base ≤ w.heap.size)
    (ad : Addr) (m c : Nat) (hx : a.eval x = .slice (some ad) m c) (hm : news.length = m) (hm0 : 0 < m) (hn : RdB w (some ad) news) (hl : xs.length + m ≤ 140737488355328)
    (hK : ∀ v' w', Hd (OwnB w' base v' (xs ++ news)) → Tch (ApS base v) w w' → (∀ i, v'.ownBlock = some i → v.ownBlock = some i ∨ w.heap.size ≤ i) → wpList Tryd.prog ops Q rest (a.put o.dst v') w') :
    wpList Tryd.prog ops Q (o :: rest) a w := by
  obtain ⟨i, hi, hz0, hz1, hz2⟩ := info_parts u8info
  have hcell : ∀ j u, (news.map (Value.int .u8))[j]? = some u → w.cell? (ad.add j) = some u := by
    intro j u hu
    obtain ⟨hj, rfl⟩ := u8_at hu
    obtain ⟨ad', e, hc⟩ := hn (by omega)
    injection e with e
    subst e
    exact hc j hj
  have hlen : (news.map (Value.int .u8)).length = m * 1 := by simp [hm]
  have hout : ∀ v' w', w'.ownsRow base 5 1 v' (xs.length + m) (xs.map (Value.int .u8) ++ news.map (Value.int .u8)) → OwnB w' base v' (xs ++ news) := by
    intro v' w' ho
    show w'.ownsRow base 5 1 v' (xs ++ news).length ((xs ++ news).map (Value.int .u8))
    rw [List.length_append, hm, List.map_append]
    exact ho
  rcases h with h | ⟨A, hv, hnil, hr⟩
  · refine wpList_append_own_at w hg s x 25 hop base 5 i (.int .u8 0) 1 1 Tryd.underlying25 hi hz0 hz1 hz2 rfl (by decide) v xs.length (xs.map (Value.int .u8)) hs h ad m c (news.map (Value.int .u8)) hx hlen hcell (u8s_one news) (by simp only [maxLen]; omega) (by omega) hbase ?_
    intro v' w' ho hgr _ hat
    refine hK v' w' ⟨hout v' w' ho⟩ ⟨hgr.os, hgr.tape, hgr.output, hgr.size, fun k hk hS => hgr.block k hk (fun e => hS ⟨e.symm, (h.lt k e.symm).1⟩)⟩ fun i hi => ?_
    rcases hat with e | e
    · exact .inl (e ▸ hi)
    · rw [e] at hi
      injection hi with hi
      exact .inr (by omega)
  · subst hv
    refine wpList_append_grows w hg s x 25 hop 5 i (.int .u8 0) 1 1 Tryd.underlying25 hi hz0 hz1 hz2 rfl (by decide) A xs.length xs.length (xs.map (Value.int .u8)) hs (fun e => by rw [hnil e]; exact ⟨rfl, rfl⟩) (by simp) ?_ ad m c (news.map (Value.int .u8)) hx hlen hcell (u8s_one news) (by omega) (by simp only [maxLen]; omega) (by omega) ?_
    · intro b e j u hu
      obtain ⟨hj, rfl⟩ := u8_at hu
      obtain ⟨ad', e', hc⟩ := hr (by omega)
      rw [e] at e'
      injection e' with e'
      subst e'
      exact hc j hj
    · intro v' w' ho hgr
      have ho' : OwnB w' w.heap.size v' (xs ++ news) := by
        show w'.ownsRow w.heap.size 5 1 v' (xs ++ news).length ((xs ++ news).map (Value.int .u8))
        rw [List.length_append, hm, List.map_append]
        exact ho
      exact hK v' w' ⟨ho'.mono hbase⟩ ⟨hgr.os, hgr.tape, hgr.output, hgr.size, fun k hk _ => hgr.block k hk (by simp)⟩ fun i hi => .inr (ho'.lt i hi).1
end
end Go.Proofs.YtoenacghkpgnpaaDoor.K
