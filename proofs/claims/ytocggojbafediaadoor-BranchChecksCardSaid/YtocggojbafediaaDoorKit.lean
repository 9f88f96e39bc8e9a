/- Words of this session's own: how a world is touched; rows of bytes; make, copy and whole arrays as single steps of a walk; over any program. -/
import Derived.WalkKit
import Derived.Laws.CopyOwn
import Derived.Laws.Rows
import Derived.Laws.Tables
import Derived.BigQuiet
import Derived.Deep.QuietTactic
import Derived.WalkSpells
import Derived.WalkLawsBesides
import Derived.LaidEql
namespace Go.Proofs.YtocggojbafediaaDoor.K
open Go.RowKit

/-- A fact that nothing looks into. -/
structure Hd (p : Prop) : Prop where
  out : p

/-! ### Worlds -/

/-- Nothing that was there has turned, but for the blocks of S. -/
structure Tch (S : Nat → Prop) (w w' : World) : Prop where
  os : w'.os = w.os
  tape : w'.tape = w.tape
  output : w'.output = w.output
  size : w.heap.size ≤ w'.heap.size
  block : ∀ k, k < w.heap.size → ¬ S k → w'.heap[k]? = w.heap[k]?

theorem Tch.refl (S : Nat → Prop) (w : World) : Tch S w w := ⟨rfl, rfl, rfl, Nat.le_refl _, fun _ _ _ => rfl⟩
theorem Tch.trans {S T : Nat → Prop} {a b c : World} (h : Tch S a b) (k : Tch T b c) (hT : ∀ i, T i → S i ∨ a.heap.size ≤ i) : Tch S a c :=
  ⟨k.os.trans h.os, k.tape.trans h.tape, k.output.trans h.output, Nat.le_trans h.size k.size, fun i hi hS =>
    (k.block i (Nat.lt_of_lt_of_le hi h.size) (fun ht => (hT i ht).elim hS (fun hle => absurd hi (Nat.not_lt.2 hle)))).trans (h.block i hi hS)⟩
theorem Tch.mono {S T : Nat → Prop} {a b : World} (h : Tch S a b) (hT : ∀ i, S i → T i ∨ a.heap.size ≤ i) : Tch T a b :=
  ⟨h.os, h.tape, h.output, h.size, fun i hi hn => h.block i hi (fun hs => (hT i hs).elim hn (fun hle => absurd hi (Nat.not_lt.2 hle)))⟩
theorem Tch.of_below {w w' : World} (h : Below w.heap.size w w') (S : Nat → Prop) : Tch S w w' := ⟨h.os, h.tape, h.output, h.size, fun k hk _ => h.block k hk⟩
theorem Tch.below {S : Nat → Prop} {w w' : World} (h : Tch S w w') (hS : ∀ i, S i → w.heap.size ≤ i) : Below w.heap.size w w' :=
  ⟨h.os, h.tape, h.output, h.size, fun k hk => h.block k hk (fun hs => absurd hk (Nat.not_lt.2 (hS k hs)))⟩
/-- What is known whole stays, where it is not touched. -/
theorem Tch.row {S : Nat → Prop} {w w' : World} (h : Tch S w w') {g : Nat} {o : Obj} (hg : w.heap[g]? = some o) (hS : ¬ S g) : w'.heap[g]? = some o :=
  (h.block g (Array.getElem?_eq_some_iff.1 hg).1 hS).trans hg
theorem Tch.cell {S : Nat → Prop} {w w' : World} (h : Tch S w w') {p : Addr} {v : Value} (hc : w.cell? p = some v) (hS : ¬ S p.block) : w'.cell? p = some v :=
  (World.cell?_of_block (w := w) (h.block p.block (World.block_lt_of_cell? w p hc) hS)).trans hc
theorem Tch.setCell {S : Nat → Prop} {a w : World} (h : Tch S a w) {p : Addr} (hp : S p.block ∨ a.heap.size ≤ p.block) (u : Value) : Tch S a (w.setCell p u) :=
  h.trans (T := fun i => i = p.block) ⟨rfl, rfl, rfl, by simp, fun k _ hk => Below.heap_setCell _ _ _ _ hk⟩ (fun i hi => by subst hi; exact hp)
theorem Tch.setRow {S : Nat → Prop} {a w : World} (h : Tch S a w) {g : Nat} (hp : S g ∨ a.heap.size ≤ g) (cs : Array Value) : Tch S a (w.setRow g cs) :=
  h.trans (T := fun i => i = g) ⟨rfl, rfl, rfl, by simp, fun k _ hk => setRow_other w g k cs hk⟩ (fun i hi => by subst hi; exact hp)
theorem Tch.alloc {S : Nat → Prop} {a w : World} (h : Tch S a w) (o : Obj) : Tch S a (w.alloc o) :=
  h.trans (T := fun _ => False) ⟨rfl, rfl, rfl, by simp, fun k hk _ => Below.heap_alloc _ _ _ hk⟩ (fun _ hi => hi.elim)
theorem Tch.drew {S : Nat → Prop} {a w : World} (h : Tch S a w) : Tch S a w.drew := ⟨h.os, h.tape, h.output, h.size, h.block⟩
theorem Tch.drewN {S : Nat → Prop} {a w : World} (h : Tch S a w) (n : Nat) : Tch S a (w.drewN n) := ⟨h.os, h.tape, h.output, h.size, h.block⟩

theorem below_drewN {B : Nat} {a w : World} (h : Below B a w) (n : Nat) : Below B a (w.drewN n) := ⟨h.os, h.tape, h.output, h.size, h.block⟩
theorem below_drawn {w w' : World} (h : ∃ n, w' = w.drewN n) : Below w.heap.size w w' := by obtain ⟨n, rfl⟩ := h; exact below_drewN (Below.refl _ _) n
/-- Two steps, each of which leaves what it found. -/
theorem below_step {w w1 w2 : World} (h : Below w.heap.size w w1) (k : Below w1.heap.size w1 w2) : Below w.heap.size w w2 := h.trans (k.mono h.size)
theorem below_alloc {w w1 : World} (h : Below w.heap.size w w1) (o : Obj) : Below w.heap.size w (w1.alloc o) := h.alloc h.size o
theorem below_set {w w1 : World} (h : Below w.heap.size w w1) {p : Addr} (hp : w.heap.size ≤ p.block) (u : Value) : Below w.heap.size w (w1.setCell p u) := h.setCell hp u
theorem below_setRow {w w1 : World} (h : Below w.heap.size w w1) {g : Nat} (hp : w.heap.size ≤ g) (cs : Array Value) : Below w.heap.size w (w1.setRow g cs) := Go.below_setRow h hp cs
theorem below_row {w w1 : World} (h : Below w.heap.size w w1) {g : Nat} {o : Obj} (hg : w.heap[g]? = some o) : w1.heap[g]? = some o := (h.block g (Array.getElem?_eq_some_iff.1 hg).1).trans hg
theorem below_cell {w w1 : World} (h : Below w.heap.size w w1) {p : Addr} {v : Value} (hc : w.cell? p = some v) : w1.cell? p = some v := (h.cell (World.block_lt_of_cell? w p hc)).trans hc
theorem below_tch {S : Nat → Prop} {w W W' : World} (h : Below w.heap.size w W) (k : Tch S W W') (hS : ∀ i, S i → w.heap.size ≤ i) : Below w.heap.size w W' :=
  ⟨k.os.trans h.os, k.tape.trans h.tape, k.output.trans h.output, Nat.le_trans h.size k.size, fun i hi => (k.block i (Nat.lt_of_lt_of_le hi h.size) (fun hs => absurd hi (Nat.not_lt.2 (hS i hs)))).trans (h.block i hi)⟩
/-- A box that was laid just ahead of a call. -/
theorem box_row {w W : World} {C : Array Value} {t : TypeId} (hb : Below (w.alloc (.cells C t)).heap.size (w.alloc (.cells C t)) W) : W.heap[w.heap.size]? = some (.cells C t (0, 0)) := below_row hb (heap_alloc_new w _)
theorem box_cell {w W : World} {C : Array Value} {t : TypeId} (hb : Below (w.alloc (.cells C t)).heap.size (w.alloc (.cells C t)) W) (i : Nat) (v : Value) (h : C[i]? = some v) : W.cell? ⟨w.heap.size, i, none⟩ = some v :=
  (cell_of_row W _ i C t (0, 0) (box_row hb)).trans h
theorem box_below {w W : World} {o : Obj} (hb : Below (w.alloc o).heap.size (w.alloc o) W) : Below w.heap.size w W := below_step (below_alloc (Below.refl _ _) _) hb
theorem row_lt {w : World} {g : Nat} {o : Obj} (hg : w.heap[g]? = some o) : g < w.heap.size := (Array.getElem?_eq_some_iff.1 hg).1

/-- The heap's rows as the walk may ask for them. -/
theorem row_alloc_at (w : World) (o : Obj) (n : Nat) (hn : n = w.heap.size) : (w.alloc o).heap[n]? = some o := by subst hn; exact heap_alloc_new w o
theorem row_alloc_past (w : World) (o : Obj) (n : Nat) (hn : n < w.heap.size) : (w.alloc o).heap[n]? = w.heap[n]? := Below.heap_alloc w o n hn
theorem row_drewN (w : World) (m n : Nat) : (w.drewN m).heap[n]? = w.heap[n]? := rfl
theorem setRow_alloc_at (w : World) (c cs : Array Value) (t : TypeId) (fr : Nat × Nat) (n : Nat) (hn : n = w.heap.size) : (w.alloc (.cells c t fr)).setRow n cs = w.alloc (.cells cs t fr) := by
  subst hn
  simp only [World.setRow, World.alloc]
  congr 1
  apply Array.ext
  · simp
  · intro i h1 h2
    simp only [Array.getElem_modify, Array.getElem_push]
    by_cases hi : i = w.heap.size
    · subst hi; simp
    · have : i < w.heap.size := by simp at h2; omega
      simp [this, Ne.symm hi]
theorem setRow_alloc_past (w : World) (o : Obj) (cs : Array Value) (n : Nat) (hn : n < w.heap.size) : (w.alloc o).setRow n cs = (w.setRow n cs).alloc o := by
  simp only [World.setRow, World.alloc]
  congr 1
  apply Array.ext
  · simp
  · intro i h1 h2
    simp only [Array.getElem_modify, Array.getElem_push, Array.size_modify]
    by_cases hi : i < w.heap.size
    · by_cases hn' : n = i
      · subst hn'; simp [hi]
      · simp [hi, hn']
    · have : n ≠ i := by omega
      simp [hi, this]

/-! ### Rows of bytes -/
/-- Bytes as cells. -/
def u8s (xs : List Int) : Array Value := (xs.map (Value.int .u8)).toArray
theorem u8s_size (xs : List Int) : (u8s xs).size = xs.length := by simp [u8s]
theorem u8s_toList (xs : List Int) : (u8s xs).toList = xs.map (Value.int .u8) := by simp [u8s]
theorem u8s_get (xs : List Int) (i : Nat) : (u8s xs)[i]? = xs[i]?.map (Value.int .u8) := by simp [u8s]
theorem u8s_at (xs : List Int) (i : Nat) (h : i < xs.length) : (u8s xs)[i]? = some (.int .u8 (xs.getD i 0)) := by
  simp [u8s, List.getD_eq_getElem?_getD, h]
theorem u8s_set (xs : List Int) (i : Nat) (v : Int) : (u8s xs).setIfInBounds i (.int .u8 v) = u8s (xs.set i v) := by
  simp [u8s, List.map_set]
theorem u8s_one (xs : List Int) : ∀ u ∈ xs.map (Value.int .u8), u.oneCell' = true := by
  intro u hu
  obtain ⟨_, _, rfl⟩ := List.mem_map.1 hu
  rfl
def zs (n : Nat) : List Int := List.replicate n 0
theorem zs_length (n : Nat) : (zs n).length = n := by simp [zs]
theorem zs_range (n : Nat) : ∀ x, x ∈ zs n → 0 ≤ x ∧ x ≤ 255 := by
  intro x hx
  have := List.eq_of_mem_replicate hx
  omega
theorem u8s_replicate (n : Nat) : Array.replicate n (.int .u8 0) = u8s (List.replicate n 0) := by simp [u8s]
theorem splice_map {α β : Type} (f : α → β) (L : List α) (off : Nat) (cs : List α) : splice (L.map f) off (cs.map f) = (splice L off cs).map f := by
  simp [splice, List.map_take, List.map_drop]

/-- The cells behind an address read as these bytes (nothing is asked where there is none). -/
def RdB (w : World) (A : Option Addr) (xs : List Int) : Prop := 0 < xs.length → ∃ ad, A = some ad ∧ ∀ j, j < xs.length → w.cell? (ad.add j) = some (.int .u8 (xs.getD j 0))
theorem RdB.nil (w : World) (A : Option Addr) : RdB w A [] := fun h => absurd h (by simp)
theorem add0 (g j : Nat) : (⟨g, 0, none⟩ : Addr).add j = ⟨g, j, none⟩ := by unfold Addr.add; split <;> simp_all
theorem addo (g o j : Nat) : (⟨g, o, none⟩ : Addr).add j = ⟨g, o + j, none⟩ := by unfold Addr.add; split <;> simp_all
/-- A piece of a row that is known whole. -/
theorem RdB.of_row {w : World} {g : Nat} {cs xs : List Int} {t : TypeId} {fr : Nat × Nat} (hg : w.heap[g]? = some (.cells (u8s cs) t fr)) (o : Nat) (hx : ∀ j, j < xs.length → cs[o + j]? = some (xs.getD j 0)) :
    RdB w (some ⟨g, o, none⟩) xs :=
  fun _ => ⟨_, rfl, fun j hj => by rw [addo, cell_of_row w g _ _ t fr hg, u8s_get, hx j hj]; rfl⟩
theorem RdB.of_row0 {w : World} {g : Nat} {xs : List Int} {t : TypeId} {fr : Nat × Nat} (hg : w.heap[g]? = some (.cells (u8s xs) t fr)) : RdB w (some ⟨g, 0, none⟩) xs :=
  RdB.of_row hg 0 fun j hj => by simp [List.getD_eq_getElem?_getD, hj]
theorem RdB.below {w w1 : World} {A : Option Addr} {xs : List Int} (h : RdB w A xs) (hb : Below w.heap.size w w1) : RdB w1 A xs :=
  fun hp => by
    obtain ⟨ad, e, hc⟩ := h hp
    exact ⟨ad, e, fun j hj => below_cell hb (hc j hj)⟩
theorem RdB.touch {S : Nat → Prop} {w w1 : World} {A : Option Addr} {xs : List Int} (h : RdB w A xs) (hb : Tch S w w1) (hS : ∀ ad, A = some ad → ¬ S ad.block) : RdB w1 A xs :=
  fun hp => by
    obtain ⟨ad, e, hc⟩ := h hp
    refine ⟨ad, e, fun j hj => hb.cell (hc j hj) ?_⟩
    have : (ad.add j).block = ad.block := by unfold Addr.add; split <;> rfl
    rw [this]; exact hS ad e
theorem RdB.drewN {w : World} {A : Option Addr} {xs : List Int} (h : RdB w A xs) (n : Nat) : RdB (w.drewN n) A xs := h
theorem RdB.at_ {w : World} {A : Option Addr} {xs : List Int} (h : RdB w A xs) (j : Nat) (hj : j < xs.length) : ∃ ad, A = some ad ∧ w.cell? (ad.add j) = some (.int .u8 (xs.getD j 0)) := by
  obtain ⟨ad, e, hc⟩ := h (by omega)
  exact ⟨ad, e, hc j hj⟩

/-! ### A piece of an array that is a variable -/
section
variable {P : Program}
theorem run_arr (w : World) (t e : TypeId) (N : Nat) (ht : P.underlying t = some (.array N e)) (he : (P.info? e).map (·.size) = some 1) (g : Nat) :
    (Instr.sliceAt t (.pointer (some ⟨g, 0, none⟩)) none none none).run P w = .ok (.slice (some ⟨g, 0, none⟩) N N) w := by
  have h1 : P.arrayLen t = N := by simp [Program.arrayLen, ht]
  have h2 : P.elem t = e := by simp [Program.elem, ht]
  obtain ⟨i, hi, hs⟩ := Option.map_eq_some_iff.1 he
  rw [run_sliceAt_array_all w t _ (by rw [h1, h2]; exact ht), h1, h2]
  simp [sizeOf, typeInfo, hi, hs, Result.andThen, slicedAt]
  intro _; exact add0 g 0
theorem run_arr_l (w : World) (t e : TypeId) (N : Nat) (ht : P.underlying t = some (.array N e)) (he : (P.info? e).map (·.size) = some 1) (g : Nat) (kl : IntKind) (l : Int) (n : Nat) (hl : l = (n : Int)) (hn : n < N) :
    (Instr.sliceAt t (.pointer (some ⟨g, 0, none⟩)) (some (.int kl l)) none none).run P w = .ok (.slice (some ⟨g, n, none⟩) (N - n) (N - n)) w := by
  have h1 : P.arrayLen t = N := by simp [Program.arrayLen, ht]
  have h2 : P.elem t = e := by simp [Program.elem, ht]
  obtain ⟨i, hi, hs⟩ := Option.map_eq_some_iff.1 he
  rw [run_sliceAt_array_l w t _ (by rw [h1, h2]; exact ht) kl l (by omega) (by rw [h1]; omega), h1, h2]
  subst hl
  simp [sizeOf, typeInfo, hi, hs, Result.andThen, slicedAt, show ¬ N = n by omega, add0]
theorem run_arr_lh (w : World) (t e : TypeId) (N : Nat) (ht : P.underlying t = some (.array N e)) (he : (P.info? e).map (·.size) = some 1) (g : Nat) (kl kh : IntKind) (l h : Int) (n m : Nat) (hl : l = (n : Int)) (hh : h = (m : Int)) (hn : n < N) (hnm : n ≤ m) (hm : m ≤ N) :
    (Instr.sliceAt t (.pointer (some ⟨g, 0, none⟩)) (some (.int kl l)) (some (.int kh h)) none).run P w = .ok (.slice (some ⟨g, n, none⟩) (m - n) (N - n)) w := by
  have h1 : P.arrayLen t = N := by simp [Program.arrayLen, ht]
  have h2 : P.elem t = e := by simp [Program.elem, ht]
  obtain ⟨i, hi, hs⟩ := Option.map_eq_some_iff.1 he
  rw [run_sliceAt_array_lh w t _ (by rw [h1, h2]; exact ht) kl kh l h (by omega) (by omega) (by rw [h1]; omega), h1, h2]
  subst hl hh
  simp [sizeOf, typeInfo, hi, hs, Result.andThen, slicedAt, show ¬ N = n by omega, add0]
end

/-! ### Single steps -/
section
variable {P : Program} {w : World} {ops : Array Oper} {rest : List Oper} {o : Oper} {a : Act} {Q : Exit → Act → World → Prop}

theorem madeCells_one (z : Value) (hz : z.cells = #[z]) (n : Nat) : madeCells z.cells n = Array.replicate n z := by
  rw [hz]
  apply Array.ext
  · simp [madeCells]
  · intro i h1 h2
    simp [madeCells, Nat.mod_one]

set_option maxRecDepth 100000 in
/-- 'make' of one-celled elements: the world written out. -/
theorem wpList_mk (hg : o.guard = none) (l c : Operand) (t : TypeId) (hop : o.op = Op.makeSlice t l c)
    (e : TypeId) (z : Value) (bytes : Nat) (h1 : P.underlying t = some (.slice e)) (h2 : (P.info? e).map (fun i => (i.zero, i.size, i.bytes)) = some (some z, 1, bytes)) (hz : z.cells = #[z])
    (kl kc : IntKind) (L C : Int) (m n : Nat) (hl : a.eval l = .int kl L) (hc : a.eval c = .int kc C) (hL : L = (m : Int)) (hC : C = (n : Int)) (hmn : m ≤ n) (b2 : bytes * n ≤ 281474976710656) (b3 : n ≤ 9223372036854775807)
    (hK : wpList P ops Q rest (a.put o.dst (.slice (some ⟨w.heap.size, 0, none⟩) m n)) (w.alloc (.cells (Array.replicate n z) e))) :
    wpList P ops Q (o :: rest) a w := by
  refine wpList_plain hg fun K hK' => ?_
  obtain ⟨i, hi, hz0, hz1, hz2⟩ := info_parts h2
  have b2' : (i.bytes : Int) * (n : Int) ≤ 281474976710656 := by
    have h : ((bytes * n : Nat) : Int) ≤ 281474976710656 := by omega
    rwa [Int.natCast_mul, ← hz2] at h
  have hrun := run_make (P := P) w t e i z h1 hi hz0 kl kc m n (by omega) (by omega) b2' (by omega)
  rw [hz1] at hrun
  simp only [Int.toNat_natCast, Nat.mul_one, madeCells_one z hz] at hrun
  subst hL hC
  unfold Oper.wp
  simp [execOp, hop, hl, hc, hrun, Result.andThen]
  exact hK' _ _ hK

/-- 'copy' of bytes into a row that is known whole: the world written out. -/
theorem wpList_cp (hgd : o.guard = none) (d s : Operand) (dT sT : TypeId)
    (ho : o.op = .call { callee := .builtin .copy, args := #[d, s], argTypes := #[dT, sT] }) (elem : TypeId) (hu : P.underlying dT = some (.slice elem)) (hsz : (P.info? elem).map (·.size) = some 1)
    (g off dLen dCap : Nat) (sp : Option Addr) (sLen sCap : Nat) (hd : a.eval d = .slice (some ⟨g, off, none⟩) dLen dCap) (hs : a.eval s = .slice sp sLen sCap)
    (cur : List Int) (t : TypeId) (hg : w.heap[g]? = some (.cells (u8s cur) t (0, 0))) (cs : List Int) (hn : cs.length = Nat.min sLen dLen) (hsrc : RdB w sp cs) (hfit : off + cs.length ≤ cur.length)
    (h : wpList P ops Q rest (a.put o.dst (goInt cs.length)) (w.setRow g (u8s (splice cur off cs)))) : wpList P ops Q (o :: rest) a w := by
  by_cases h0 : cs.length = 0
  · obtain rfl : cs = [] := List.eq_nil_of_length_eq_zero h0
    refine wpList_copy_nothing hgd d s dT sT ho elem hu hsz _ sp dLen dCap sLen sCap hd hs (by simpa using hn.symm) ?_
    have e : splice cur off [] = cur := by simp [splice]
    rw [e, setRow_self w g (u8s cur) t (0, 0) hg] at h
    exact h
  · obtain ⟨ad, rfl, hc⟩ := hsrc (by omega)
    refine wpList_copy_own hgd d s dT sT ho elem hu hsz g off dLen dCap ad sLen sCap hd hs (u8s cur) t hg (cs.map (Value.int .u8)) (by simpa using hn) ?_ (by simpa [u8s_size] using hfit) (u8s_one cs) ?_
    · intro j v hv
      rw [List.getElem?_map] at hv
      have hj : j < cs.length := by
        rcases Nat.lt_or_ge j cs.length with h' | h'
        · exact h'
        · simp [List.getElem?_eq_none h'] at hv
      rw [hc j hj]
      simp [List.getElem?_eq_getElem hj] at hv
      simp [List.getD_eq_getElem?_getD, hj, hv]
    · have e : ((u8s cur).toList.take off ++ (cs.map (Value.int .u8) ++ (u8s cur).toList.drop (off + (cs.map (Value.int .u8)).length))).toArray = u8s (splice cur off cs) := by
        simp [u8s, splice, List.map_take, List.map_drop]
      rw [e]
      simpa using h

/-- A text's bytes. -/
def sb (s : ByteArray) : List Int := s.data.toList.map fun b => (b.toNat : Int)
theorem sb_length (s : ByteArray) : (sb s).length = s.size := by simp [sb]
theorem sb_range (s : ByteArray) : ∀ x, x ∈ sb s → 0 ≤ x ∧ x ≤ 255 := by
  intro x hx
  obtain ⟨b, _, rfl⟩ := List.mem_map.1 hx
  have := b.toNat_lt
  omega

/-- 'copy' of a text into a row of bytes that is known whole. -/
theorem wpList_cps (hgd : o.guard = none) (d s : Operand) (dT sT : TypeId)
    (ho : o.op = .call { callee := .builtin .copy, args := #[d, s], argTypes := #[dT, sT] }) (elem : TypeId) (hu : P.underlying dT = some (.slice elem)) (hsz : (P.info? elem).map (·.size) = some 1)
    (g off dLen dCap : Nat) (str : ByteArray) (hd : a.eval d = .slice (some ⟨g, off, none⟩) dLen dCap) (hs : a.eval s = .string str)
    (cur : List Int) (t : TypeId) (hg : w.heap[g]? = some (.cells (u8s cur) t (0, 0))) (cs : List Int) (hcs : cs = (sb str).take dLen) (hfit : off + cs.length ≤ cur.length)
    (h : wpList P ops Q rest (a.put o.dst (goInt cs.length)) (w.setRow g (u8s (splice cur off cs)))) : wpList P ops Q (o :: rest) a w := by
  refine wpList_plain hgd fun K hK => ?_
  obtain ⟨i, hi, his⟩ := Option.map_eq_some_iff.1 hsz
  have hl : cs.length = Nat.min str.size dLen := by
    rw [hcs, List.length_take, sb_length]
    exact Nat.min_comm _ _
  have hcells : List.take (str.size.min dLen) (List.map (fun b => Value.int .u8 (b.toNat : Int)) str.data.toList) = cs.map (Value.int .u8) := by
    have h3 : (sb str).take dLen = (sb str).take (str.size.min dLen) := by rw [List.take_eq_take_min, sb_length, Nat.min_comm]
    rw [hcs, h3, List.map_take]
    simp [sb]
    rfl
  have hst := run_storeCells_at P g off t (cs.map (Value.int .u8)) 0 (u8s cur) w hg (by simpa [u8s_size] using hfit) (u8s_one cs)
  have hrun : (Builtin.copy_ #[dT, sT] o.type #[.slice (some ⟨g, off, none⟩) dLen dCap, .string str]).run P w = .ok (goInt cs.length) (w.setRow g (u8s (splice cur off cs))) := by
    have e : ((u8s cur).toList.take (off + 0) ++ cs.map (Value.int .u8) ++ (u8s cur).toList.drop (off + 0 + (cs.map (Value.int .u8)).length)).toArray = u8s (splice cur off cs) := by
      simp [u8s, splice, List.map_take, List.map_drop]
    rw [e] at hst
    rw [hl]
    simp [Builtin.copy_, Builtin.lenOf, Builtin.firstCells, run_underlying hu, sizeOf, typeInfo, hi, hst, hcells]
  unfold Oper.wp
  simp [execOp, ho, resolve, invoke, builtin, hd, hs, hrun, Result.andThen]
  exact hK _ _ h

/-- A whole array is stored. -/
theorem wpList_st (hgd : o.guard = none) (ty : TypeId) (x y : Operand) (ho : o.op = .store ty x y)
    (g : Nat) (cells : Array Value) (hx : a.eval x = .pointer (some ⟨g, 0, none⟩)) (hy : a.eval y = .agg cells)
    (t : TypeId) (old : Array Value) (hg : w.heap[g]? = some (.cells old t (0, 0))) (hi : (P.info? ty).map (·.size) = some cells.size)
    (hold : old.size = cells.size) (h1 : ∀ u ∈ cells.toList, u.oneCell' = true)
    (h : wpList P ops Q rest (a.put o.dst undef) (w.setRow g cells)) : wpList P ops Q (o :: rest) a w :=
  wpList_plain hgd fun _ hK => wp_store_row ty x y ho g cells hx hy t old hg hi hold (by rw [Array.all_eq_true_iff_forall_mem]; intro u hu; exact h1 u (by simpa using hu)) (hK _ _ h)

/-- A look at the operation ahead of a law: '(with_reducible refine gD (N := 5) rfl ?_)' fails at once unless the next operation writes slot 5. -/
theorem gD {N : Tmp} (_h : o.dst = some N) (h : wpList P ops Q (o :: rest) a w) : wpList P ops Q (o :: rest) a w := h
theorem gS {t : TypeId} {x y : Operand} (_h : o.op = .store t x y) (h : wpList P ops Q (o :: rest) a w) : wpList P ops Q (o :: rest) a w := h

/-! The same, the world behind it a variable of which the row and the touch are known. -/
theorem tch_setRow (w : World) (g : Nat) (cs : Array Value) : Tch (fun i => i = g) w (w.setRow g cs) := (Tch.refl (fun i => i = g) w).setRow (g := g) (.inl rfl) cs
theorem wpList_cpW (hgd : o.guard = none) (d s : Operand) (dT sT : TypeId)
    (ho : o.op = .call { callee := .builtin .copy, args := #[d, s], argTypes := #[dT, sT] }) (elem : TypeId) (hu : P.underlying dT = some (.slice elem)) (hsz : (P.info? elem).map (·.size) = some 1)
    (g off dLen dCap : Nat) (sp : Option Addr) (sLen sCap : Nat) (hd : a.eval d = .slice (some ⟨g, off, none⟩) dLen dCap) (hs : a.eval s = .slice sp sLen sCap)
    (cur : List Int) (t : TypeId) (hg : w.heap[g]? = some (.cells (u8s cur) t (0, 0))) (cs : List Int) (hn : cs.length = Nat.min sLen dLen) (hsrc : RdB w sp cs) (hfit : off + cs.length ≤ cur.length)
    (h : ∀ w', Hid (w'.heap[g]? = some (.cells (u8s (splice cur off cs)) t (0, 0))) → Tch (fun i => i = g) w w' → wpList P ops Q rest (a.put o.dst (goInt cs.length)) w') : wpList P ops Q (o :: rest) a w :=
  wpList_cp hgd d s dT sT ho elem hu hsz g off dLen dCap sp sLen sCap hd hs cur t hg cs hn hsrc hfit (h _ (setRow_heap _ _ _ _ _ _ hg) (tch_setRow _ _ _))
theorem wpList_cpsW (hgd : o.guard = none) (d s : Operand) (dT sT : TypeId)
    (ho : o.op = .call { callee := .builtin .copy, args := #[d, s], argTypes := #[dT, sT] }) (elem : TypeId) (hu : P.underlying dT = some (.slice elem)) (hsz : (P.info? elem).map (·.size) = some 1)
    (g off dLen dCap : Nat) (str : ByteArray) (hd : a.eval d = .slice (some ⟨g, off, none⟩) dLen dCap) (hs : a.eval s = .string str)
    (cur : List Int) (t : TypeId) (hg : w.heap[g]? = some (.cells (u8s cur) t (0, 0))) (cs : List Int) (hcs : cs = (sb str).take dLen) (hfit : off + cs.length ≤ cur.length)
    (h : ∀ w', Hid (w'.heap[g]? = some (.cells (u8s (splice cur off cs)) t (0, 0))) → Tch (fun i => i = g) w w' → wpList P ops Q rest (a.put o.dst (goInt cs.length)) w') : wpList P ops Q (o :: rest) a w :=
  wpList_cps hgd d s dT sT ho elem hu hsz g off dLen dCap str hd hs cur t hg cs hcs hfit (h _ (setRow_heap _ _ _ _ _ _ hg) (tch_setRow _ _ _))
theorem wpList_stW (hgd : o.guard = none) (ty : TypeId) (x y : Operand) (ho : o.op = .store ty x y)
    (g : Nat) (cells : Array Value) (hx : a.eval x = .pointer (some ⟨g, 0, none⟩)) (hy : a.eval y = .agg cells)
    (t : TypeId) (old : Array Value) (hg : w.heap[g]? = some (.cells old t (0, 0))) (hi : (P.info? ty).map (·.size) = some cells.size)
    (hold : old.size = cells.size) (h1 : ∀ u ∈ cells.toList, u.oneCell' = true)
    (h : ∀ w', Hid (w'.heap[g]? = some (.cells cells t (0, 0))) → Tch (fun i => i = g) w w' → wpList P ops Q rest (a.put o.dst undef) w') : wpList P ops Q (o :: rest) a w :=
  wpList_st hgd ty x y ho g cells hx hy t old hg hi hold h1 (h _ (setRow_heap _ _ _ _ _ _ hg) (tch_setRow _ _ _))
end

theorem u8s_one' (xs : List Int) : ∀ u ∈ (u8s xs).toList, u.oneCell' = true := by rw [u8s_toList]; exact u8s_one xs
end Go.Proofs.YtocggojbafediaaDoor.K
