/- branch.Check: what it asks of each link (two closures), over a row of links. -/
import Derived.Test.YtocggojbafediaaDoorRef0
import Derived.Test.YtocggojbafediaaDoorExtClone
import Derived.Test.YtocggojbafediaaDoorExtPivot
namespace Go.Proofs.YtocggojbafediaaDoor.Ref
set_option linter.unusedVariables false
set_option linter.unusedSimpArgs false
open Go.RowKit Go.Proofs.YtocggojbafediaaDoorW.PrintWords Go.Proofs.YtocggojbafediaaDoorW.PrintLast Go.Proofs.YtocggojbafediaaDoorW.PrintMore

/-- A function value that takes a link and says p of it, in whatever world in which all that lay in w lies. -/
def PredB (g : Nat) (lb : Array Value) (p : S48 → Bool) (w : World) : Prop := ∀ (W : World) (x : S48), Below w.heap.size w W → Calls Tryd.prog g (#[.agg #[.string x.f0, .int .i64 x.f1]] ++ lb) W fun e w' => e = .returned (.bool (p x)) ∧ Below w.heap.size w w'
def fidx (p : S48 → Bool) : List S48 → Int → Int
  | [], _ => -1
  | x :: xs, i => if p x = true then i else fidx p xs (i + 1)
theorem fidx_any (p : S48 → Bool) : ∀ (l : List S48) (i : Int), 0 ≤ i → decide (0 ≤ fidx p l i) = l.any p
  | [], i, h => by simp [fidx]
  | x :: xs, i, h => by
    unfold fidx
    by_cases hp : p x = true
    · rw [if_pos hp, List.any_cons, hp, Bool.true_or]; exact decide_eq_true h
    · rw [if_neg hp, List.any_cons, Bool.eq_false_iff.2 hp, Bool.false_or]; exact fidx_any p xs (i + 1) (by omega)
theorem drop_cons_T48 (xs : List S48) (i : Nat) (h : i < xs.length) : xs.drop i = rd_T48 xs (i : Int) :: xs.drop (i + 1) := by
  unfold rd_T48
  rw [Int.toNat_natCast, List.drop_eq_getElem_cons h, List.getD_eq_getElem?_getD, List.getElem?_eq_getElem h]; rfl
set_option maxHeartbeats 2000000 in
set_option maxRecDepth 100000 in
theorem IndexFunc_calls (A : Option Addr) (c : Nat) (l : List S48) (g : Nat) (lb : Array Value) (p : S48 → Bool) (eg : ∀ args w, (callFunc g args).run Tryd.prog w = .ok (.enter g args) w) (w : World) (hr : Kd.C k48 w A l.length l) (hp : PredB g lb p w) (hn : l.length ≤ 20000000000000) :
    Calls Tryd.prog 104 #[.slice A l.length c, .func (.func g) #[] lb] w fun e w' => e = .returned (.int .i64 (fidx p l 0)) ∧ Below w.heap.size w w' := by
  obtain ⟨r, hr'⟩ : ∃ r, fidx p l 0 = r := ⟨_, rfl⟩
  have HS0 := Aside0.mk hr'
  rw [hr']
  have HR := Aside0.mk hr
  have HP := Aside0.mk hp
  have HN := Aside0.mk hn
  have HB0 := Aside0.mk (Below.refl w.heap.size w)
  clear hr hp hn hr'
  go_enter Tryd.func104, Tryd.ntmps104
  go_wp2
  go_loopg [5, 8] l.length (fun gg _ s8 wr => ∃ kk : Nat, s8 = .int .i64 (kk : Int) ∧ Aside0 (kk ≤ l.length ∧ l.length - kk ≤ gg) ∧ Aside0 (Below w.heap.size w wr) ∧ Aside0 (fidx p (l.drop kk) (kk : Int) = r))
  case atStart => exact ⟨0, rfl, ⟨by omega⟩, HB0, ⟨HS0.out⟩⟩
  case round =>
    obtain ⟨kk, rfl, HK, HB, HS⟩ := hrel
    by_cases hlt : kk < l.length
    · have hi0 : (0 : Int) ≤ (kk : Int) := by omega
      have hi1 : (kk : Int) < (l.length : Int) := by omega
      have hlt' : decide ((kk : Int) < (l.length : Int)) = true := decide_eq_true hi1
      have hlt2 : decide (kk < l.length) = true := decide_eq_true hlt
      obtain ⟨ad, rfl, hx0, hx1⟩ := at_T48 HR.out (kk : Int) hi0 hi1
      replace hx0 := (HB.out.cell (World.block_lt_of_cell? w _ hx0)).trans hx0
      replace hx1 := (HB.out.cell (World.block_lt_of_cell? w _ hx1)).trans hx1
      have hd := drop_cons_T48 l kk hlt
      obtain ⟨x, hx⟩ : ∃ x, rd_T48 l (kk : Int) = x := ⟨_, rfl⟩
      rw [hx] at hx0 hx1 hd
      clear hx
      have HS2 := Aside0.mk (show (if p x = true then (kk : Int) else fidx p (l.drop (kk + 1)) ((kk : Int) + 1)) = r from by
        have h := HS.out
        rw [hd] at h
        exact h)
      have HC := Aside0.mk (HP.out _ x HB.out)
      have hkb : kk ≤ 20000000000000 := by have h1 := HN.out; omega
      have HLT := Aside0.mk hlt
      clear hd hlt HS HS0
      obtain ⟨x0, x1⟩ := x
      simp only [Int.toNat_natCast] at hx0 hx1
      cases hq : p ⟨x0, x1⟩ with
      | true =>
        go_wp2_with fail
        refine HC.out.mono ?_
        rintro e w' ⟨rfl, hd⟩
        rw [hq]
        have HD := Aside0.mk hd
        clear hd
        go_wp2
        go_ret
        have h := HS2.out
        rw [if_pos hq] at h
        exact ⟨by subst h; rfl, HD.out⟩
      | false =>
        go_wp2_with fail
        refine HC.out.mono ?_
        rintro e w' ⟨rfl, hd⟩
        rw [hq]
        have HD := Aside0.mk hd
        clear hd
        go_wp2
        go_roundg (l.length - (kk + 1))
        case measure => have h1 := HK.out; have h2 := HLT.out; omega
        case rel =>
          refine ⟨kk + 1, by go_num, ⟨by have h2 := HLT.out; omega⟩, HD, ⟨?_⟩⟩
          have h := HS2.out
          rw [if_neg (by rw [hq]; exact Bool.false_ne_true)] at h
          rw [← h]
          congr 1
    · have hlt' : decide ((kk : Int) < (l.length : Int)) = false := decide_eq_false (by omega)
      have hlt2 : decide (kk < l.length) = false := decide_eq_false hlt
      have HE := Aside0.mk (show r = -1 from by
        have h := HS.out
        rw [List.drop_of_length_le (by omega)] at h
        exact h.symm)
      clear hlt
      go_wp2
      go_ret
      exact ⟨by have h := HE.out; subst h; rfl, HB.out⟩
set_option maxHeartbeats 1000000 in
theorem ContainsFunc_calls (A : Option Addr) (c : Nat) (l : List S48) (g : Nat) (lb : Array Value) (p : S48 → Bool) (eg : ∀ args w, (callFunc g args).run Tryd.prog w = .ok (.enter g args) w) (w : World) (hr : Kd.C k48 w A l.length l) (hp : PredB g lb p w) (hn : l.length ≤ 20000000000000) :
    Calls Tryd.prog 70 #[.slice A l.length c, .func (.func g) #[] lb] w fun e w' => e = .returned (.bool (l.any p)) ∧ Below w.heap.size w w' := by
  have hcon := IndexFunc_calls A c l g lb p eg w hr hp hn
  have hany := fidx_any p l 0 (Int.le_refl 0)
  obtain ⟨r, hr'⟩ : ∃ r, fidx p l 0 = r := ⟨_, rfl⟩
  rw [hr'] at hcon hany
  have HA := Aside0.mk hany
  clear hr' hany hr hp eg
  go_enter Tryd.func70, Tryd.ntmps70
  go_wp2_with (go_at_call 104; refine hcon.mono ?_; rintro e w' ⟨rfl, hb'⟩)
  go_ret
  exact ⟨by rw [← HA.out]; rfl, hb'⟩

def mayB (n : Int) : Bool := decide (2 ≤ n) && decide (n < 1048576)
def goodB (x : S48) : Bool := decide ((1 : Int) ≤ (x.f0.size : Int)) && decide ((x.f0.size : Int) ≤ 255) && mayB x.f1

theorem childMay_calls (n : Int) (w : World) : Calls Tryd.prog 69 #[.int .i64 n] w fun e w' => e = .returned (.bool (mayB n)) ∧ w = w' := by
  unfold mayB
  by_cases h1 : 2 ≤ n
  · by_cases h2 : n < 1048576
    · rw [decide_eq_true h1, decide_eq_true h2]
      go_enter Tryd.func69, Tryd.ntmps69
      go_wp2
      go_ret
      exact ⟨rfl, rfl⟩
    · rw [decide_eq_true h1, decide_eq_false h2]
      go_enter Tryd.func69, Tryd.ntmps69
      go_wp2
      go_ret
      exact ⟨rfl, rfl⟩
  · rw [decide_eq_false h1, Bool.false_and]
    go_enter Tryd.func69, Tryd.ntmps69
    go_wp2
    go_ret
    exact ⟨rfl, rfl⟩
set_option maxHeartbeats 1000000 in
theorem good_calls (x0 : ByteArray) (x1 : Int) (r : Bool) (w : World) (hr : goodB ⟨x0, x1⟩ = r) : Calls Tryd.prog 68 #[.agg #[.string x0, .int .i64 x1]] w fun e w' => e = .returned (.bool r) ∧ Below w.heap.size w w' := by
  unfold goodB at hr
  simp only at hr
  obtain ⟨n, hn⟩ : ∃ n : Nat, x0.size = n := ⟨_, rfl⟩
  rw [hn] at hr
  have hM := fun W => childMay_calls x1 W
  obtain ⟨m, hm⟩ : ∃ m, mayB x1 = m := ⟨_, rfl⟩
  rw [hm] at hr hM
  clear hm
  by_cases h1 : (1 : Int) ≤ (n : Int)
  · by_cases h2 : (n : Int) ≤ 255
    · rw [decide_eq_true h1, decide_eq_true h2, Bool.true_and, Bool.true_and] at hr
      subst hr
      go_enter Tryd.func68, Tryd.ntmps68
      go_wp2_with (go_at_call 69; refine (hM _).mono ?_; rintro e w' ⟨rfl, rfl⟩)
      go_ret
      exact ⟨rfl, below_alloc (Below.refl _ _) _⟩
    · rw [decide_eq_true h1, decide_eq_false h2, Bool.and_false, Bool.false_and] at hr
      subst hr
      go_enter Tryd.func68, Tryd.ntmps68
      go_wp2
      go_ret
      exact ⟨rfl, below_alloc (Below.refl _ _) _⟩
  · rw [decide_eq_false h1, Bool.false_and, Bool.false_and] at hr
    subst hr
    go_enter Tryd.func68, Tryd.ntmps68
    go_wp2
    go_ret
    exact ⟨rfl, below_alloc (Below.refl _ _) _⟩
theorem bad_pred (B : Nat) (w : World) (hB : B < w.heap.size) (hcell : w.cell? ⟨B, 0, none⟩ = some (.func (.func 68) #[] #[])) :
    PredB 71 #[.pointer (some ⟨B, 0, none⟩)] (fun x => !goodB x) w := fun W x hb => by
  have hc : W.cell? ⟨B, 0, none⟩ = some (.func (.func 68) #[] #[]) := (hb.cell (p := ⟨B, 0, none⟩) hB).trans hcell
  have hBW : B < W.heap.size := Nat.lt_of_lt_of_le hB hb.size
  have hne : B ≠ W.heap.size := by omega
  obtain ⟨x0, x1⟩ := x
  show Calls Tryd.prog 71 #[.agg #[.string x0, .int .i64 x1], .pointer (some ⟨B, 0, none⟩)] W fun e w' => e = .returned (.bool (!goodB ⟨x0, x1⟩)) ∧ Below w.heap.size w w'
  have hG := fun W' => good_calls x0 x1 _ W' rfl
  obtain ⟨r, hr⟩ : ∃ r, goodB ⟨x0, x1⟩ = r := ⟨_, rfl⟩
  rw [hr] at hG ⊢
  have HB := Aside0.mk hb
  clear hb hr hcell
  go_enter Tryd.func71, Tryd.ntmps71
  go_wp2_with fail
  refine (hG _).mono ?_
  rintro e w' ⟨rfl, hd⟩
  have HD := Aside0.mk hd
  clear hd
  go_wp2
  go_ret
  exact ⟨by cases r <;> rfl, (below_alloc HB.out _).trans (HD.out.mono (by have := HB.out.size; simp; omega))⟩
end Go.Proofs.YtocggojbafediaaDoor.Ref
