/- The reference's get, and the statement's helpers Copy, lent, returned: what they answer. -/
import Derived.Test.YtoenacghkpgnpaaDoorSame
namespace Go.Proofs.YtoenacghkpgnpaaDoor.S
open Go.RowKit Go.Proofs.YtoenacghkpgnpaaDoor.K Go.Proofs.YtoenacghkpgnpaaDoor.E Go.Proofs.YtoenacghkpgnpaaDoor.P1 Go.Proofs.YtoenacghkpgnpaaDoor.Codec Go.Proofs.YtoenacghkpgnpaaDoor.Meta

theorem rd_at (zs : List Int) (i : Nat) : Go.Proofs.YtoenacghkpgnpaaDoorW.PrintWords.rd zs (i : Int) = zs.getD i 0 := by
  unfold Go.Proofs.YtoenacghkpgnpaaDoorW.PrintWords.rd
  rw [Int.toNat_natCast]
theorem rget_one (k : Nat) (xs : List Int) (a w n i : Int) : Ref.copseref5_get.l0 (k + 1) xs a w n i = if i < w then (if 0 ≤ (wrap64 (a + i)) then (if (wrap64 (a + i)) < (xs.length : Int) then (Ref.copseref5_get.l0 k xs a w (IntKind.u64.wrap ((IntKind.u64.wrap (n * 256)) + (IntKind.u64.wrap (Go.Proofs.YtoenacghkpgnpaaDoorW.PrintWords.rd xs (wrap64 (a + i)))))) (wrap64 (i + 1))) else (none)) else (none)) else (some n) := rfl
theorem wrapN (a : Nat) (h : a < 9223372036854775808) : wrap64 (a : Int) = (a : Int) := by unfold wrap64; omega
theorem u64w (n : Int) (h0 : 0 ≤ n) (h1 : n < 18446744073709551616) : IntKind.u64.wrap n = n := by
  show n % 18446744073709551616 = n
  omega
theorem rget_l0 (xs : List Int) (hx : ∀ x, x ∈ xs → 0 ≤ x ∧ x ≤ 255) (hl : xs.length < 1000000) (a w : Nat) (haw : a + w ≤ xs.length) (hw : w ≤ 8) : ∀ (m i k : Nat), w - i = m → i ≤ w →
    Ref.copseref5_get.l0 (k + m + 1) xs (a : Int) (w : Int) (num ((xs.drop a).take i)) (i : Int) = some (num ((xs.drop a).take w)) := by
  intro m
  induction m with
  | zero =>
    intro i k hm hi
    obtain rfl : i = w := by omega
    rw [show k + 0 + 1 = k + 1 by rfl, rget_one, if_neg (by omega)]
  | succ m ih =>
    intro i k hm hi
    have hlt : i < w := by omega
    have hai : (a : Int) + (i : Int) = ((a + i : Nat) : Int) := by omega
    have hb := hx (xs.getD (a + i) 0) (by rw [List.getD_eq_getElem?_getD, List.getElem?_eq_getElem (by omega)]; exact List.getElem_mem _)
    have hn := num_range ((xs.drop a).take i) (fun x hx' => hx x (List.mem_of_mem_drop (List.mem_of_mem_take hx')))
    have hlen : ((xs.drop a).take i).length = i := by rw [List.length_take, List.length_drop]; omega
    rw [hlen] at hn
    have h7 : (256 : Int) ^ i ≤ 256 ^ 7 := pow256_le i 7 (by omega)
    have hn2 : num ((xs.drop a).take i) < 72057594037927936 := Int.lt_of_lt_of_le hn.2 h7
    have hsnoc : (xs.drop a).take (i + 1) = (xs.drop a).take i ++ [xs.getD (a + i) 0] := by
      rw [List.take_succ_eq_append_getElem (by rw [List.length_drop]; omega), List.getElem_drop, List.getD_eq_getElem?_getD, List.getElem?_eq_getElem (by omega)]; rfl
    have hstep : num ((xs.drop a).take (i + 1)) = num ((xs.drop a).take i) * 256 + xs.getD (a + i) 0 := by rw [hsnoc, num_snoc]
    have h2 := ih (i + 1) k (by omega) (by omega)
    rw [hstep] at h2
    rw [show k + (m + 1) + 1 = (k + m + 1) + 1 by omega, rget_one, if_pos (by omega), hai, wrapN (a + i) (by omega), if_pos (by omega), if_pos (by omega), rd_at,
      u64w (num ((xs.drop a).take i) * 256) (by omega) (by omega), u64w (xs.getD (a + i) 0) (by omega) (by omega), u64w _ (by omega) (by omega), show ((i : Int) + 1) = ((i + 1 : Nat) : Int) by omega, wrapN (i + 1) (by omega), h2]
theorem rget_calls (A : Option Addr) (c nI : Nat) (xs : List Int) (aI wI : Int) (a w : Nat) (ha : aI = a) (hwI : wI = w) (hnI : nI = xs.length) (W : World) (hr : RdB W A xs) (hc : nI ≤ c) (hx : ∀ x, x ∈ xs → 0 ≤ x ∧ x ≤ 255) (hl : xs.length < 1000000) (haw : a + w ≤ xs.length) (hw : w ≤ 8)
    (r : Int) (hr2 : num ((xs.drop a).take w) = r) :
    Calls Tryd.prog 65 #[.slice A nI c, .int .i64 aI, .int .i64 wI] W fun e w' => e = .returned (.int .u64 r) ∧ Below W.heap.size W w' := by
  subst ha hwI hnI hr2
  refine (Ref.copseref5_get.calls (0 + w + 1) A c xs a w _ W (hr.toC (by omega)) hc ?_).mono fun e w' ⟨he, hd⟩ => ⟨he, below_drawn hd.out⟩
  have h := rget_l0 xs hx hl a w haw hw w 0 0 (by omega) (by omega)
  exact h

theorem copy_one (k : Nat) (xs ys : List Int) (i : Int) : Ref.copsekit_Copy.l0 (k + 1) xs ys i = if i < (xs.length : Int) then (if 0 ≤ i then (if ys.length < 140737488355328 then (Ref.copsekit_Copy.l0 k xs (ys ++ [Go.Proofs.YtoenacghkpgnpaaDoorW.PrintWords.rd xs i]) (wrap64 (i + 1))) else (none)) else (none)) else (some ys) := rfl
theorem copy_l0 (xs : List Int) (hl : xs.length ≤ 140737488355328) : ∀ (m i k : Nat), xs.length - i = m → i ≤ xs.length → Ref.copsekit_Copy.l0 (k + m + 1) xs (xs.take i) (i : Int) = some xs := by
  intro m
  induction m with
  | zero =>
    intro i k hm hi
    obtain rfl : i = xs.length := by omega
    rw [show k + 0 + 1 = k + 1 by rfl, copy_one, if_neg (by omega), List.take_length]
  | succ m ih =>
    intro i k hm hi
    have hlt : i < xs.length := by omega
    have hsn : xs.take i ++ [xs.getD i 0] = xs.take (i + 1) := by
      rw [List.take_succ_eq_append_getElem hlt, List.getD_eq_getElem?_getD, List.getElem?_eq_getElem hlt]; rfl
    rw [show k + (m + 1) + 1 = (k + m + 1) + 1 by omega, copy_one, if_pos (by omega), if_pos (by omega), if_pos (by rw [List.length_take]; omega), rd_at, hsn, show ((i : Int) + 1) = ((i + 1 : Nat) : Int) by omega, wrapN (i + 1) (by omega), ih (i + 1) k (by omega) (by omega)]
theorem copy_eval (xs : List Int) (hl : xs.length ≤ 140737488355328) (k : Nat) : Ref.copsekit_Copy.f (k + xs.length + 1) xs = some xs := by
  have h := copy_l0 xs hl xs.length 0 k (by omega) (by omega)
  exact h
theorem copy_calls (A : Option Addr) (c nI : Nat) (xs : List Int) (hnI : nI = xs.length) (w : World) (hr : RdB w A xs) (hc : nI ≤ c) (hl : xs.length ≤ 140737488355328) :
    Calls Tryd.prog 37 #[.slice A nI c] w fun e w' => ∃ v, e = .returned v ∧ OwnB w' w.heap.size v xs ∧ Below w.heap.size w w' := by
  subst hnI
  exact (Ref.copsekit_Copy.calls (0 + xs.length + 1) A c xs xs w (hr.toC (by omega)) hc (copy_eval xs hl 0)).mono fun _ _ ⟨v, he, ho, hb⟩ => ⟨v, he, .of ho, hb⟩
theorem lent_calls (A : Option Addr) (c nI : Nat) (xs : List Int) (hnI : nI = xs.length) (w : World) (hr : RdB w A xs) (hc : nI ≤ c) (hl : xs.length ≤ 140737488351232) :
    Calls Tryd.prog 24 #[.slice A nI c] w fun e w' => ∃ v, e = .returned v ∧ OwnB w' w.heap.size v (xs ++ [77, 77, 77, 77]) ∧ Below w.heap.size w w' := by
  subst hnI
  refine (Ref.copselaw5_lent.calls (0 + xs.length + 1) A c xs (xs ++ [77, 77, 77, 77]) w (hr.toC (by omega)) hc ?_).mono fun _ _ ⟨v, he, ho, hb⟩ => ⟨v, he, .of ho, hb⟩
  unfold Ref.copselaw5_lent.f
  rw [copy_eval xs (by omega) 0]
  simp only [Option.bind_some]
  rw [if_pos (by simp; omega)]
theorem returned_eval (xs : List Int) (hl : xs.length ≤ 140737488351232) : Ref.copselaw5_returned.f (0 + xs.length + 5) (xs ++ [77, 77, 77, 77]) xs = some true := by
  unfold Ref.copselaw5_returned.f
  rw [if_pos (by rw [List.length_append]; unfold wrap64; simp; omega), if_pos (by omega), if_pos (by rw [List.length_append]; omega), Int.toNat_natCast, List.take_left, List.drop_left]
  have h1 := same_eval xs xs (by omega) 4
  rw [show 4 + xs.length + 1 = 0 + xs.length + 5 by omega] at h1
  have h2 := same_eval [77, 77, 77, 77] [77, 77, 77, 77] (by decide) xs.length
  rw [show xs.length + ([77, 77, 77, 77] : List Int).length + 1 = 0 + xs.length + 5 by simp] at h2
  rw [h1, h2]
  simp
theorem returned_calls (A : Option Addr) (c nI : Nat) (A1 : Option Addr) (c1 n1 : Nat) (xs : List Int) (hnI : nI = xs.length + 4) (hn1 : n1 = xs.length) (w : World) (hr : RdB w A (xs ++ [77, 77, 77, 77])) (hc : nI ≤ c) (hr1 : RdB w A1 xs) (hc1 : n1 ≤ c1) (hl : xs.length ≤ 140737488351232) :
    Calls Tryd.prog 27 #[.slice A nI c, .slice A1 n1 c1] w fun e w' => e = .returned (.bool true) ∧ Below w.heap.size w w' := by
  subst hn1
  obtain rfl : nI = (xs ++ [77, 77, 77, 77]).length := by rw [List.length_append]; exact hnI
  exact Ref.copselaw5_returned.calls (0 + xs.length + 5) A c (xs ++ [77, 77, 77, 77]) A1 c1 xs true w (hr.toC (by rw [List.length_append]; simp; omega)) hc (hr1.toC (by omega)) hc1 (returned_eval xs hl)
end Go.Proofs.YtoenacghkpgnpaaDoor.S
