/- The reference of layer 5: the bytes one behind the other. -/
import Derived.Test.YtoenacghkpgnpaaDoorOwn
import Derived.Test.YtoenacghkpgnpaaDoorMeta2
import Derived.Lib.SlBytesConst
namespace Go.Proofs.YtoenacghkpgnpaaDoor.R5
open Go.RowKit Go.Proofs.YtoenacghkpgnpaaDoor.K Go.Proofs.YtoenacghkpgnpaaDoor.E Go.Proofs.YtoenacghkpgnpaaDoor.P1 Go.Proofs.YtoenacghkpgnpaaDoor.Codec Go.Proofs.YtoenacghkpgnpaaDoor.Meta

theorem be_take_succ (n : Int) (k j : Nat) (hj : j < k) : (be n k).take (j + 1) = (be n k).take j ++ [byteAt n (k - 1 - j)] := by
  rw [List.take_succ_eq_append_getElem (by rw [be_length]; exact hj)]
  simp [be]

theorem one_reads (w : World) (x : Int) (e : TypeId) : RdB (w.alloc (.cells #[.int .u8 x] e)) (some ⟨w.heap.size, 0, none⟩) [x] :=
  RdB.of_row0 (t := e) (fr := (0, 0)) (heap_alloc_new w _)

set_option maxRecDepth 100000 in
set_option maxHeartbeats 400000 in
theorem rput_calls (v0 : Value) (xs : List Int) (n kI : Int) (k : Nat) (hkI : kI = k) (w0 w : World) (hb : Below w0.heap.size w0 w) (h : Ap w w0.heap.size v0 xs) (h1 : 1 ≤ k) (h8 : k ≤ 8) (hl : xs.length ≤ 1000000) :
    Calls Tryd.prog 77 #[v0, .int .u64 n, .int .i64 kI] w fun e w' => ∃ v, e = .returned v ∧ OwnB w' w0.heap.size v (xs ++ be n k) ∧ Below w0.heap.size w0 w' ∧ Tch (ApS w0.heap.size v0) w w' := by
  subst hkI
  have HB : Hd (Below w0.heap.size w0 w) := ⟨hb⟩
  have HP : Hd (Ap w w0.heap.size v0 xs) := ⟨h⟩
  clear hb h
  go_enter Tryd.func77, Tryd.ntmps77
  go_wp2
  go_loopw [0, 7] (fun v i wr => ∃ (j : Nat), j ≤ k ∧ i = .int .i64 ((k : Int) - 1 - j) ∧ Hd ((0 < j → OwnB wr w0.heap.size v (xs ++ (be n k).take j)) ∧ Ap wr w0.heap.size v (xs ++ (be n k).take j) ∧ Tch (ApS w0.heap.size v0) w wr ∧ (∀ i, v.ownBlock = some i → v0.ownBlock = some i ∨ w.heap.size ≤ i))) (fun _ i _ => (intOf i + 1).toNat)
  case atStart => exact ⟨0, by omega, by go_num, ⟨fun h => absurd h (by omega), by simpa using HP.out, Tch.refl _ _, fun i hi => .inl hi⟩⟩
  case round =>
    obtain ⟨j, hj, rfl, HI⟩ := hrel
    by_cases hlt : j < k
    · have hge : (0 : Int) ≤ (k : Int) - 1 - j := by omega
      have he : (8 * ((k : Int) - 1 - j)).toNat = 8 * (k - 1 - j) := by omega
      obtain ⟨x, hx⟩ : ∃ x, byteAt n (k - 1 - j) = x := ⟨_, rfl⟩
      have hsh : n / 2 ^ (8 * (k - 1 - j)) % 256 = x := by rw [← hx, byteAt_shift]
      have hxe : Hd (byteAt n (k - 1 - j) = x) := ⟨hx⟩
      clear hx
      have HZ : Hd (w0.heap.size ≤ wr.heap.size) := ⟨Nat.le_trans HB.out.size HI.out.2.2.1.size⟩
      go_wp2_with (first
        | ((with_reducible refine gD (N := 22) rfl ?_); refine wpList_ap rfl (.tmp 14) (.tmp 21) rfl w0.heap.size (xs ++ (be n k).take j) [x] u0 rfl (HI.out.2.1.alloc _) (by rw [World.size_alloc]; exact Nat.le_succ_of_le HZ.out) _ _ _ rfl rfl (by decide) (one_reads _ _ _) ?hl ?_; (case hl => rw [List.length_append, List.length_take, be_length]; omega); intro v' w' ho ht hat; have HN : Hd (_ ∧ _ ∧ _) := ⟨⟨ho.out, ht, hat⟩⟩; clear ho ht hat)
        | fail)
      go_roundw
      case rel =>
        have hxs : (xs ++ (be n k).take j) ++ [x] = xs ++ (be n k).take (j + 1) := by rw [be_take_succ n k j hlt, hxe.out, List.append_assoc]
        obtain ⟨ho, ht, hat⟩ := HN.out
        rw [hxs] at ho
        refine ⟨j + 1, by omega, by go_num, ⟨fun _ => ho, .inl ho, ?_, ?_⟩⟩
        · refine (HI.out.2.2.1.alloc _).trans ht fun i hi => ?_
          rcases HI.out.2.2.2 i hi.1 with e | e
          · exact .inl ⟨e, hi.2⟩
          · exact .inr e
        · intro i hi
          rcases hat i hi with e | e
          · exact HI.out.2.2.2 i e
          · exact .inr (Nat.le_trans HI.out.2.2.1.size (Nat.le_trans (by rw [World.size_alloc]; omega) e))
      case measure => simp [intOf]; omega
    · obtain rfl : j = k := by omega
      have e : (be n j).take j = be n j := List.take_of_length_le (by rw [be_length]; omega)
      have HF := HI.out
      rw [e] at HF
      have HF' := Hd.mk HF
      clear HF
      go_wp2
      go_ret
      refine ⟨_, rfl, HF'.out.1 (by omega), below_tch HB.out HF'.out.2.2.1 (fun i hi => hi.2), HF'.out.2.2.1⟩
def lit0 (p r t s : Int) : List Int := (((sign ++ be p 4) ++ be r 4) ++ be t 8) ++ be s 4
def lit (p r t s : Int) : List Int := lit0 p r t s ++ zs 484
theorem lit0_length (p r t s : Int) : (lit0 p r t s).length = 28 := by simp [lit0, be_length, sign]
theorem lit_length (p r t s : Int) : (lit p r t s).length = 512 := by rw [lit, List.length_append, lit0_length, zs_length]

/-- What 'written' works on: the box of its argument, the bytes so far. -/
structure RI (w : World) (p r t : Int) (W : World) (v : Value) (xs : List Int) : Prop where
  below : Below w.heap.size w W
  box : W.heap[w.heap.size]? = some (.cells #[.int .i64 p, .int .i64 r, .int .u64 t] 24 (0, 0))
  ap : Ap W w.heap.size v xs
  nb : ∀ i, v.ownBlock = some i → i ≠ w.heap.size
theorem RI.step {w : World} {p r t : Int} {W W' : World} {v v' : Value} {xs ys : List Int} (h : RI w p r t W v xs) (ho : OwnB W' w.heap.size v' ys) (hb : Below w.heap.size w W') (ht : Tch (ApS w.heap.size v) W W') : RI w p r t W' v' ys :=
  have hbox := ht.row h.box (fun e => h.nb _ e.1 rfl)
  ⟨hb, hbox, .inl ho, ho.ne hbox (by decide)⟩
theorem RI.cells {w : World} {p r t : Int} {W : World} {v : Value} {xs : List Int} (h : RI w p r t W v xs) : W.cell? ⟨w.heap.size, 0, none⟩ = some (.int .i64 p) ∧ W.cell? ⟨w.heap.size, 1, none⟩ = some (.int .i64 r) ∧ W.cell? ⟨w.heap.size, 2, none⟩ = some (.int .u64 t) :=
  ⟨(cell_of_row _ _ _ _ _ _ h.box).trans rfl, (cell_of_row _ _ _ _ _ _ h.box).trans rfl, (cell_of_row _ _ _ _ _ _ h.box).trans rfl⟩
theorem RI.start (w : World) (p r t : Int) : RI w p r t ((w.alloc (.cells #[.int .i64 p, .int .i64 r, .int .u64 t] 24)).alloc (.cells (u8s sign) 5 (8, 9))) (.slice (some ⟨w.heap.size + 1, 0, none⟩) 8 8) sign := by
  refine ⟨below_alloc (below_alloc (Below.refl _ _) _) _, ?_, .inr ⟨_, rfl, (fun h => by cases h), RdB.of_row0 (t := 5) (fr := (8, 9)) (row_alloc_at (w.alloc _) _ (w.heap.size + 1) (by simp))⟩, ?_⟩
  · rw [row_alloc_past _ _ _ (by simp), row_alloc_at _ _ _ rfl]
  · intro i hi
    have : w.heap.size + 1 = i := by simpa [Value.ownBlock] using hi
    omega
theorem zs_snoc (n : Nat) : zs n ++ [0] = zs (n + 1) := by
  simp [zs, List.replicate_succ']

set_option maxRecDepth 100000 in
set_option maxHeartbeats 400000 in
theorem rwritten_calls (p r t s : Int) (w : World) :
    Calls Tryd.prog 52 #[.agg #[.int .i64 p, .int .i64 r, .int .u64 t], .int .u32 s] w fun e w' => ∃ v, e = .returned v ∧ OwnB w' w.heap.size v (lit (IntKind.u64.wrap p) (IntKind.u64.wrap r) t (IntKind.u64.wrap s)) ∧ Below w.heap.size w w' := by
  obtain ⟨P, hP⟩ : ∃ P, IntKind.u64.wrap p = P := ⟨_, rfl⟩
  obtain ⟨R, hR⟩ : ∃ R, IntKind.u64.wrap r = R := ⟨_, rfl⟩
  obtain ⟨S, hS⟩ : ∃ S, IntKind.u64.wrap s = S := ⟨_, rfl⟩
  have kc := Lib.run_convert_bytes_const (P := Tryd.prog) (w.alloc (.cells #[.int .i64 p, .int .i64 r, .int .u64 t] 24)) 25 5 #[.int .u8 67, .int .u8 79, .int .u8 80, .int .u8 83, .int .u8 69, .int .u8 0, .int .u8 1, .int .u8 0] 8 8 Tryd.underlying25 Tryd.underlying5
  rw [World.size_alloc] at kc
  go_enter Tryd.func52, Tryd.ntmps52
  have H0 : Hd (RI w p r t _ _ sign) := ⟨RI.start w p r t⟩
  go_wp2_with (first
    | (go_at_call_of 77 (Value.int .u64 P); refine (rput_calls _ (sign) P 4 4 rfl w _ H0.out.below H0.out.ap (by decide) (by decide) ?hl1).mono ?_; (case hl1 => simp [sign]); rintro e W1 ⟨v1, rfl, ho, hb, ht⟩; have H1 : Hd (RI w p r t W1 v1 ((sign) ++ be P 4)) := ⟨H0.out.step ho hb ht⟩; clear ho hb ht; obtain ⟨hc0, hc1, hc2⟩ := H1.out.cells)
    | (go_at_call_of 77 (Value.int .u64 R); refine (rput_calls v1 (sign ++ be P 4) R 4 4 rfl w _ H1.out.below H1.out.ap (by decide) (by decide) ?hl2).mono ?_; (case hl2 => simp [be_length, sign]); rintro e W2 ⟨v2, rfl, ho, hb, ht⟩; have H2 : Hd (RI w p r t W2 v2 ((sign ++ be P 4) ++ be R 4)) := ⟨H1.out.step ho hb ht⟩; clear ho hb ht; obtain ⟨hc0, hc1, hc2⟩ := H2.out.cells)
    | (go_at_call_of 77 (Value.int .u64 t); refine (rput_calls v2 ((sign ++ be P 4) ++ be R 4) t 8 8 rfl w _ H2.out.below H2.out.ap (by decide) (by decide) ?hl3).mono ?_; (case hl3 => simp [be_length, sign]); rintro e W3 ⟨v3, rfl, ho, hb, ht⟩; have H3 : Hd (RI w p r t W3 v3 (((sign ++ be P 4) ++ be R 4) ++ be t 8)) := ⟨H2.out.step ho hb ht⟩; clear ho hb ht; obtain ⟨hc0, hc1, hc2⟩ := H3.out.cells)
    | (go_at_call_of 77 (Value.int .u64 S); refine (rput_calls v3 (((sign ++ be P 4) ++ be R 4) ++ be t 8) S 4 4 rfl w _ H3.out.below H3.out.ap (by decide) (by decide) ?hl4).mono ?_; (case hl4 => simp [be_length, sign]); rintro e W4 ⟨v4, rfl, ho, hb, ht⟩; have O4 : Hd (OwnB W4 w.heap.size v4 (((sign ++ be P 4) ++ be R 4) ++ be t 8 ++ be S 4)) := ⟨ho⟩; have H4 : Hd (RI w p r t W4 v4 ((((sign ++ be P 4) ++ be R 4) ++ be t 8) ++ be S 4)) := ⟨H3.out.step ho hb ht⟩; clear ho hb ht; obtain ⟨hc0, hc1, hc2⟩ := H4.out.cells)
    | fail)
  clear hc0 hc1 hc2 H1 H2 H3 kc
  go_loopg [5] 484 (fun g v wr => ∃ j : Nat, g + j = 484 ∧ Hd (Below w.heap.size w wr ∧ OwnB wr w.heap.size v (lit0 P R t S ++ zs j)))
  case atStart => exact ⟨0, rfl, ⟨H4.out.below, by show OwnB _ _ _ (lit0 P R t S ++ []); rw [List.append_nil]; exact O4.out⟩⟩
  case round =>
    obtain ⟨j, hj, HI⟩ := hrel
    have hlen : (lit0 P R t S ++ zs j).length = 28 + j := by rw [List.length_append, lit0_length, zs_length]
    obtain ⟨A, c, hv, hc, hr⟩ := HI.out.2.form
    rw [hlen] at hv
    subst hv
    clear hc hr
    have HL : Hd ((lit0 P R t S ++ zs j).length = 28 + j) := ⟨hlen⟩
    clear hlen
    by_cases hlt : j < 484
    · go_wp2_with (first
        | ((with_reducible refine gD (N := 31) rfl ?_); refine wpList_ap rfl (.tmp 29) (.tmp 30) rfl w.heap.size (lit0 P R t S ++ zs j) [0] _ rfl (.inl (HI.out.2.below (below_alloc (Below.refl _ _) _))) (by rw [World.size_alloc]; exact Nat.le_succ_of_le HI.out.1.size) _ _ _ rfl rfl (by decide) (one_reads _ _ _) ?hl ?_; (case hl => rw [HL.out]; omega); intro v' w' ho ht _; have HN : Hd (_ ∧ _) := ⟨⟨ho.out, ht⟩⟩; clear ho ht)
        | fail)
      go_roundg (gk - 1)
      case measure => omega
      case rel =>
        obtain ⟨ho, ht⟩ := HN.out
        rw [List.append_assoc, zs_snoc] at ho
        exact ⟨j + 1, by omega, ⟨below_tch (below_alloc HI.out.1 _) ht (fun i hi => hi.2), ho⟩⟩
    · obtain rfl : j = 484 := by omega
      have HF : Hd (OwnB wr w.heap.size (.slice A (28 + 484) c) (lit P R t S)) := ⟨HI.out.2⟩
      go_wp2
      go_ret
      exact ⟨_, rfl, by rw [hP, hR, hS]; exact HF.out, HI.out.1⟩
end Go.Proofs.YtoenacghkpgnpaaDoor.R5
