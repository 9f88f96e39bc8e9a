/- sheet.Read: what it answers, for every bytes and every number. -/
import Derived.Test.YtoenacghkpgnpaaDoorSeal
import Derived.Test.YtoenacghkpgnpaaDoorErrV
import Derived.Laws.BytesArg
import Derived.Lib.SmallJoins
import Derived.RegionTactic
import Derived.WideShapes
import Derived.ChangeAlike
namespace Go.Proofs.YtoenacghkpgnpaaDoor.Sh
open Go.RowKit Go.Proofs.YtoenacghkpgnpaaDoor.K Go.Proofs.YtoenacghkpgnpaaDoor.E Go.Proofs.YtoenacghkpgnpaaDoor.P1 Go.Proofs.YtoenacghkpgnpaaDoor.Codec Go.Proofs.YtoenacghkpgnpaaDoor.D

theorem addr_add_add (a : Addr) (i j : Nat) : (a.add i).add j = a.add (i + j) := by
  obtain ⟨g, o, p⟩ := a
  unfold Addr.add
  by_cases hi : i = 0 <;> by_cases hj : j = 0 <;> simp [hi, hj]; omega
/-- A piece of what can be read. -/
theorem rdB_sub {w : World} {ad : Addr} {xs : List Int} (h : RdB w (some ad) xs) (o k : Nat) : RdB w (some (ad.add o)) ((xs.drop o).take k) := fun hp => by
  have hl : o < xs.length := by
    rw [List.length_take, List.length_drop] at hp; omega
  obtain ⟨ad', e, hc⟩ := h (by omega)
  obtain rfl := Option.some.inj e
  refine ⟨_, rfl, fun j hj => ?_⟩
  rw [List.length_take, List.length_drop] at hj
  rw [addr_add_add, hc (o + j) (by omega), List.getD_eq_getElem?_getD, List.getD_eq_getElem?_getD, List.getElem?_take, if_pos (by omega), List.getElem?_drop]
theorem rdB_sub0 {w : World} {ad : Addr} {xs : List Int} (h : RdB w (some ad) xs) (k : Nat) : RdB w (some ad) (xs.take k) := by
  have h1 := rdB_sub h 0 k
  rwa [show ad.add 0 = ad by unfold Addr.add; simp] at h1
theorem rdB_drop {w : World} {ad : Addr} {xs : List Int} (h : RdB w (some ad) xs) (o : Nat) : RdB w (some (ad.add o)) (xs.drop o) := by
  have h1 := rdB_sub h o (xs.drop o).length
  rwa [List.take_length] at h1
/-- Bytes as a text. -/
theorem conv_bs {w : World} {A : Option Addr} {xs : List Int} (h : RdB w A xs) (n c : Nat) (hn : n = xs.length) : (convert 25 9 (.slice A n c)).run Tryd.prog w = .ok (.string (strOfNums xs)) w := by
  subst hn
  by_cases h0 : 0 < xs.length
  · obtain ⟨ad, rfl, hc⟩ := h h0
    have hl : (loadCells ad xs.length).run Tryd.prog w = .ok (xs.map (Value.int .u8)).toArray w := by
      have := run_loadCells_list (P := Tryd.prog) w ad (xs.map (Value.int .u8)) (fun j v hj => by
        obtain ⟨hjl, rfl⟩ := u8_at hj
        exact hc j hjl)
      simpa using this
    rw [run_convert_bytes_string w 25 9 5 _ _ c Tryd.underlying25 Tryd.underlying5 Tryd.underlying9, run_bytesToString w _ _ c xs hl, foldl_push_bytes]
    simp [strOfNums, ByteArray.empty, ByteArray.emptyWithCapacity]
    rfl
  · obtain rfl : xs = [] := List.eq_nil_of_length_eq_zero (by omega)
    rcases A with _ | ad
    · rw [run_convert_bytes_string w 25 9 5 _ _ c Tryd.underlying25 Tryd.underlying5 Tryd.underlying9]
      simp [Conv.bytesToString, strOfNums, ByteArray.empty, ByteArray.emptyWithCapacity]
      rfl
    · have hl : (loadCells ad ([] : List Int).length).run Tryd.prog w = .ok (([] : List Int).map (Value.int .u8)).toArray w := by
        have := run_loadCells_list (P := Tryd.prog) w ad (([] : List Int).map (Value.int .u8)) (fun j v hj => by simp at hj)
        simpa using this
      rw [run_convert_bytes_string w 25 9 5 _ _ c Tryd.underlying25 Tryd.underlying5 Tryd.underlying9, run_bytesToString w _ _ c [] hl, foldl_push_bytes]
      simp [strOfNums, ByteArray.empty, ByteArray.emptyWithCapacity]
      rfl
theorem sb_str (xs : List Int) (hx : ∀ x, x ∈ xs → 0 ≤ x ∧ x ≤ 255) : sb (strOfNums xs) = xs := by
  unfold sb
  rw [strOfNums_data, List.map_map]
  refine (List.map_congr_left (g := id) fun x hm => ?_).trans (List.map_id xs)
  have := hx x hm
  obtain ⟨n, rfl⟩ := Int.eq_ofNat_of_zero_le this.1
  simp
  omega
theorem str_sb (s : ByteArray) : strOfNums (sb s) = s := by
  obtain ⟨⟨l⟩⟩ := s
  unfold strOfNums sb
  simp
  refine (List.map_congr_left (g := id) fun x _ => ?_).trans (List.map_id l)
  simp
theorem str_inj (xs ys : List Int) (hx : ∀ x, x ∈ xs → 0 ≤ x ∧ x ≤ 255) (hy : ∀ x, x ∈ ys → 0 ≤ x ∧ x ≤ 255) : strOfNums xs = strOfNums ys ↔ xs = ys :=
  ⟨fun h => by rw [← sb_str xs hx, ← sb_str ys hy, h], fun h => by rw [h]⟩

theorem str_ne {a b : ByteArray} (h : ¬ a = b) : (a.toList == b.toList) = false := by
  rw [beq_eq_false_iff_ne]
  intro e
  rw [ByteArray.toList_eq, ByteArray.toList_eq] at e
  exact h (Go.WideShapes.bytes_inj e)
/-! ### What stands in a page -/
abbrev gK (xs : List Int) : Int := num (xs.take 1)
abbrev gC (xs : List Int) : Int := num ((xs.drop 2).take 2)
abbrev gI (xs : List Int) : Int := num ((xs.drop 4).take 4)
abbrev gX (xs : List Int) : Int := num ((xs.drop 8).take 8)
abbrev gB (xs : List Int) : ByteArray := strOfNums (xs.drop 24)

def zSheet : Array Value := #[.int .i64 0, .int .i64 0, .int .u64 0, .int .i64 0, .string ⟨#[]⟩]
/-- The blocks that Read works in. -/
structure RS (w : World) (s : Nat) (cur : Array Value) (W : World) : Prop where
  below : Below w.heap.size w W
  res : W.heap[w.heap.size]? = some (.cells zSheet 37 (0, 0))
  row : W.heap[s]? = some (.cells cur 37 (0, 0))
  hs : w.heap.size < s
theorem RS.on {w : World} {s : Nat} {cur : Array Value} {W W' : World} (h : RS w s cur W) (hb : Below W.heap.size W W') : RS w s cur W' :=
  ⟨below_step h.below hb, below_row hb h.res, below_row hb h.row, h.hs⟩
theorem RS.set {w : World} {s : Nat} {cur : Array Value} {W : World} (h : RS w s cur W) (off : Nat) (v : Value) : RS w s (cur.setIfInBounds off v) (W.setCell ⟨s, off, none⟩ v) :=
  ⟨below_set h.below (Nat.le_of_lt h.hs) v, (Below.heap_setCell W ⟨s, off, none⟩ v w.heap.size (by have := h.hs; simp; omega)).trans h.res, Joins.block_setCell h.row v, h.hs⟩
theorem RS.cell {w : World} {s : Nat} {cur : Array Value} {W : World} (h : RS w s cur W) (i : Nat) (v : Value) (hv : cur[i]? = some v) : W.cell? ⟨s, i, none⟩ = some v := (cell_of_row _ _ _ _ _ _ h.row).trans hv

/-- What has been read so far. -/
def sK (kd ct id tx : Int) : Nat → Array Value
  | 0 => #[.int .i64 0, .int .i64 0, .int .u64 0, .int .i64 0, .string ⟨#[]⟩]
  | 1 => #[.int .i64 kd, .int .i64 0, .int .u64 0, .int .i64 0, .string ⟨#[]⟩]
  | 2 => #[.int .i64 kd, .int .i64 0, .int .u64 0, .int .i64 ct, .string ⟨#[]⟩]
  | 3 => #[.int .i64 kd, .int .i64 id, .int .u64 0, .int .i64 ct, .string ⟨#[]⟩]
  | _ => #[.int .i64 kd, .int .i64 id, .int .u64 tx, .int .i64 ct, .string ⟨#[]⟩]

-- THE WALKS
theorem sheetSize : (Tryd.prog.info? 37).map (·.size) = some 5 := by kernel_rfl
theorem results_sheet {fn : Func} {p u : Tmp} (h : fn.results = #[.cell p 37, .tmp u]) (tmps : Array Value) (w : World) (g : Nat) (C : Array Value) (y : Value)
    (hp : tmps.getD p undef = .pointer (some ⟨g, 0, none⟩)) (hy : tmps.getD u undef = y) (hg : w.heap[g]? = some (.cells C 37 (0, 0))) (hC : C.size = 5) :
    (results fn tmps).run Tryd.prog w = .ok (.tuple #[.agg C, y]) w := by
  have hs : (Tryd.prog.info? 37).map (·.size) = some C.size := by rw [hC]; exact sheetSize
  rw [results_cell_tmp h, hp, hy]
  simp only [asAddr, Sem.run_pure, Result.andThen_ok, run_loadVar_row w g 37 37 C (0, 0) _ hg Tryd.underlying37 rfl hs]
theorem sheetRow {w : World} {g : Nat} {c0 c1 c2 c3 c4 : Value} (h : w.heap[g]? = some (.cells #[c0, c1, c2, c3, c4] 37 (0, 0))) (a b c d e : Value) :
    (((((w.setCell ⟨g, 0, none⟩ a).setCell ⟨g, 1, none⟩ b).setCell ⟨g, 2, none⟩ c).setCell ⟨g, 3, none⟩ d).setCell ⟨g, 4, none⟩ e).heap[g]? = some (.cells #[a, b, c, d, e] 37 (0, 0)) :=
  Joins.block_setCell (Joins.block_setCell (Joins.block_setCell (Joins.block_setCell (Joins.block_setCell h a) b) c) d) e
theorem below_sheet {w W : World} (h : Below w.heap.size w W) {g : Nat} (hg : w.heap.size ≤ g) (a b c d e : Value) : Below w.heap.size w (((((W.setCell ⟨g, 0, none⟩ a).setCell ⟨g, 1, none⟩ b).setCell ⟨g, 2, none⟩ c).setCell ⟨g, 3, none⟩ d).setCell ⟨g, 4, none⟩ e) :=
  below_set (below_set (below_set (below_set (below_set h hg _) hg _) hg _) hg _) hg _

set_option maxRecDepth 100000 in
set_option maxHeartbeats 1000000 in
theorem read_len (A : Option Addr) (n c : Nat) (id : Int) (w : World) (v : Value) (hE : w.cell? ⟨1, 0, none⟩ = some v) (hn : n ≠ 4096) :
    Calls Tryd.prog 29 #[.slice A n c, .int .i64 id] w fun e w' => e = .returned (.tuple #[.agg zSheet, v]) ∧ Below w.heap.size w w' := by
  have hb : ((n : Int) != 4096) = true := by simp; omega
  have hlt : 1 < w.heap.size := World.block_lt_of_cell? w _ hE
  have hne : 1 ≠ w.heap.size := Nat.ne_of_lt hlt
  go_enter Tryd.func29, Tryd.ntmps29
  go_upto_region 2 with (fail)
  go_region
  go_wp2
  refine bodyPost_ret (v := .tuple #[.agg zSheet, v]) (results_sheet rfl _ _ w.heap.size _ _ rfl rfl (row_alloc_at _ _ _ rfl) rfl) rfl ⟨rfl, ?_⟩
  exact (below_alloc (Below.refl _ _) _).drew

set_option maxRecDepth 100000 in
set_option maxHeartbeats 2000000 in
theorem read_full {E : Nat → Addr} (ad : Addr) (c : Nat) (xs : List Int) (id : Int) (w : World) (hE : Errs errG E w) (hs : TabOk w) (hh : HeadOk w) (hr : RdB w (some ad) xs) (hc : 4096 ≤ c) (hx : xs.length = 4096) (hxr : ∀ x, x ∈ xs → 0 ≤ x ∧ x ≤ 255)
    (kd ct id' tx : Int) (bd : ByteArray) (hkd : gK xs = kd) (hct : gC xs = ct) (hid : gI xs = id') (htx : gX xs = tx) (hbd : gB xs = bd) (R : Array Value) (nE : Int)
    (hR : (if MayS kd ct id' bd.size ∧ id' = id ∧ pg kd ct id' tx (sb bd) = xs then (#[.int .i64 kd, .int .i64 id', .int .u64 tx, .int .i64 ct, .string bd], (0 : Int)) else (zSheet, 2)) = (R, nE)) :
    Calls Tryd.prog 29 #[.slice (some ad) 4096 c, .int .i64 id] w fun e w' => e = .returned (.tuple #[.agg R, errV E nE]) ∧ Below w.heap.size w w' := by
  have HE : Hd (Errs errG E w ∧ (TabOk w ∧ HeadOk w)) := ⟨hE, hs, hh⟩
  have HX : Hd (xs.length = 4096 ∧ (∀ x, x ∈ xs → 0 ≤ x ∧ x ≤ 255) ∧ RdB w (some ad) xs) := ⟨hx, hxr, hr⟩
  have HV : Hd ((gK xs = kd ∧ gC xs = ct ∧ gI xs = id' ∧ gX xs = tx) ∧ gB xs = bd) := ⟨⟨hkd, hct, hid, htx⟩, hbd⟩
  have HR : Hd ((if MayS kd ct id' bd.size ∧ id' = id ∧ pg kd ct id' tx (sb bd) = xs then (#[.int .i64 kd, .int .i64 id', .int .u64 tx, .int .i64 ct, .string bd], (0 : Int)) else (zSheet, 2)) = (R, nE)) := ⟨hR⟩
  have hsub : ∀ o k : Nat, o + k ≤ 4096 → ((xs.drop o).take k).length = k := fun o k h => by rw [List.length_take, List.length_drop, hx]; omega
  have HN : Hd (∀ o k : Nat, o + k ≤ 4096 → 0 ≤ num ((xs.drop o).take k) ∧ num ((xs.drop o).take k) < 256 ^ k) := ⟨fun o k h => by
    have := num_range ((xs.drop o).take k) (fun x hx' => hxr x (List.mem_of_mem_drop (List.mem_of_mem_take hx')))
    rwa [hsub o k h] at this⟩
  have HL : Hd (∀ o k : Nat, o + k ≤ 4096 → ((xs.drop o).take k).length = k) := ⟨hsub⟩
  have n0 : ∀ wx, (Instr.index 109 (.agg numsV) (.int .i64 0)).run Tryd.prog wx = .ok (.agg #[.func (.func 79) #[] #[], .func (.func 80) #[] #[]]) wx := fun _ => by kernel_rfl
  have n1 : ∀ wx, (Instr.index 109 (.agg numsV) (.int .i64 1)).run Tryd.prog wx = .ok (.agg #[.func (.func 81) #[] #[], .func (.func 82) #[] #[]]) wx := fun _ => by kernel_rfl
  have n2 : ∀ wx, (Instr.index 109 (.agg numsV) (.int .i64 2)).run Tryd.prog wx = .ok (.agg #[.func (.func 83) #[] #[], .func (.func 84) #[] #[]]) wx := fun _ => by kernel_rfl
  have n3 : ∀ wx, (Instr.index 109 (.agg numsV) (.int .i64 3)).run Tryd.prog wx = .ok (.agg #[.func (.func 85) #[] #[], .func (.func 86) #[] #[]]) wx := fun _ => by kernel_rfl
  have HX2 : Hd (0 ≤ tx ∧ tx < 18446744073709551616) := ⟨by rw [← htx]; exact HN.out 8 8 (by decide)⟩
  clear hE hs hh hr hx hxr hkd hct hid htx hbd hR hsub
  go_enter Tryd.func29, Tryd.ntmps29
  go_wp2_with (first
    | (go_at_call 58; refine (numbers_calls _).mono ?_; rintro e W2 ⟨rfl, hb⟩; have H2 : Hd (RS w (w.heap.size + 1) (sK kd ct id' tx 0) W2) := ⟨below_step (below_alloc (below_alloc (Below.refl _ _) _) _) hb, below_row hb (by rw [row_alloc_past _ _ _ (by simp), row_alloc_at _ _ _ rfl]; rfl), below_row hb (row_alloc_at _ _ _ (by simp)), Nat.lt_succ_self _⟩; clear hb)
    | fail)
  obtain ⟨s, hs⟩ : ∃ s, w.heap.size + 1 = s := ⟨_, rfl⟩
  rw [hs] at H2 ⊢
  clear hs
  go_loopw [19] (fun q wr => ∃ k : Nat, k ≤ 4 ∧ q = .int .i64 k ∧ Hd (RS w s (sK kd ct id' tx k) wr)) (fun q _ => 4 - (intOf q).toNat)
  case atStart => exact ⟨0, by omega, rfl, H2⟩
  case round =>
    obtain ⟨k, hk, rfl, HI⟩ := hrel
    have hk' : k = 0 ∨ k = 1 ∨ k = 2 ∨ k = 3 ∨ k = 4 := by omega
    rcases hk' with rfl | rfl | rfl | rfl | rfl
    · have hw8 : w.heap.size ≤ wr.heap.size := HI.out.below.size
      go_wp2_with (first
        | ((with_reducible refine gS (t := 108) (x := .tmp 8) (y := .tmp 22) rfl ?_); refine wpList_stW rfl 108 (.tmp 8) (.tmp 22) rfl wr.heap.size _ rfl rfl 108 _ (row_alloc_at _ _ _ rfl) numSize rfl (by decide) ?_; intro W3 hr3 ht3; have H3 : Hd (RS w s (sK kd ct id' tx 0) W3 ∧ W3.heap[wr.heap.size]? = some (.cells #[.func (.func 79) #[] #[], .func (.func 80) #[] #[]] 108 (0, 0))) := ⟨HI.out.on (below_tch (below_alloc (Below.refl _ _) _) ht3 (fun i hi => by omega)), hr3.out⟩; clear hr3 ht3)
        | fail)
      obtain ⟨hp, hq⟩ := (HE.out.2.2.below H3.out.1.below).two 0 (by decide) 0 1 rfl rfl
      have hnc := (cell_of_row _ _ 1 _ _ _ H3.out.2).trans (show _ = some (Value.func (.func 80) #[] #[]) from rfl)
      have hci : (1 : Int) ≤ (c : Int) := by omega
      have hcn : ¬ c = 0 := by omega
      have hww : IntKind.i64.wrap 1 = 1 := by decide
      go_quiet ((go_at_call 66; exact Calls.quiet_of_same ((get_calls _ _ (xs.take 1) 1 (HL.out 0 1 (by decide)).symm _ (rdB_sub0 (HX.out.2.2.below H3.out.1.below) 1 |>.drewN _) (fun x hx' => HX.out.2.1 x (List.mem_of_mem_take hx')) (by have h : (xs.take 1).length = 1 := HL.out 0 1 (by decide); omega) (by have h : (xs.take 1).length = 1 := HL.out 0 1 (by decide); omega)).mono fun _ _ h => ⟨h.1, h.2.symm⟩)))
      rw [show num (xs.take 1) = kd from HV.out.1.1]
      have H4 : Hd (RS w s (sK kd ct id' tx 0) (W3.drewN nq) ∧ (W3.drewN nq).cell? ⟨wr.heap.size, 1, none⟩ = some (Value.func (.func 80) #[] #[])) := ⟨H3.out.1.on (below_drewN (Below.refl _ _) nq), hnc⟩
      obtain ⟨W4, hW4⟩ : ∃ W4, W3.drewN nq = W4 := ⟨_, rfl⟩
      rw [hW4] at H4 ⊢
      clear hW4 hnc hp hq
      have hnc := H4.out.2
      have hsc := H4.out.1.cell 0 (.int .i64 0) rfl
      have hsf := Joins.unfrozen_of_block H4.out.1.row
      go_wp2_with (first
        | (go_at_call 80; refine (set_kind s kd (.int .i64 0) _ hsc (hsf _) (by have := HN.out 0 1 (by decide); have e := HV.out.1.1; rw [← e]; exact this.1) (by have := HN.out 0 1 (by decide); have e := HV.out.1.1; rw [← e]; exact Int.le_of_lt (Int.lt_of_lt_of_le this.2 (by decide)))).mono ?_; rintro e W5 ⟨rfl, hw5⟩; have H5 : Hd (RS w s (sK kd ct id' tx (0 + 1)) W5) := ⟨by rw [← hw5]; exact H4.out.1.set 0 _⟩; clear hw5)
        | fail)
      go_roundw
      case rel => exact ⟨0 + 1, by omega, by go_num, H5⟩
      case measure => simp [intOf]
    · have hw8 : w.heap.size ≤ wr.heap.size := HI.out.below.size
      go_wp2_with (first
        | ((with_reducible refine gS (t := 108) (x := .tmp 8) (y := .tmp 22) rfl ?_); refine wpList_stW rfl 108 (.tmp 8) (.tmp 22) rfl wr.heap.size _ rfl rfl 108 _ (row_alloc_at _ _ _ rfl) numSize rfl (by decide) ?_; intro W3 hr3 ht3; have H3 : Hd (RS w s (sK kd ct id' tx 1) W3 ∧ W3.heap[wr.heap.size]? = some (.cells #[.func (.func 81) #[] #[], .func (.func 82) #[] #[]] 108 (0, 0))) := ⟨HI.out.on (below_tch (below_alloc (Below.refl _ _) _) ht3 (fun i hi => by omega)), hr3.out⟩; clear hr3 ht3)
        | fail)
      obtain ⟨hp, hq⟩ := (HE.out.2.2.below H3.out.1.below).two 1 (by decide) 2 2 rfl rfl
      have hnc := (cell_of_row _ _ 1 _ _ _ H3.out.2).trans (show _ = some (Value.func (.func 82) #[] #[]) from rfl)
      have hci : (4 : Int) ≤ (c : Int) := by omega
      have hcn : ¬ c = 2 := by omega
      have hww : IntKind.i64.wrap 4 = 4 := by decide
      go_quiet ((go_at_call 66; exact Calls.quiet_of_same ((get_calls _ _ ((xs.drop 2).take 2) 2 (HL.out 2 2 (by decide)).symm _ (rdB_sub (HX.out.2.2.below H3.out.1.below) 2 2 |>.drewN _) (fun x hx' => HX.out.2.1 x (List.mem_of_mem_drop (List.mem_of_mem_take hx'))) (by have h : ((xs.drop 2).take 2).length = 2 := HL.out 2 2 (by decide); omega) (by have h : ((xs.drop 2).take 2).length = 2 := HL.out 2 2 (by decide); omega)).mono fun _ _ h => ⟨h.1, h.2.symm⟩)))
      rw [show num ((xs.drop 2).take 2) = ct from HV.out.1.2.1]
      have H4 : Hd (RS w s (sK kd ct id' tx 1) (W3.drewN nq) ∧ (W3.drewN nq).cell? ⟨wr.heap.size, 1, none⟩ = some (Value.func (.func 82) #[] #[])) := ⟨H3.out.1.on (below_drewN (Below.refl _ _) nq), hnc⟩
      obtain ⟨W4, hW4⟩ : ∃ W4, W3.drewN nq = W4 := ⟨_, rfl⟩
      rw [hW4] at H4 ⊢
      clear hW4 hnc hp hq
      have hnc := H4.out.2
      have hsc := H4.out.1.cell 3 (.int .i64 0) rfl
      have hsf := Joins.unfrozen_of_block H4.out.1.row
      go_wp2_with (first
        | (go_at_call 82; refine (set_count s ct (.int .i64 0) _ hsc (hsf _) (by have := HN.out 2 2 (by decide); have e := HV.out.1.2.1; rw [← e]; exact this.1) (by have := HN.out 2 2 (by decide); have e := HV.out.1.2.1; rw [← e]; exact Int.le_of_lt (Int.lt_of_lt_of_le this.2 (by decide)))).mono ?_; rintro e W5 ⟨rfl, hw5⟩; have H5 : Hd (RS w s (sK kd ct id' tx (1 + 1)) W5) := ⟨by rw [← hw5]; exact H4.out.1.set 3 _⟩; clear hw5)
        | fail)
      go_roundw
      case rel => exact ⟨1 + 1, by omega, by go_num, H5⟩
      case measure => simp [intOf]
    · have hw8 : w.heap.size ≤ wr.heap.size := HI.out.below.size
      go_wp2_with (first
        | ((with_reducible refine gS (t := 108) (x := .tmp 8) (y := .tmp 22) rfl ?_); refine wpList_stW rfl 108 (.tmp 8) (.tmp 22) rfl wr.heap.size _ rfl rfl 108 _ (row_alloc_at _ _ _ rfl) numSize rfl (by decide) ?_; intro W3 hr3 ht3; have H3 : Hd (RS w s (sK kd ct id' tx 2) W3 ∧ W3.heap[wr.heap.size]? = some (.cells #[.func (.func 83) #[] #[], .func (.func 84) #[] #[]] 108 (0, 0))) := ⟨HI.out.on (below_tch (below_alloc (Below.refl _ _) _) ht3 (fun i hi => by omega)), hr3.out⟩; clear hr3 ht3)
        | fail)
      obtain ⟨hp, hq⟩ := (HE.out.2.2.below H3.out.1.below).two 2 (by decide) 4 4 rfl rfl
      have hnc := (cell_of_row _ _ 1 _ _ _ H3.out.2).trans (show _ = some (Value.func (.func 84) #[] #[]) from rfl)
      have hci : (8 : Int) ≤ (c : Int) := by omega
      have hcn : ¬ c = 4 := by omega
      have hww : IntKind.i64.wrap 8 = 8 := by decide
      go_quiet ((go_at_call 66; exact Calls.quiet_of_same ((get_calls _ _ ((xs.drop 4).take 4) 4 (HL.out 4 4 (by decide)).symm _ (rdB_sub (HX.out.2.2.below H3.out.1.below) 4 4 |>.drewN _) (fun x hx' => HX.out.2.1 x (List.mem_of_mem_drop (List.mem_of_mem_take hx'))) (by have h : ((xs.drop 4).take 4).length = 4 := HL.out 4 4 (by decide); omega) (by have h : ((xs.drop 4).take 4).length = 4 := HL.out 4 4 (by decide); omega)).mono fun _ _ h => ⟨h.1, h.2.symm⟩)))
      rw [show num ((xs.drop 4).take 4) = id' from HV.out.1.2.2.1]
      have H4 : Hd (RS w s (sK kd ct id' tx 2) (W3.drewN nq) ∧ (W3.drewN nq).cell? ⟨wr.heap.size, 1, none⟩ = some (Value.func (.func 84) #[] #[])) := ⟨H3.out.1.on (below_drewN (Below.refl _ _) nq), hnc⟩
      obtain ⟨W4, hW4⟩ : ∃ W4, W3.drewN nq = W4 := ⟨_, rfl⟩
      rw [hW4] at H4 ⊢
      clear hW4 hnc hp hq
      have hnc := H4.out.2
      have hsc := H4.out.1.cell 1 (.int .i64 0) rfl
      have hsf := Joins.unfrozen_of_block H4.out.1.row
      go_wp2_with (first
        | (go_at_call 84; refine (set_id s id' (.int .i64 0) _ hsc (hsf _) (by have := HN.out 4 4 (by decide); have e := HV.out.1.2.2.1; rw [← e]; exact this.1) (by have := HN.out 4 4 (by decide); have e := HV.out.1.2.2.1; rw [← e]; exact Int.le_of_lt (Int.lt_of_lt_of_le this.2 (by decide)))).mono ?_; rintro e W5 ⟨rfl, hw5⟩; have H5 : Hd (RS w s (sK kd ct id' tx (2 + 1)) W5) := ⟨by rw [← hw5]; exact H4.out.1.set 1 _⟩; clear hw5)
        | fail)
      go_roundw
      case rel => exact ⟨2 + 1, by omega, by go_num, H5⟩
      case measure => simp [intOf]
    · have hw8 : w.heap.size ≤ wr.heap.size := HI.out.below.size
      go_wp2_with (first
        | ((with_reducible refine gS (t := 108) (x := .tmp 8) (y := .tmp 22) rfl ?_); refine wpList_stW rfl 108 (.tmp 8) (.tmp 22) rfl wr.heap.size _ rfl rfl 108 _ (row_alloc_at _ _ _ rfl) numSize rfl (by decide) ?_; intro W3 hr3 ht3; have H3 : Hd (RS w s (sK kd ct id' tx 3) W3 ∧ W3.heap[wr.heap.size]? = some (.cells #[.func (.func 85) #[] #[], .func (.func 86) #[] #[]] 108 (0, 0))) := ⟨HI.out.on (below_tch (below_alloc (Below.refl _ _) _) ht3 (fun i hi => by omega)), hr3.out⟩; clear hr3 ht3)
        | fail)
      obtain ⟨hp, hq⟩ := (HE.out.2.2.below H3.out.1.below).two 3 (by decide) 8 8 rfl rfl
      have hnc := (cell_of_row _ _ 1 _ _ _ H3.out.2).trans (show _ = some (Value.func (.func 86) #[] #[]) from rfl)
      have hci : (16 : Int) ≤ (c : Int) := by omega
      have hcn : ¬ c = 8 := by omega
      have hww : IntKind.i64.wrap 16 = 16 := by decide
      go_quiet ((go_at_call 66; exact Calls.quiet_of_same ((get_calls _ _ ((xs.drop 8).take 8) 8 (HL.out 8 8 (by decide)).symm _ (rdB_sub (HX.out.2.2.below H3.out.1.below) 8 8 |>.drewN _) (fun x hx' => HX.out.2.1 x (List.mem_of_mem_drop (List.mem_of_mem_take hx'))) (by have h : ((xs.drop 8).take 8).length = 8 := HL.out 8 8 (by decide); omega) (by have h : ((xs.drop 8).take 8).length = 8 := HL.out 8 8 (by decide); omega)).mono fun _ _ h => ⟨h.1, h.2.symm⟩)))
      rw [show num ((xs.drop 8).take 8) = tx from HV.out.1.2.2.2]
      have H4 : Hd (RS w s (sK kd ct id' tx 3) (W3.drewN nq) ∧ (W3.drewN nq).cell? ⟨wr.heap.size, 1, none⟩ = some (Value.func (.func 86) #[] #[])) := ⟨H3.out.1.on (below_drewN (Below.refl _ _) nq), hnc⟩
      obtain ⟨W4, hW4⟩ : ∃ W4, W3.drewN nq = W4 := ⟨_, rfl⟩
      rw [hW4] at H4 ⊢
      clear hW4 hnc hp hq
      have hnc := H4.out.2
      have hsc := H4.out.1.cell 2 (.int .u64 0) rfl
      have hsf := Joins.unfrozen_of_block H4.out.1.row
      go_wp2_with (first
        | (go_at_call 86; refine (set_txid s tx (.int .u64 0) _ hsc (hsf _)).mono ?_; rintro e W5 ⟨rfl, hw5⟩; have H5 : Hd (RS w s (sK kd ct id' tx (3 + 1)) W5) := ⟨by rw [← hw5]; exact H4.out.1.set 2 _⟩; clear hw5)
        | fail)
      go_roundw
      case rel => exact ⟨3 + 1, by omega, by go_num, H5⟩
      case measure => simp [intOf]
    · have hci : ((4096 : Nat) : Int) ≤ (c : Int) := by omega
      have hcn : ¬ c = 24 := by omega
      have hrw : RdB wr (some ad) xs := HX.out.2.2.below HI.out.below
      have hcv : (convert 25 9 (.slice (some ⟨ad.block, ad.off + 24, none⟩) 4072 (c - 24))).run Tryd.prog wr = .ok (.string bd) wr := by
        rw [← HV.out.2]
        exact conv_bs (show RdB wr (some ⟨ad.block, ad.off + 24, none⟩) (xs.drop 24) from rdB_drop hrw 24) 4072 (c - 24) (by rw [List.length_drop, HX.out.1])
      have hsc := HI.out.cell 4 (.string ⟨#[]⟩) rfl
      have hsf := Joins.unfrozen_of_block HI.out.row
      clear n0 n1 n2 n3 H2 hrw
      go_upto_region 11 with (fail)
      have H5 : Hd (RS w s #[.int .i64 kd, .int .i64 id', .int .u64 tx, .int .i64 ct, .string bd] (wr.setCell ⟨s, 4, none⟩ (.string bd))) := ⟨HI.out.set 4 _⟩
      obtain ⟨W5, hW5⟩ : ∃ W5, wr.setCell ⟨s, 4, none⟩ (.string bd) = W5 := ⟨_, rfl⟩
      rw [hW5] at H5 ⊢
      clear hW5 hcv hsc hsf
      have j0 := H5.out.cell 0 _ rfl
      have j1 := H5.out.cell 1 _ rfl
      have j2 := H5.out.cell 2 _ rfl
      have j3 := H5.out.cell 3 _ rfl
      have j4 := H5.out.cell 4 _ rfl
      by_cases hm : MayS kd ct id' bd.size
      · have HM : Hd (MayS kd ct id' bd.size) := ⟨hm⟩
        have qn := neq_nil_nil
        by_cases hi : id' = id
        · have hib : (id' != id) = false := by simp [hi]
          by_cases hp : pg kd ct id' tx (sb bd) = xs
          · have YES : Hd (MayS kd ct id' bd.size ∧ id' = id ∧ pg kd ct id' tx (sb bd) = xs) := ⟨⟨hm, hi, hp⟩⟩
            have HP : Hd (pg kd ct id' tx (sb bd) = xs) := ⟨hp⟩
            clear hm hi hp
            obtain ⟨SB, hSB⟩ : ∃ SB, strOfNums xs = SB := ⟨_, rfl⟩
            have HSB : Hd (strOfNums xs = SB) := ⟨hSB⟩
            clear hSB
            go_wp2_with (first
              | (go_at_call 22; refine (seal_ok kd id' tx ct bd _ (HE.out.2.1.below H5.out.below) (HE.out.2.2.below H5.out.below) HM.out HX2.out.1 HX2.out.2).mono ?_; rintro e W6 ⟨g6, rfl, -, hr6, hb⟩; have H6 : Hd (RS w s #[.int .i64 kd, .int .i64 id', .int .u64 tx, .int .i64 ct, .string bd] W6) := ⟨H5.out.on hb⟩; have c1 := conv_bs (RdB.of_row0 hr6) 4096 4096 (pg_length _ _ _ _ _ (by rw [sb_length]; have := HM.out; unfold MayS at this; omega)).symm; have c2 := conv_bs (HX.out.2.2.below H6.out.below) 4096 c HX.out.1.symm; rw [HP.out, HSB.out] at c1; rw [HSB.out] at c2; clear hr6; have z0 := (cell_of_row _ _ 0 _ _ _ H6.out.res).trans (show _ = some (Value.int .i64 0) from rfl); have z1 := (cell_of_row _ _ 1 _ _ _ H6.out.res).trans (show _ = some (Value.int .i64 0) from rfl); have z2 := (cell_of_row _ _ 2 _ _ _ H6.out.res).trans (show _ = some (Value.int .u64 0) from rfl); have z3 := (cell_of_row _ _ 3 _ _ _ H6.out.res).trans (show _ = some (Value.int .i64 0) from rfl); have z4 := (cell_of_row _ _ 4 _ _ _ H6.out.res).trans (show _ = some (Value.string ⟨#[]⟩) from rfl); have zf := Joins.unfrozen_of_block H6.out.res; have i0 := H6.out.cell 0 _ rfl; have i1 := H6.out.cell 1 _ rfl; have i2 := H6.out.cell 2 _ rfl; have i3 := H6.out.cell 3 _ rfl; have i4 := H6.out.cell 4 _ rfl; clear hb j0 j1 j2 j3 j4)
              | fail)
            have hRR := HR.out
            rw [if_pos YES.out] at hRR
            obtain ⟨rfl, rfl⟩ := Prod.mk.inj hRR
            refine bodyPost_ret (v := .tuple #[.agg #[.int .i64 kd, .int .i64 id', .int .u64 tx, .int .i64 ct, .string bd], errV E 0]) (results_sheet rfl _ _ w.heap.size _ _ rfl rfl (sheetRow H6.out.res _ _ _ _ _) rfl) rfl ⟨rfl, ?_⟩
            exact below_sheet H6.out.below (Nat.le_refl _) _ _ _ _ _
          · have NO : Hd (¬ (MayS kd ct id' bd.size ∧ id' = id ∧ pg kd ct id' tx (sb bd) = xs)) := ⟨fun h => hp h.2.2⟩
            have HL4 : Hd ((sb bd).length = 4072) := ⟨by rw [sb_length]; unfold MayS at hm; omega⟩
            have HP : Hd (¬ strOfNums (pg kd ct id' tx (sb bd)) = strOfNums xs) := ⟨fun h => hp ((str_inj _ _ (pg_range _ _ _ _ _ HL4.out (sb_range bd)) HX.out.2.1).1 h)⟩
            clear hm hi hp
            obtain ⟨SB, hSB⟩ : ∃ SB, strOfNums xs = SB := ⟨_, rfl⟩
            obtain ⟨SA, hSA⟩ : ∃ SA, strOfNums (pg kd ct id' tx (sb bd)) = SA := ⟨_, rfl⟩
            have HSB : Hd (strOfNums xs = SB) := ⟨hSB⟩
            have HSA : Hd (strOfNums (pg kd ct id' tx (sb bd)) = SA) := ⟨hSA⟩
            rw [hSA, hSB] at HP
            have q1 : (SA.toList == SB.toList) = false := str_ne HP.out
            clear hSA hSB
            go_wp2_with (first
              | (go_at_call 22; refine (seal_ok kd id' tx ct bd _ (HE.out.2.1.below H5.out.below) (HE.out.2.2.below H5.out.below) HM.out HX2.out.1 HX2.out.2).mono ?_; rintro e W6 ⟨g6, rfl, -, hr6, hb⟩; have H6 : Hd (RS w s #[.int .i64 kd, .int .i64 id', .int .u64 tx, .int .i64 ct, .string bd] W6) := ⟨H5.out.on hb⟩; have c1 := conv_bs (RdB.of_row0 hr6) 4096 4096 (pg_length _ _ _ _ _ (by rw [sb_length]; have := HM.out; unfold MayS at this; omega)).symm; have c2 := conv_bs (HX.out.2.2.below H6.out.below) 4096 c HX.out.1.symm; rw [HSA.out] at c1; rw [HSB.out] at c2; clear hr6; have i0 := H6.out.cell 0 _ rfl; have i1 := H6.out.cell 1 _ rfl; have i2 := H6.out.cell 2 _ rfl; have i3 := H6.out.cell 3 _ rfl; have i4 := H6.out.cell 4 _ rfl; clear hb j0 j1 j2 j3 j4)
              | fail)
            have hE6 := (HE.out.1.below H6.out.below).cell 1 (by decide)
            have z0 := (cell_of_row _ _ 0 _ _ _ H6.out.res).trans (show _ = some (Value.int .i64 0) from rfl)
            have z1 := (cell_of_row _ _ 1 _ _ _ H6.out.res).trans (show _ = some (Value.int .i64 0) from rfl)
            have z2 := (cell_of_row _ _ 2 _ _ _ H6.out.res).trans (show _ = some (Value.int .u64 0) from rfl)
            have z3 := (cell_of_row _ _ 3 _ _ _ H6.out.res).trans (show _ = some (Value.int .i64 0) from rfl)
            have z4 := (cell_of_row _ _ 4 _ _ _ H6.out.res).trans (show _ = some (Value.string ⟨#[]⟩) from rfl)
            have zf := Joins.unfrozen_of_block H6.out.res
            have hne : 1 ≠ w.heap.size := Nat.ne_of_lt (World.block_lt_of_cell? w _ (HE.out.1.cell 1 (by decide)))
            go_region
            go_wp2
            have hRR := HR.out
            rw [if_neg NO.out] at hRR
            obtain ⟨rfl, rfl⟩ := Prod.mk.inj hRR
            refine bodyPost_ret (v := .tuple #[.agg zSheet, errV E 2]) (results_sheet rfl _ _ w.heap.size _ _ rfl rfl (sheetRow H6.out.res _ _ _ _ _) rfl) rfl ⟨rfl, ?_⟩
            exact (below_sheet H6.out.below (Nat.le_refl _) _ _ _ _ _).drew
        · have hib : (id' != id) = true := by simp [hi]
          have NO : Hd (¬ (MayS kd ct id' bd.size ∧ id' = id ∧ pg kd ct id' tx (sb bd) = xs)) := ⟨fun h => hi h.2.1⟩
          clear hm hi
          go_wp2_with (first
            | (go_at_call 22; refine (seal_ok kd id' tx ct bd _ (HE.out.2.1.below H5.out.below) (HE.out.2.2.below H5.out.below) HM.out HX2.out.1 HX2.out.2).mono ?_; rintro e W6 ⟨g6, rfl, -, hr6, hb⟩; have H6 : Hd (RS w s #[.int .i64 kd, .int .i64 id', .int .u64 tx, .int .i64 ct, .string bd] W6) := ⟨H5.out.on hb⟩; clear hr6; have i0 := H6.out.cell 0 _ rfl; have i1 := H6.out.cell 1 _ rfl; have i2 := H6.out.cell 2 _ rfl; have i3 := H6.out.cell 3 _ rfl; have i4 := H6.out.cell 4 _ rfl; clear hb j0 j1 j2 j3 j4)
            | fail)
          have hE6 := (HE.out.1.below H6.out.below).cell 1 (by decide)
          have z0 := (cell_of_row _ _ 0 _ _ _ H6.out.res).trans (show _ = some (Value.int .i64 0) from rfl)
          have z1 := (cell_of_row _ _ 1 _ _ _ H6.out.res).trans (show _ = some (Value.int .i64 0) from rfl)
          have z2 := (cell_of_row _ _ 2 _ _ _ H6.out.res).trans (show _ = some (Value.int .u64 0) from rfl)
          have z3 := (cell_of_row _ _ 3 _ _ _ H6.out.res).trans (show _ = some (Value.int .i64 0) from rfl)
          have z4 := (cell_of_row _ _ 4 _ _ _ H6.out.res).trans (show _ = some (Value.string ⟨#[]⟩) from rfl)
          have zf := Joins.unfrozen_of_block H6.out.res
          have hne : 1 ≠ w.heap.size := Nat.ne_of_lt (World.block_lt_of_cell? w _ (HE.out.1.cell 1 (by decide)))
          go_region
          go_wp2
          have hRR := HR.out
          rw [if_neg NO.out] at hRR
          obtain ⟨rfl, rfl⟩ := Prod.mk.inj hRR
          refine bodyPost_ret (v := .tuple #[.agg zSheet, errV E 2]) (results_sheet rfl _ _ w.heap.size _ _ rfl rfl (sheetRow H6.out.res _ _ _ _ _) rfl) rfl ⟨rfl, ?_⟩
          exact (below_sheet H6.out.below (Nat.le_refl _) _ _ _ _ _).drew
      · have NO : Hd (¬ (MayS kd ct id' bd.size ∧ id' = id ∧ pg kd ct id' tx (sb bd) = xs)) := ⟨fun h => hm h.1⟩
        have HM : Hd (¬ MayS kd ct id' bd.size) := ⟨hm⟩
        have qn := neq_err_nil (E 0)
        clear hm
        go_wp2_with (first
          | (go_at_call 22; refine (seal_no kd id' tx ct bd _ _ ((HE.out.1.below H5.out.below).cell 0 (by decide)) HM.out).mono ?_; rintro e W6 ⟨rfl, hb⟩; have H6 : Hd (RS w s #[.int .i64 kd, .int .i64 id', .int .u64 tx, .int .i64 ct, .string bd] W6) := ⟨H5.out.on hb⟩; clear hb j0 j1 j2 j3 j4)
          | fail)
        have hE6 := (HE.out.1.below H6.out.below).cell 1 (by decide)
        have z0 := (cell_of_row _ _ 0 _ _ _ H6.out.res).trans (show _ = some (Value.int .i64 0) from rfl)
        have z1 := (cell_of_row _ _ 1 _ _ _ H6.out.res).trans (show _ = some (Value.int .i64 0) from rfl)
        have z2 := (cell_of_row _ _ 2 _ _ _ H6.out.res).trans (show _ = some (Value.int .u64 0) from rfl)
        have z3 := (cell_of_row _ _ 3 _ _ _ H6.out.res).trans (show _ = some (Value.int .i64 0) from rfl)
        have z4 := (cell_of_row _ _ 4 _ _ _ H6.out.res).trans (show _ = some (Value.string ⟨#[]⟩) from rfl)
        have zf := Joins.unfrozen_of_block H6.out.res
        have hne : 1 ≠ w.heap.size := Nat.ne_of_lt (World.block_lt_of_cell? w _ (HE.out.1.cell 1 (by decide)))
        go_region
        go_wp2
        have hRR := HR.out
        rw [if_neg NO.out] at hRR
        obtain ⟨rfl, rfl⟩ := Prod.mk.inj hRR
        refine bodyPost_ret (v := .tuple #[.agg zSheet, errV E 2]) (results_sheet rfl _ _ w.heap.size _ _ rfl rfl (sheetRow H6.out.res _ _ _ _ _) rfl) rfl ⟨rfl, ?_⟩
        exact (below_sheet H6.out.below (Nat.le_refl _) _ _ _ _ _).drew
end Go.Proofs.YtoenacghkpgnpaaDoor.Sh
