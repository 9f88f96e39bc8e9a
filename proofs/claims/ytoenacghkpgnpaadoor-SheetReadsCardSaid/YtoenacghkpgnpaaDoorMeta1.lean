/- Layer 5: the bytes of a slot: numbers are put and got. -/
import Derived.Test.YtoenacghkpgnpaaDoorCodec
namespace Go.Proofs.YtoenacghkpgnpaaDoor.Meta
open Go.RowKit Go.Proofs.YtoenacghkpgnpaaDoor.K Go.Proofs.YtoenacghkpgnpaaDoor.E Go.Proofs.YtoenacghkpgnpaaDoor.P1 Go.Proofs.YtoenacghkpgnpaaDoor.Codec

set_option maxRecDepth 100000 in
set_option maxHeartbeats 400000 in
theorem sput_calls (b : Nat) (xs : List Int) (atI kI n : Int) (at_ k : Nat) (hat : atI = at_) (hkI : kI = k) (w : World) (hb : w.heap[b]? = some (.cells (u8s xs) 99 (0, 0))) (hx : xs.length = 512)
    (h1 : 1 ≤ k) (h2 : k ≤ 8) (hf : at_ + k ≤ 512) (h0 : 0 ≤ n) (hn : n < 256 ^ k) :
    Calls Tryd.prog 76 #[.pointer (some ⟨b, 0, none⟩), .int .i64 atI, .int .i64 kI, .int .u64 n] w fun e w' => e = .returned (.tuple #[]) ∧
      w'.heap[b]? = some (.cells (u8s (splice xs at_ (be n k))) 99 (0, 0)) ∧ Tch (fun i => i = b) w w' := by
  subst hat hkI
  have hsl := fun wx => run_arr_l (P := Tryd.prog) wx 99 5 512 Tryd.underlying99 u8size b .i64 at_ at_ rfl (by omega)
  have HX : Hid (xs.length = 512) := hx
  have HB : Hid (w.heap[b]? = some (.cells (u8s xs) 99 (0, 0))) := hb
  clear hx hb
  go_enter Tryd.func76, Tryd.ntmps76
  go_wp2_with (first
    | (go_at_call 57; refine (put_calls n k k rfl _ h1 h2 h0 hn).mono ?_; rintro e w1 ⟨g, rfl, hg, hgr, hbl⟩; have HG : Hid (w1.heap[g]? = some (.cells (u8s (be n k)) 5 (0, 0))) := hgr; clear hgr; have HB1 : Hid (w1.heap[b]? = some (.cells (u8s xs) 99 (0, 0))) := below_row hbl HB.out)
    | (refine wpList_cp rfl (.tmp 19) (.tmp 20) 25 25 rfl 5 Tryd.underlying25 u8size _ _ _ _ _ _ _ rfl rfl xs 99 HB1.out (be n k) ?hn (RdB.of_row0 HG.out) ?hf ?_; (case hn => rw [be_length]; exact (Nat.min_eq_left (by omega)).symm); (case hf => rw [be_length, HX.out]; omega)))
  go_end0
  refine ⟨rfl, setRow_heap _ _ _ _ _ _ (below_row hbl HB.out), ?_⟩
  exact (Tch.of_below hbl (fun i => i = b)).setRow (g := b) (.inl rfl) _

set_option maxRecDepth 100000 in
set_option maxHeartbeats 400000 in
theorem sget_calls (b : Nat) (xs : List Int) (atI kI : Int) (at_ k : Nat) (hat : atI = at_) (hkI : kI = k) (w : World) (hb : w.heap[b]? = some (.cells (u8s xs) 99 (0, 0))) (hx : xs.length = 512) (hxr : ∀ x, x ∈ xs → 0 ≤ x ∧ x ≤ 255)
    (h1 : 1 ≤ k) (h2 : k ≤ 8) (hf : at_ + k < 512) :
    Calls Tryd.prog 63 #[.pointer (some ⟨b, 0, none⟩), .int .i64 atI, .int .i64 kI] w fun e w' => e = .returned (.int .u64 (num ((xs.drop at_).take k))) ∧ w = w' := by
  have hlen : ((xs.drop at_).take k).length = k := by rw [List.length_take, List.length_drop]; omega
  have hkk : (at_ + k) - at_ = k := by omega
  subst hat hkI
  have hsl := fun wx => run_arr_lh (P := Tryd.prog) wx 99 5 512 Tryd.underlying99 u8size b .i64 .i64 at_ (at_ + k) at_ (at_ + k) rfl rfl (by omega) (by omega) (by omega)
  rw [hkk] at hsl
  have hrd : RdB w (some ⟨b, at_, none⟩) ((xs.drop at_).take k) := RdB.of_row hb at_ fun j hj => by
    rw [hlen] at hj
    rw [List.getD_eq_getElem?_getD, List.getElem?_take, if_pos hj, List.getElem?_drop, List.getElem?_eq_getElem (by omega)]; rfl
  have HL : Hid (((xs.drop at_).take k).length = k) := hlen
  clear hlen hkk hx hb
  go_enter Tryd.func63, Tryd.ntmps63
  go_wp2_with (go_at_call 66; refine (get_calls _ _ ((xs.drop at_).take k) k HL.out.symm _ hrd (fun x hx => hxr x (List.mem_of_mem_drop (List.mem_of_mem_take hx))) (by rw [HL.out]; exact h1) (by rw [HL.out]; exact h2)).mono ?_; rintro e w1 ⟨rfl, rfl⟩)
  go_ret
  exact ⟨rfl, rfl⟩

end Go.Proofs.YtoenacghkpgnpaaDoor.Meta
