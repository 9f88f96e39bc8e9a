/- A page is read as what it was sealed of, by its own number alone. -/
import Derived.Test.YtoenacghkpgnpaaDoorReadS
namespace Go.Proofs.YtoenacghkpgnpaaDoor.Sh
open Go.RowKit Go.Proofs.YtoenacghkpgnpaaDoor.K Go.Proofs.YtoenacghkpgnpaaDoor.E Go.Proofs.YtoenacghkpgnpaaDoor.P1 Go.Proofs.YtoenacghkpgnpaaDoor.Codec Go.Proofs.YtoenacghkpgnpaaDoor.D Go.Proofs.YtoenacghkpgnpaaDoor.S

/-- The cells of a sheet's box, whatever is made beside it. -/
theorem bx5o {W : World} {g : Nat} {a b c d e : Value} (h : W.heap[g]? = some (.cells #[a, b, c, d, e] 37 (0, 0))) (o : Obj) : (W.alloc o).cell? ⟨g, 0, none⟩ = some a ∧ (W.alloc o).cell? ⟨g, 1, none⟩ = some b ∧ (W.alloc o).cell? ⟨g, 2, none⟩ = some c ∧ (W.alloc o).cell? ⟨g, 3, none⟩ = some d ∧ (W.alloc o).cell? ⟨g, 4, none⟩ = some e :=
  bx5 (below_row (below_alloc (Below.refl _ _) o) h)
theorem be_snoc (n : Int) (k : Nat) : be n (k + 1) = be (n / 256) k ++ [n % 256] := by
  refine List.ext_getElem (by simp [be_length]) fun i h1 h2 => ?_
  rw [be_length] at h1
  by_cases hi : i < k
  · rw [List.getElem_append_left (by rw [be_length]; exact hi)]
    simp only [be, List.getElem_map, List.getElem_range]
    unfold byteAt
    have e : k + 1 - 1 - i = (k - 1 - i) + 1 := by omega
    rw [e, Int.pow_succ, Int.mul_comm, Int.ediv_ediv_of_nonneg (by omega)]
  · obtain rfl : i = k := by omega
    rw [List.getElem_append_right (by rw [be_length]; omega)]
    simp only [be, List.getElem_map, List.getElem_range, List.length_map, List.length_range]
    unfold byteAt
    simp
theorem num_be : ∀ (k : Nat) (n : Int), 0 ≤ n → n < 256 ^ k → num (be n k) = n
  | 0, n, h0, h1 => by
    have : n = 0 := by rw [Int.pow_zero] at h1; omega
    subst this; rfl
  | k + 1, n, h0, h1 => by
    rw [be_snoc, num_snoc, num_be k (n / 256) (by omega) (by rw [Int.pow_succ] at h1; omega)]
    omega
theorem mid_part (A B C : List Int) (o k : Nat) (hA : A.length = o) (hB : B.length = k) : ((A ++ (B ++ C)).drop o).take k = B := by
  subst hA hB
  rw [List.drop_left, List.take_left]

section
variable {kd ct id tx s : Int} {bd : List Int}
theorem gK_lit (h0 : 0 ≤ kd) (h1 : kd < 256) : gK (plit kd ct id tx s bd) = kd := by
  have e : plit kd ct id tx s bd = be kd 1 ++ (zs 1 ++ be ct 2 ++ be id 4 ++ be tx 8 ++ (be s 4 ++ (zs 4 ++ bd))) := by simp [plit, Sh.h4, Sh.h3, Sh.h2, Sh.h1]
  unfold gK
  rw [e, List.take_left' (be_length _ _)]
  exact num_be 1 kd h0 h1
theorem gC_lit (h0 : 0 ≤ ct) (h1 : ct < 65536) : gC (plit kd ct id tx s bd) = ct := by
  have e : plit kd ct id tx s bd = Sh.h1 kd ++ (be ct 2 ++ (be id 4 ++ be tx 8 ++ (be s 4 ++ (zs 4 ++ bd)))) := by simp [plit, Sh.h4, Sh.h3, Sh.h2]
  unfold gC
  rw [e, mid_part _ _ _ 2 2 (h1_length _) (be_length _ _)]
  exact num_be 2 ct h0 h1
theorem gI_lit (h0 : 0 ≤ id) (h1 : id < 4294967296) : gI (plit kd ct id tx s bd) = id := by
  have e : plit kd ct id tx s bd = Sh.h2 kd ct ++ (be id 4 ++ (be tx 8 ++ (be s 4 ++ (zs 4 ++ bd)))) := by simp [plit, Sh.h4, Sh.h3]
  unfold gI
  rw [e, mid_part _ _ _ 4 4 (h2_length _ _) (be_length _ _)]
  exact num_be 4 id h0 h1
theorem gX_lit (h0 : 0 ≤ tx) (h1 : tx < 18446744073709551616) : gX (plit kd ct id tx s bd) = tx := by
  have e : plit kd ct id tx s bd = Sh.h3 kd ct id ++ (be tx 8 ++ (be s 4 ++ (zs 4 ++ bd))) := by simp [plit, Sh.h4]
  unfold gX
  rw [e, mid_part _ _ _ 8 8 (h3_length _ _ _) (be_length _ _)]
  exact num_be 8 tx h0 h1
theorem drop24_lit : (plit kd ct id tx s bd).drop 24 = bd := by
  have e : plit kd ct id tx s bd = (Sh.h4 kd ct id tx ++ (be s 4 ++ zs 4)) ++ bd := by simp [plit]
  rw [e]
  exact List.drop_left' (by rw [List.length_append, List.length_append, h4_length, be_length, zs_length])
end
theorem parts_pg {kd ct id tx : Int} {bd : ByteArray} (hm : MayS kd ct id bd.size) (h0 : 0 ≤ tx) (h1 : tx < 18446744073709551616) :
    gK (pg kd ct id tx (sb bd)) = kd ∧ gC (pg kd ct id tx (sb bd)) = ct ∧ gI (pg kd ct id tx (sb bd)) = id ∧ gX (pg kd ct id tx (sb bd)) = tx ∧ gB (pg kd ct id tx (sb bd)) = bd := by
  have hl : (sb bd).length = 4072 := by rw [sb_length]; unfold MayS at hm; omega
  unfold MayS at hm
  rw [pg_lit _ _ _ _ _ hl]
  refine ⟨gK_lit (by omega) (by omega), gC_lit (by omega) (by omega), gI_lit (by omega) (by omega), gX_lit h0 h1, ?_⟩
  unfold gB
  rw [drop24_lit, str_sb]
theorem rdS_back {kd ct id tx : Int} {bd : ByteArray} (hm : MayS kd ct id bd.size) (h0 : 0 ≤ tx) (h1 : tx < 18446744073709551616) : rdS (pg kd ct id tx (sb bd)) id = (kd, id, tx, ct, bd, 0) := by
  obtain ⟨e1, e2, e3, e4, e5⟩ := parts_pg hm h0 h1
  have hl : (pg kd ct id tx (sb bd)).length = 4096 := pg_length _ _ _ _ _ (by rw [sb_length]; unfold MayS at hm; omega)
  unfold rdS
  rw [if_pos ⟨hl, by unfold OkS; rw [e1, e2, e3, e4, e5]; exact ⟨hm, rfl, rfl⟩⟩, e1, e2, e3, e4, e5]
theorem rdS_other {kd ct id tx : Int} {bd : ByteArray} (hm : MayS kd ct id bd.size) (h0 : 0 ≤ tx) (h1 : tx < 18446744073709551616) (j : Int) (hj : ¬ j = id) : rdS (pg kd ct id tx (sb bd)) j = (0, 0, 0, 0, ⟨#[]⟩, 2) := by
  obtain ⟨e1, e2, e3, e4, e5⟩ := parts_pg hm h0 h1
  unfold rdS
  rw [if_neg]
  rintro ⟨-, h⟩
  unfold OkS at h
  rw [e3] at h
  exact hj h.2.1.symm
end Go.Proofs.YtoenacghkpgnpaaDoor.Sh
