/- What the first loop of MetaBurst keeps: so many bytes changed, each by what is xored upon it. -/
import Derived.Test.YtoenacghkpgnpaaDoorBurstLaw
import Derived.Test.YtoenacghkpgnpaaDoorDecode
namespace Go.Proofs.YtoenacghkpgnpaaDoor.D
open Go.RowKit Go.Proofs.YtoenacghkpgnpaaDoor.K Go.Proofs.YtoenacghkpgnpaaDoor.E Go.Proofs.YtoenacghkpgnpaaDoor.P1 Go.Proofs.YtoenacghkpgnpaaDoor.Codec Go.Proofs.YtoenacghkpgnpaaDoor.Meta Go.Proofs.YtoenacghkpgnpaaDoor.R5

abbrev x8 (x y : Int) : Int := bits .xor .u8 x y
theorem x8_bv (x y : Int) : x8 x y = (((BitVec.ofInt 8 x) ^^^ (BitVec.ofInt 8 y)).toNat : Int) % 256 := rfl
theorem x8_nat (a b : Nat) (ha : a < 256) (hb : b < 256) : x8 (a : Int) (b : Int) = ((a ^^^ b : Nat) : Int) := by
  have h := Nat.xor_lt_two_pow (n := 8) ha hb
  rw [x8_bv, BitVec.ofInt_natCast, BitVec.ofInt_natCast, BitVec.toNat_xor, BitVec.toNat_ofNat, BitVec.toNat_ofNat, Nat.mod_eq_of_lt (show a < 2 ^ 8 by omega), Nat.mod_eq_of_lt (show b < 2 ^ 8 by omega)]
  omega
theorem x8_range (x y : Int) (hx : 0 ≤ x ∧ x ≤ 255) (hy : 0 ≤ y ∧ y ≤ 255) : 0 ≤ x8 x y ∧ x8 x y ≤ 255 := by
  obtain ⟨a, rfl⟩ := Int.eq_ofNat_of_zero_le hx.1
  obtain ⟨b, rfl⟩ := Int.eq_ofNat_of_zero_le hy.1
  have h := Nat.xor_lt_two_pow (n := 8) (show a < 2 ^ 8 by omega) (show b < 2 ^ 8 by omega)
  rw [x8_nat a b (by omega) (by omega)]
  omega
theorem x8_same (x y : Int) (hx : 0 ≤ x ∧ x ≤ 255) (hy : 0 ≤ y ∧ y ≤ 255) : x8 x y = x ↔ y = 0 := by
  obtain ⟨a, rfl⟩ := Int.eq_ofNat_of_zero_le hx.1
  obtain ⟨b, rfl⟩ := Int.eq_ofNat_of_zero_le hy.1
  rw [x8_nat a b (by omega) (by omega)]
  constructor
  · intro h
    have h1 : a ^^^ b = a := Int.ofNat.inj h
    have h2 : b = 0 := Burst.xlc (a := a) (by rw [h1, Nat.xor_zero])
    omega
  · intro h
    have h2 : b = 0 := by omega
    rw [h2, Nat.xor_zero]

structure Inv (xs bs : List Int) (a k : Nat) (c : Bool) (ys : List Int) : Prop where
  k4 : k ≤ 4
  fit : a + k ≤ 512
  place : a + k ≤ 24 ∨ 28 ≤ a ∨ (24 ≤ a ∧ a + k ≤ 28)
  len : ys.length = 512
  far : ∀ j, ¬ (a ≤ j ∧ j < a + k) → ys.getD j 0 = xs.getD j 0
  near : ∀ j, j < k → ys.getD (a + j) 0 = x8 (xs.getD (a + j) 0) (bs.getD j 0)
  flag : c = true ↔ ∃ j, j < k ∧ bs.getD j 0 ≠ 0
theorem Inv.start (xs bs : List Int) (a : Nat) (ha : a ≤ 512) (hx : xs.length = 512) : Inv xs bs a 0 false xs :=
  ⟨by omega, by omega, by omega, hx, fun _ _ => rfl, fun _ h => by omega, ⟨(fun h => absurd h (by decide)), fun ⟨_, h, _⟩ => absurd h (Nat.not_lt_zero _)⟩⟩
theorem Inv.step {xs bs : List Int} {a k : Nat} {c : Bool} {ys : List Int} (h : Inv xs bs a k c ys) (hk : k < 4) (hf : a + k < 512) (hp : a + (k + 1) ≤ 24 ∨ 28 ≤ a ∨ (24 ≤ a ∧ a + (k + 1) ≤ 28)) (c' : Bool) (hc : c' = true ↔ (c = true ∨ bs.getD k 0 ≠ 0)) :
    Inv xs bs a (k + 1) c' (ys.set (a + k) (x8 (ys.getD (a + k) 0) (bs.getD k 0))) := by
  have hs : ∀ j, (ys.set (a + k) (x8 (ys.getD (a + k) 0) (bs.getD k 0))).getD j 0 = if j = a + k then x8 (ys.getD (a + k) 0) (bs.getD k 0) else ys.getD j 0 := fun j => by
    rw [List.getD_eq_getElem?_getD, List.getElem?_set, List.getD_eq_getElem?_getD]
    by_cases e : a + k = j
    · subst e
      rw [if_pos rfl, if_pos (by rw [h.len]; exact hf), if_pos rfl]; rfl
    · rw [if_neg e, if_neg (fun q => e q.symm), ← List.getD_eq_getElem?_getD]
  refine ⟨by omega, by omega, hp, by rw [List.length_set]; exact h.len, fun j hj => ?_, fun j hj => ?_, ?_⟩
  · rw [hs, if_neg (by omega), h.far j (by omega)]
  · rw [hs]
    by_cases e : j = k
    · subst e
      rw [if_pos rfl, h.far (a + j) (by omega)]
    · rw [if_neg (by omega), h.near j (by omega)]
  · rw [hc, h.flag]
    constructor
    · rintro (⟨j, hj, hb⟩ | hb)
      · exact ⟨j, by omega, hb⟩
      · exact ⟨k, by omega, hb⟩
    · rintro ⟨j, hj, hb⟩
      by_cases e : j = k
      · exact .inr (e ▸ hb)
      · exact .inl ⟨j, by omega, hb⟩
theorem Inv.range {xs bs : List Int} {a k : Nat} {c : Bool} {ys : List Int} (h : Inv xs bs a k c ys) (hxl : xs.length = 512) (hx : ∀ x, x ∈ xs → 0 ≤ x ∧ x ≤ 255) (hb : ∀ j, 0 ≤ bs.getD j 0 ∧ bs.getD j 0 ≤ 255) : ∀ y, y ∈ ys → 0 ≤ y ∧ y ≤ 255 := by
  have hxj : ∀ j, j < 512 → 0 ≤ xs.getD j 0 ∧ xs.getD j 0 ≤ 255 := fun j hj => hx _ (by rw [List.getD_eq_getElem?_getD, List.getElem?_eq_getElem (by omega)]; exact List.getElem_mem _)
  intro y hy
  obtain ⟨j, hj, rfl⟩ := List.getElem_of_mem hy
  have e : ys[j] = ys.getD j 0 := by rw [List.getD_eq_getElem?_getD, List.getElem?_eq_getElem hj]; rfl
  rw [e]
  rw [h.len] at hj
  by_cases hn : a ≤ j ∧ j < a + k
  · have := h.near (j - a) (by omega)
    rw [show a + (j - a) = j by omega] at this
    rw [this]
    exact x8_range _ _ (hxj j hj) (hb _)
  · rw [h.far j hn]; exact hxj j hj
theorem parts (L : List Int) (a k : Nat) : L = L.take a ++ ((L.drop a).take k ++ L.drop (a + k)) := by
  rw [← List.drop_drop, List.take_append_drop, List.take_append_drop]
theorem getD_at {L : List Int} {j : Nat} (h : j < L.length) : L[j]? = some (L.getD j 0) := by rw [List.getD_eq_getElem?_getD, List.getElem?_eq_getElem h]; rfl
/-- Nothing changed. -/
theorem Inv.unchanged {xs bs : List Int} {a k : Nat} {ys : List Int} (h : Inv xs bs a k false ys) (hxl : xs.length = 512) (hx : ∀ x, x ∈ xs → 0 ≤ x ∧ x ≤ 255) : ys = xs := by
  refine List.ext_getElem? fun j => ?_
  by_cases hj : j < 512
  · rw [getD_at (by rw [h.len]; exact hj), getD_at (by rw [hxl]; exact hj)]
    by_cases hn : a ≤ j ∧ j < a + k
    · have h1 := h.near (j - a) (by omega)
      rw [show a + (j - a) = j by omega] at h1
      have h2 : bs.getD (j - a) 0 = 0 := by
        by_cases e : bs.getD (j - a) 0 = 0
        · exact e
        · exact absurd (h.flag.2 ⟨j - a, by omega, e⟩) (by decide)
      rw [h1, h2, (x8_same _ 0 (hx _ (by rw [List.getD_eq_getElem?_getD, List.getElem?_eq_getElem (by omega)]; exact List.getElem_mem _)) (by decide)).2 rfl]
    · rw [h.far j hn]
  · rw [List.getElem?_eq_none (by rw [h.len]; omega), List.getElem?_eq_none (by omega)]
/-- Something changed: the bytes are no meta's. -/
theorem Inv.none {p r t : Int} {bs : List Int} {a k : Nat} {ys : List Int} (h : Inv (wr p r t) bs a k true ys) (hb : ∀ j, 0 ≤ bs.getD j 0 ∧ bs.getD j 0 ≤ 255) (hm : MayM p r) (ht0 : 0 ≤ t) (ht1 : t < 18446744073709551616) (q s : Int) : ¬ OkD ys q s := by
  have hxl := wr_length p r t
  have hyr := h.range hxl (wr_range p r t) hb
  have e1 : ys.take a = (wr p r t).take a := by
    refine List.ext_getElem? fun j => ?_
    rw [List.getElem?_take, List.getElem?_take]
    by_cases hj : j < a
    · rw [if_pos hj, if_pos hj, getD_at (by rw [h.len]; have := h.fit; omega), getD_at (by rw [hxl]; have := h.fit; omega), h.far j (by omega)]
    · rw [if_neg hj, if_neg hj]
  have e2 : ys.drop (a + k) = (wr p r t).drop (a + k) := by
    refine List.ext_getElem? fun j => ?_
    rw [List.getElem?_drop, List.getElem?_drop]
    by_cases hj : a + k + j < 512
    · rw [getD_at (by rw [h.len]; exact hj), getD_at (by rw [hxl]; exact hj), h.far _ (by omega)]
    · rw [List.getElem?_eq_none (by rw [h.len]; omega), List.getElem?_eq_none (by rw [hxl]; omega)]
  have hk : ((wr p r t).drop a).length ≥ k := by rw [List.length_drop, hxl]; have := h.fit; omega
  have hk' : (ys.drop a).length ≥ k := by rw [List.length_drop, h.len]; have := h.fit; omega
  have hy : ys = (wr p r t).take a ++ ((ys.drop a).take k ++ (wr p r t).drop (a + k)) := by
    rw [← e1, ← e2]; exact parts ys a k
  have hlA : ((wr p r t).take a).length = a := by rw [List.length_take, hxl]; have := h.fit; omega
  have hlB : (((wr p r t).drop a).take k).length = k := by rw [List.length_take]; omega
  rw [hy]
  refine burst_none p r t _ (((wr p r t).drop a).take k) _ _ (parts _ a k) (by rw [List.length_take, List.length_take]; omega) (by rw [hlB]; exact h.k4) ?_ (fun x hx => hyr x (List.mem_of_mem_drop (List.mem_of_mem_take hx))) hm ht0 ht1 (by rw [hlA, hlB]; have := h.place; omega) q s
  intro e
  obtain ⟨j, hj, hne⟩ := h.flag.1 rfl
  have h1 := congrArg (fun L => L[j]?) e
  simp only [List.getElem?_take, if_pos hj, List.getElem?_drop] at h1
  have hfit := h.fit
  rw [getD_at (show a + j < (wr p r t).length by rw [hxl]; omega), getD_at (show a + j < ys.length by rw [h.len]; omega), h.near j hj] at h1
  refine hne ((x8_same _ _ (wr_range p r t _ (by rw [List.getD_eq_getElem?_getD, List.getElem?_eq_getElem (by rw [hxl]; omega)]; exact List.getElem_mem _)) (hb j)).1 (Option.some.inj h1).symm)
end Go.Proofs.YtoenacghkpgnpaaDoor.D
