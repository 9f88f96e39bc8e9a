/- Both Chooses answer the same: a triple and the number of an error. -/
import Derived.Test.YtoenacghkpgnpaaDoorChoose
namespace Go.Proofs.YtoenacghkpgnpaaDoor.D
open Go.RowKit Go.Proofs.YtoenacghkpgnpaaDoor.K Go.Proofs.YtoenacghkpgnpaaDoor.E Go.Proofs.YtoenacghkpgnpaaDoor.P1 Go.Proofs.YtoenacghkpgnpaaDoor.Codec Go.Proofs.YtoenacghkpgnpaaDoor.Meta Go.Proofs.YtoenacghkpgnpaaDoor.Q Go.Proofs.YtoenacghkpgnpaaDoor.S

def chR2 (a b : Int × Int × Int × Int) : Int × Int × Int × Int :=
  if a.2.2.2 ≠ 0 ∧ b.2.2.2 ≠ 0 then (0, 0, 0, 9) else if a.2.2.2 ≠ 0 ∨ b.2.2.2 = 0 ∧ b.2.2.1 > a.2.2.1 then (b.1, b.2.1, b.2.2.1, 0) else (a.1, a.2.1, a.2.2.1, 0)
def chR (xs ys : List Int) (pages : Int) : Int × Int × Int × Int :=
  if PagesM pages then chR2 (decR xs pages 0) (decR ys pages 1) else (0, 0, 0, 1)

/-- The numbers of the two slots are never one. -/
theorem decR_slot (xs : List Int) (pages slot p r t : Int) (h : decR xs pages slot = (p, r, t, 0)) : t % 2 = slot ∧ PagesM pages := by
  unfold decR at h
  by_cases c1 : PagesM pages ∧ (slot = 0 ∨ slot = 1)
  · rw [if_pos c1] at h
    by_cases c2 : xs.length = 512 ∧ OkD xs pages slot
    · rw [if_pos c2] at h
      simp only [Prod.mk.injEq] at h
      rw [← h.2.2.1]
      exact ⟨c2.2.2.1, c1.1⟩
    · rw [if_neg c2] at h
      simp only [Prod.mk.injEq] at h
      exact absurd h.2.2.2 (by decide)
  · rw [if_neg c1] at h
    simp only [Prod.mk.injEq] at h
    exact absurd h.2.2.2 (by decide)
theorem decR_pages (xs : List Int) (pages slot p r t n : Int) (h : decR xs pages slot = (p, r, t, n)) (hs : slot = 0 ∨ slot = 1) : n = 1 ↔ ¬ PagesM pages := by
  unfold decR at h
  by_cases hp : PagesM pages
  · rw [if_pos ⟨hp, hs⟩] at h
    by_cases c2 : xs.length = 512 ∧ OkD xs pages slot
    · rw [if_pos c2] at h
      simp only [Prod.mk.injEq] at h
      exact ⟨(fun e => absurd (h.2.2.2.trans e) (by decide)), fun e => absurd hp e⟩
    · rw [if_neg c2] at h
      simp only [Prod.mk.injEq] at h
      exact ⟨(fun e => absurd (h.2.2.2.trans e) (by decide)), fun e => absurd hp e⟩
  · rw [if_neg (fun k => hp k.1)] at h
    simp only [Prod.mk.injEq] at h
    exact ⟨fun _ => hp, fun _ => h.2.2.2.symm⟩
theorem chR_num (xs ys : List Int) (pages p r t n : Int) (h : chR xs ys pages = (p, r, t, n)) : n = 0 ∨ n = 1 ∨ n = 2 ∨ n = 9 := by
  unfold chR chR2 at h
  by_cases hp : PagesM pages
  · rw [if_pos hp] at h
    by_cases c1 : (decR xs pages 0).2.2.2 ≠ 0 ∧ (decR ys pages 1).2.2.2 ≠ 0
    · rw [if_pos c1] at h; simp only [Prod.mk.injEq] at h; omega
    · rw [if_neg c1] at h
      by_cases c2 : (decR xs pages 0).2.2.2 ≠ 0 ∨ (decR ys pages 1).2.2.2 = 0 ∧ (decR ys pages 1).2.2.1 > (decR xs pages 0).2.2.1
      · rw [if_pos c2] at h; simp only [Prod.mk.injEq] at h; omega
      · rw [if_neg c2] at h; simp only [Prod.mk.injEq] at h; omega
  · rw [if_neg hp] at h; simp only [Prod.mk.injEq] at h; omega

theorem choose_calls {B : Nat → Addr} (A0 A1 : Option Addr) (m0 c0 m1 c1 : Nat) (xs ys : List Int) (h0 : m0 = xs.length) (h1 : m1 = ys.length) (pages p r t n : Int) (hd : chR xs ys pages = (p, r, t, n))
    (hxr : ∀ x, x ∈ xs → 0 ≤ x ∧ x ≤ 255) (hyr : ∀ x, x ∈ ys → 0 ≤ x ∧ x ≤ 255) (w : World) (hE : Errs errG B w) (hs : TabOk w) (hr0 : RdB w A0 xs) (hr1 : RdB w A1 ys) :
    Calls Tryd.prog 35 #[.slice A0 m0 c0, .slice A1 m1 c1, .int .i64 pages] w fun e w' => e = .returned (.tuple #[.agg #[.int .i64 p, .int .i64 r, .int .u64 t], errV B n]) ∧ Below w.heap.size w w' := by
  have e1 := hE.cell 0 (by decide)
  have e9 := hE.cell 8 (by decide)
  obtain ⟨⟨p0, r0, t0, n0⟩, hd0⟩ : ∃ q, decR xs pages 0 = q := ⟨_, rfl⟩
  obtain ⟨⟨p1, r1, t1, n1⟩, hd1⟩ : ∃ q, decR ys pages 1 = q := ⟨_, rfl⟩
  unfold chR chR2 at hd
  rw [hd0, hd1] at hd
  simp only at hd
  by_cases hp : PagesM pages
  · rw [if_pos hp] at hd
    by_cases q0 : n0 = 0
    · by_cases q1 : n1 = 0
      · rw [if_neg (fun k => k.1 q0)] at hd
        by_cases hg : t1 > t0
        · rw [if_pos (.inr ⟨q1, hg⟩)] at hd
          simp only [Prod.mk.injEq] at hd
          obtain ⟨rfl, rfl, rfl, rfl⟩ := hd
          exact choose_bn A0 A1 m0 c0 m1 c1 xs ys h0 h1 pages _ _ _ _ _ _ _ _ hd0 hd1 hxr hyr w _ e9 hE hs hr0 hr1 hp q0 q1 hg
        · rw [if_neg (fun k => k.elim (fun j => j q0) (fun j => hg j.2))] at hd
          simp only [Prod.mk.injEq] at hd
          obtain ⟨rfl, rfl, rfl, rfl⟩ := hd
          exact choose_bm A0 A1 m0 c0 m1 c1 xs ys h0 h1 pages _ _ _ _ _ _ _ _ hd0 hd1 hxr hyr w _ e9 hE hs hr0 hr1 hp q0 q1 hg
      · rw [if_neg (fun k => k.1 q0), if_neg (fun k => k.elim (fun j => j q0) (fun j => q1 j.1))] at hd
        simp only [Prod.mk.injEq] at hd
        obtain ⟨rfl, rfl, rfl, rfl⟩ := hd
        exact choose_m A0 A1 m0 c0 m1 c1 xs ys h0 h1 pages _ _ _ _ _ _ _ _ hd0 hd1 hxr hyr w _ e9 hE hs hr0 hr1 hp q0 q1
    · by_cases q1 : n1 = 0
      · rw [if_neg (fun k => k.2 q1), if_pos (.inl q0)] at hd
        simp only [Prod.mk.injEq] at hd
        obtain ⟨rfl, rfl, rfl, rfl⟩ := hd
        exact choose_n A0 A1 m0 c0 m1 c1 xs ys h0 h1 pages _ _ _ _ _ _ _ _ hd0 hd1 hxr hyr w _ e9 hE hs hr0 hr1 hp q0 q1
      · rw [if_pos ⟨q0, q1⟩] at hd
        simp only [Prod.mk.injEq] at hd
        obtain ⟨rfl, rfl, rfl, rfl⟩ := hd
        exact choose_both A0 A1 m0 c0 m1 c1 xs ys h0 h1 pages _ _ _ _ _ _ _ _ hd0 hd1 hxr hyr w _ e9 hE hs hr0 hr1 hp q0 q1
  · rw [if_neg hp] at hd
    simp only [Prod.mk.injEq] at hd
    obtain ⟨rfl, rfl, rfl, rfl⟩ := hd
    exact choose_pages A0 A1 m0 c0 m1 c1 pages w _ e1 hp

theorem rchoose_calls (A0 A1 : Option Addr) (m0 c0 m1 c1 : Nat) (xs ys : List Int) (h0 : m0 = xs.length) (h1 : m1 = ys.length) (hc0 : m0 ≤ c0) (hc1 : m1 ≤ c1) (pages p r t n : Int) (hd : chR xs ys pages = (p, r, t, n))
    (hxr : ∀ x, x ∈ xs → 0 ≤ x ∧ x ≤ 255) (hyr : ∀ x, x ∈ ys → 0 ≤ x ∧ x ≤ 255) (w : World) (hr0 : RdB w A0 xs) (hr1 : RdB w A1 ys) :
    Calls Tryd.prog 36 #[.slice A0 m0 c0, .slice A1 m1 c1, .int .i64 pages] w fun e w' => e = .returned (.tuple #[.agg #[.int .i64 p, .int .i64 r, .int .u64 t], .int .i64 n]) ∧ Below w.heap.size w w' := by
  obtain ⟨⟨p0, r0, t0, n0⟩, hd0⟩ : ∃ q, decR xs pages 0 = q := ⟨_, rfl⟩
  obtain ⟨⟨p1, r1, t1, n1⟩, hd1⟩ : ∃ q, decR ys pages 1 = q := ⟨_, rfl⟩
  unfold chR chR2 at hd
  rw [hd0, hd1] at hd
  simp only at hd
  have hone := decR_pages _ _ _ _ _ _ _ hd0 (.inl rfl)
  by_cases hp : PagesM pages
  · have hnn : ¬ n0 = 1 := fun e => hone.1 e hp
    rw [if_pos hp] at hd
    by_cases q0 : n0 = 0
    · by_cases q1 : n1 = 0
      · have s0 := decR_slot _ _ _ _ _ _ (q0 ▸ hd0)
        have s1 := decR_slot _ _ _ _ _ _ (q1 ▸ hd1)
        rw [if_neg (fun k => k.1 q0)] at hd
        by_cases hg : t1 > t0
        · rw [if_pos (.inr ⟨q1, hg⟩)] at hd
          simp only [Prod.mk.injEq] at hd
          obtain ⟨rfl, rfl, rfl, rfl⟩ := hd
          exact rchoose_bn A0 A1 m0 c0 m1 c1 xs ys h0 h1 pages _ _ _ _ _ _ _ _ hd0 hd1 hxr hyr w hc0 hc1 hr0 hr1 q0 q1 (by omega)
        · rw [if_neg (fun k => k.elim (fun j => j q0) (fun j => hg j.2))] at hd
          simp only [Prod.mk.injEq] at hd
          obtain ⟨rfl, rfl, rfl, rfl⟩ := hd
          exact rchoose_bm A0 A1 m0 c0 m1 c1 xs ys h0 h1 pages _ _ _ _ _ _ _ _ hd0 hd1 hxr hyr w hc0 hc1 hr0 hr1 q0 q1 (by omega)
      · rw [if_neg (fun k => k.1 q0), if_neg (fun k => k.elim (fun j => j q0) (fun j => q1 j.1))] at hd
        simp only [Prod.mk.injEq] at hd
        obtain ⟨rfl, rfl, rfl, rfl⟩ := hd
        exact rchoose_m A0 A1 m0 c0 m1 c1 xs ys h0 h1 pages _ _ _ _ _ _ _ _ hd0 hd1 hxr hyr w hc0 hc1 hr0 hr1 q0 q1
    · by_cases q1 : n1 = 0
      · rw [if_neg (fun k => k.2 q1), if_pos (.inl q0)] at hd
        simp only [Prod.mk.injEq] at hd
        obtain ⟨rfl, rfl, rfl, rfl⟩ := hd
        exact rchoose_n A0 A1 m0 c0 m1 c1 xs ys h0 h1 pages _ _ _ _ _ _ _ _ hd0 hd1 hxr hyr w hc0 hc1 hr0 hr1 q0 q1 hnn
      · rw [if_pos ⟨q0, q1⟩] at hd
        simp only [Prod.mk.injEq] at hd
        obtain ⟨rfl, rfl, rfl, rfl⟩ := hd
        exact rchoose_both A0 A1 m0 c0 m1 c1 xs ys h0 h1 pages _ _ _ _ _ _ _ _ hd0 hd1 hxr hyr w hc0 hc1 hr0 hr1 q0 q1 hnn
  · rw [if_neg hp] at hd
    simp only [Prod.mk.injEq] at hd
    obtain ⟨rfl, rfl, rfl, rfl⟩ := hd
    exact rchoose_pages A0 A1 m0 c0 m1 c1 xs ys h0 h1 pages _ _ _ _ _ _ _ _ hd0 hd1 hxr hyr w hc0 hc1 hr0 hr1 (hone.2 hp)
end Go.Proofs.YtoenacghkpgnpaaDoor.D
