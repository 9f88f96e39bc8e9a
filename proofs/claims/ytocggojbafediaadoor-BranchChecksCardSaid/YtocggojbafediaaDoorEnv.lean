/- The package-level variables that the program reads: what a walk may know of them. -/
import Derived.Test.YtocggojbafediaaDoorProg
import Derived.Test.YtocggojbafediaaDoorKit
namespace Go.Proofs.YtocggojbafediaaDoor.E
open Go.RowKit Go.Proofs.YtocggojbafediaaDoor.K

/-- The error that lies at an address (its dynamic type is a pointer that errors.New made). -/
abbrev errAt (a : Addr) : Value := .iface 191 (.pointer (some a))

/-- The sentinels of the list, each a variable by its number, hold errors at A's addresses: each in a block of its own. -/
structure Errs (L : List Nat) (A : Nat → Addr) (w : World) : Prop where
  cell : ∀ g, g ∈ L → w.cell? ⟨g, 0, none⟩ = some (errAt (A g))
  row : ∀ g, g ∈ L → ∃ c t, w.heap[(A g).block]? = some (.cells c t (0, 0))
  apart : ∀ g h, g ∈ L → h ∈ L → A g = A h → g = h

theorem Errs.below {L : List Nat} {A : Nat → Addr} {w w' : World} (h : Errs L A w) (hb : Below w.heap.size w w') : Errs L A w' :=
  ⟨fun g hg => below_cell hb (h.cell g hg), fun g hg => let ⟨c, t, hr⟩ := h.row g hg; ⟨c, t, below_row hb hr⟩, h.apart⟩
theorem Errs.touch {S : Nat → Prop} {L : List Nat} {A : Nat → Addr} {w w' : World} (h : Errs L A w) (hb : Tch S w w') (h1 : ∀ g, g ∈ L → ¬ S g) (h2 : ∀ g, g ∈ L → ¬ S (A g).block) : Errs L A w' :=
  ⟨fun g hg => hb.cell (h.cell g hg) (h1 g hg), fun g hg => let ⟨c, t, hr⟩ := h.row g hg; ⟨c, t, hb.row hr (h2 g hg)⟩, h.apart⟩
theorem Errs.mono {L M : List Nat} {A : Nat → Addr} {w : World} (h : Errs L A w) (hM : ∀ g, g ∈ M → g ∈ L) : Errs M A w :=
  ⟨fun g hg => h.cell g (hM g hg), fun g hg => h.row g (hM g hg), fun g k hg hk e => h.apart g k (hM g hg) (hM k hk) e⟩
theorem Errs.drewN {L : List Nat} {A : Nat → Addr} {w : World} (h : Errs L A w) (n : Nat) : Errs L A (w.drewN n) := ⟨h.cell, h.row, h.apart⟩


end Go.Proofs.YtocggojbafediaaDoor.E
