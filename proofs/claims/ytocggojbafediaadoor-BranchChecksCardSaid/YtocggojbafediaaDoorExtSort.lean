/- slices.Sort and slices.Compact over a row of ints of the call's own. -/
import Derived.Test.YtocggojbafediaaDoorShelf
import Derived.Sort.OwnSortedInts
import Derived.Lib.OwnBridge
import Derived.Below
namespace Go.Proofs.YtocggojbafediaaDoor.Ref
set_option linter.unusedVariables false
set_option linter.unusedSimpArgs false
open Go.Sort Go.RowKit

def sorted (zs : List Int) : List Int := zs.mergeSort fun x y => decide (x ≤ y)
theorem sorted_length (zs : List Int) : (sorted zs).length = zs.length := List.length_mergeSort zs
theorem Sort_calls (g cap : Nat) (zs : List Int) (n : Nat) (hn : n = zs.length) (cur : Array Value) (e : TypeId) (B : Nat) (w0 w : World) (hb : w.heap[g]? = some (.cells cur e (0, 0))) (hc : zs.length ≤ cur.size) (ht : cur.toList.take zs.length = zs.map (Value.int .i64))
    (hsz : zs.length < 4611686018427387904) (hB : B ≤ g) (hw : Below B w0 w) :
    Calls Tryd.prog 73 #[.slice (some ⟨g, 0, none⟩) n cap] w fun r w' => r = .returned (.tuple #[]) ∧ (∃ cur', w'.heap[g]? = some (.cells cur' e (0, 0)) ∧ (sorted zs).length ≤ cur'.size ∧ cur'.toList.take (sorted zs).length = (sorted zs).map (Value.int .i64)) ∧ Below B w0 w' := by
  subst hn
  have hg : g < w.heap.size := (Array.getElem?_eq_some_iff.1 hb).1
  have h := Any.slices_Sort_int lays189 g 0 cap zs w (holds_of_blockI hb ht) hg hsz
  change Calls Tryd.prog 73 _ _ _ at h
  refine h.mono ?_
  rintro r w' ⟨rfl, m, os, rfl⟩
  refine ⟨rfl, ⟨_, heap_sortedI _ hb, ?_, ?_⟩, ?_⟩
  · rw [sorted_length]; simpa [putCells] using hc
  · exact take_putCellsI cur (sorted zs) (by rw [sorted_length]; exact hc)
  · exact hw.grown (grownBy_sortedI _) (by omega) (fun k hk => by cases hk; exact hB)
theorem Compact_calls (g cap : Nat) (zs : List Int) (n : Nat) (hn : n = zs.length) (M : Nat) (hM : (Lib.compact zs).length = M) (cur : Array Value) (e : TypeId) (B : Nat) (w0 w : World) (hb : w.heap[g]? = some (.cells cur e (0, 0))) (ht : cur.toList.take zs.length = zs.map (Value.int .i64))
    (hsz : zs.length < 4611686018427387904) (hcap : zs.length ≤ cap) (hB : B ≤ g) (hw : Below B w0 w) :
    Calls Tryd.prog 74 #[.slice (some ⟨g, 0, none⟩) n cap] w fun r w' => r = .returned (.slice (some ⟨g, 0, none⟩) M cap) ∧ Below B w0 w' := by
  subst hn
  subst hM
  have h := Any.slices_Compact_int lays2_20 g 0 cap zs w (holds_of_blockI hb ht) (by omega) hcap
  change Calls Tryd.prog 74 _ _ _ at h
  refine h.mono ?_
  rintro r w' ⟨rfl, q, rfl⟩
  exact ⟨rfl, Lib.below_putRow hw hB⟩
end Go.Proofs.YtocggojbafediaaDoor.Ref
