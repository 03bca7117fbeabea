/-
  L19: a part of the proof. By an AI agent.
-/
import Derived.Test.YtpeihahmhpamoaaGreatVQ
import Derived.Test.YtpeihahmhpamoaaGreatV10
import Derived.Test.YtpeihahmhpamoaaGreatL17
import Derived.Shelf.SlSortCmp.NoneTotal
set_option linter.all false
namespace Go.Proofs
open Go.V
open Go.RowKit (Below)
open Go.Sort (flatK size_flatK get_flatK HoldsK putRowK PermIn SortedIn)
/-! ### the order of lines -/
/-- only draws, and new blocks -/
def Gw (w w' : World) : Prop := Ex w w' ∧ w.drawn ≤ w'.drawn
theorem Gw.grow {w w' : World} (h : Gw w w') : ∃ q os, w' = Go.Sort.grow (w.drewN q) os := by
  obtain ⟨e, hd⟩ := h
  refine ⟨w'.drawn - w.drawn, w'.heap.extract w.heap.size w'.heap.size, ?_⟩
  obtain ⟨heap, tape, drawn, os, output⟩ := w
  obtain ⟨heap', tape', drawn', os', output'⟩ := w'
  have h1 := e.os; have h2 := e.tape; have h3 := e.output; have h4 := e.size; have h5 := e.block
  simp only [] at h1 h2 h3 h4 h5 hd
  subst h1 h2 h3
  unfold Go.Sort.grow World.drewN
  simp only [World.mk.injEq, true_and, and_true]
  refine ⟨?_, by omega⟩
  apply Array.ext_getElem?
  intro k
  rw [Array.getElem?_append]
  by_cases hk : k < heap.size
  · rw [if_pos hk]; exact h5 k hk
  · rw [if_neg hk]
    rw [Array.getElem?_extract]
    split
    · congr 1; omega
    · exact Array.getElem?_eq_none (by omega)
end Go.Proofs
