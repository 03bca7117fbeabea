/-
  L23: a part of the proof. By an AI agent.
-/
import Derived.Test.YtpeihahmhpamoaaGreatVQ
import Derived.Test.YtpeihahmhpamoaaGreatV10
import Derived.Test.YtpeihahmhpamoaaGreatL21
set_option linter.all false
namespace Go.Proofs
open Go.V
open Go.RowKit (Below)
/-! ### rows of numbers that are held alone -/
structure RwO (w : World) (N : Nat) (base : Option Addr) (cap : Nat) (ss : List Sl) : Prop where
  row : Own w N 57 1 base ss.length cap (rowC slC ss)
  each : ∀ i (h : i < ss.length), Own w N 3 1 ss[i].base ss[i].xs.length ss[i].cap (ints ss[i].xs)
  apart : ∀ i j (hi : i < ss.length) (hj : j < ss.length), i ≠ j → ss[i].base = none ∨ blkOf ss[i].base ≠ blkOf ss[j].base
  off : ∀ i (hi : i < ss.length), ss[i].base = none ∨ blkOf ss[i].base ≠ blkOf base
theorem RwO.ex {w w' : World} {N : Nat} {base : Option Addr} {cap : Nat} {ss : List Sl} (h : RwO w N base cap ss) (e : Ex w w') : RwO w' N base cap ss :=
  ⟨h.row.ex e, fun i hi => (h.each i hi).ex e, h.apart, h.off⟩
theorem RwO.grown {w w' : World} {N : Nat} {base : Option Addr} {cap : Nat} {ss : List Sl} (h : RwO w N base cap ss) {row : Option Nat} (g : w.grownBy w' row) (h1 : base = none ∨ blkOf base ≠ row) (h2 : ∀ i (hi : i < ss.length), ss[i].base = none ∨ blkOf ss[i].base ≠ row) : RwO w' N base cap ss :=
  ⟨h.row.grown g h1, fun i hi => (h.each i hi).grown g (h2 i hi), h.apart, h.off⟩
theorem RwO.st {N M : Nat} {u u' : World} {base : Option Addr} {cap : Nat} {ss : List Sl} (h : RwO u N base cap ss) (s : St M u u') : RwO u' N base cap ss :=
  ⟨s.own h.row, fun i hi => s.own (h.each i hi), h.apart, h.off⟩
/-- a number of a row is written -/
theorem RwO.word {w w' : World} {N b : Nat} {base : Option Addr} {cap : Nat} {ss : List Sl} (h : RwO w N base cap ss) {i : Nat} (hi : i < ss.length) {xs : List Int} (hb : ss[i].base = some ⟨b, 0, none⟩) (hx : xs.length = ss[i].xs.length)
    (u : Upd w w' b) (ho : Own w' N 3 1 ss[i].base ss[i].xs.length ss[i].cap (ints xs)) : RwO w' N base cap (ss.set i { ss[i] with xs := xs }) := by
  have hne := h.off i hi
  have hget : ∀ j (hj : j < (ss.set i { ss[i] with xs := xs }).length), (ss.set i { ss[i] with xs := xs })[j].base = (ss[j]'(by simpa using hj)).base := by
    intro j hj
    rw [List.getElem_set]
    split
    · rename_i e; subst e; rfl
    · rfl
  refine ⟨?_, ?_, ?_, ?_⟩
  · have h1 := h.row.upd u (by
      rcases hne with h | h
      · rw [h] at hb; cases hb
      · rw [hb] at h; intro e; rw [e] at h; simp [blkOf] at h)
    have hc : slC { ss[i] with xs := xs } = slC ss[i] := by simp [slC, Sl.val, hx]
    have : rowC slC (ss.set i { ss[i] with xs := xs }) = rowC slC ss := by
      rw [← rowC_set (sz := 1) (fun _ => rfl) ss i _ hi, hc]
      have := rowC_set (sz := 1) (c := slC) (fun _ => rfl) ss i ss[i] hi
      rw [this, List.set_getElem_self]
    rw [this, List.length_set]; exact h1
  · intro j hj
    rw [List.getElem_set]
    split
    · rename_i e; subst e; simp only []; rw [hx]; exact ho
    · rename_i e
      have hj' : j < ss.length := by simpa using hj
      refine (h.each j hj').upd u ?_
      rcases h.apart i j hi hj' e with h1 | h1
      · rw [h1] at hb; cases hb
      · rw [hb] at h1; intro e2; rw [e2] at h1; simp [blkOf] at h1
  · intro j k hj hk hjk
    rw [hget, hget]; exact h.apart j k _ _ hjk
  · intro j hj
    rw [hget]; exact h.off j _
def swapL {α : Type} (l : List α) (i j : Nat) : List α := match l[i]?, l[j]? with
  | some a, some b => (l.set i b).set j a
  | _, _ => l
theorem swapL_eq {α : Type} {l : List α} {i j : Nat} (hi : i < l.length) (hj : j < l.length) : swapL l i j = (l.set i l[j]).set j l[i] := by
  unfold swapL; rw [List.getElem?_eq_getElem hi, List.getElem?_eq_getElem hj]
theorem swapL_length {α : Type} (l : List α) (i j : Nat) : (swapL l i j).length = l.length := by unfold swapL; split <;> simp
/-- where an element of the changed list came from -/
def swp (i j k : Nat) : Nat := if k = j then i else if k = i then j else k
theorem swapL_get {α : Type} {l : List α} {i j : Nat} (hi : i < l.length) (hj : j < l.length) {k : Nat} (hk : k < (swapL l i j).length) : (swapL l i j)[k] = l[swp i j k]'(by rw [swapL_length] at hk; unfold swp; split; exact hi; split; exact hj; exact hk) := by
  simp only [swapL_eq hi hj, List.getElem_set, swp]
  by_cases h1 : j = k
  · subst h1; simp
  · rw [if_neg h1]
    by_cases h2 : i = k
    · subst h2
      simp [Ne.symm h1]
    · simp [Ne.symm h1, Ne.symm h2, h2]
theorem swp_inj {i j a b : Nat} (h : a ≠ b) : swp i j a ≠ swp i j b := by
  unfold swp; (repeat' split) <;> omega
theorem RwO.swap {w w' : World} {N : Nat} {base : Option Addr} {cap : Nat} {ss : List Sl} (h : RwO w N base cap ss) {i j g : Nat} (hi : i < ss.length) (hj : j < ss.length) (hg : base = some ⟨g, 0, none⟩) (gr : w.grownBy w' (some g))
    (ho : Own w' N 57 1 base ss.length cap (rowC slC (swapL ss i j))) : RwO w' N base cap (swapL ss i j) := by
  have hne : ∀ k (hk : k < ss.length), ss[k].base = none ∨ blkOf ss[k].base ≠ some g := by
    intro k hk
    have := h.off k hk
    rw [hg] at this
    simpa [blkOf] using this
  have hs : ∀ k, k < ss.length → swp i j k < ss.length := by
    intro k hk; unfold swp; split
    · exact hi
    · split
      · exact hj
      · exact hk
  refine ⟨by rw [swapL_length]; exact ho, ?_, ?_, ?_⟩
  · intro k hk
    have hk' : k < ss.length := by rwa [swapL_length] at hk
    rw [swapL_get hi hj hk]
    exact (h.each _ (hs k hk')).grown gr (hne _ (hs k hk'))
  · intro a b ha hb hab
    have ha' : a < ss.length := by rwa [swapL_length] at ha
    have hb' : b < ss.length := by rwa [swapL_length] at hb
    rw [swapL_get hi hj ha, swapL_get hi hj hb]
    exact h.apart _ _ (hs a ha') (hs b hb') (swp_inj hab)
  · intro a ha
    have ha' : a < ss.length := by rwa [swapL_length] at ha
    rw [swapL_get hi hj ha]
    exact h.off _ (hs a ha')
end Go.Proofs
