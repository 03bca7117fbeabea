/-
  L24: a part of the proof. By an AI agent.
-/
import Derived.Test.YtpeihahmhpamoaaGreatVQ
import Derived.Test.YtpeihahmhpamoaaGreatV10
import Derived.Test.YtpeihahmhpamoaaGreatL23
set_option linter.all false
namespace Go.Proofs
open Go.V
open Go.RowKit (Below)
/-! ### linear equations -/
def scaleM (by_ : Int) (r : List Int) : List Int := r.map fun a => a * by_ % 65521
def elimM (f : Int) (r p : List Int) : List Int := List.zipWith (fun a b => (a - f * b) % 65521) r p
def findP (rows : List (List Int)) (used c : Nat) : Option Nat := ((rows.drop used).findIdx? fun r => decide (r.getD c 0 ≠ 0)).map (· + used)
def elimAt (used c : Nat) (p : List Int) (rows : List (List Int)) (m : Nat) : List (List Int) := rows.mapIdx fun i r => if i < m ∧ ¬ (i = used ∨ r.getD c 0 = 0) then elimM (r.getD c 0) r p else r
def scaledM (rows : List (List Int)) (used c : Nat) : List Int := scaleM (powM ((rows.getD used []).getD c 0) 65519) (rows.getD used [])
def stepRows (rows : List (List Int)) (used pivot c : Nat) : List (List Int) :=
  let r1 := swapL rows used pivot
  elimAt used c (scaledM r1 used c) (r1.set used (scaledM r1 used c)) rows.length
def solveG : Nat → Nat → Nat → List (List Int) → List Int → Nat × List (List Int) × List Int
  | 0, _, used, rows, at_ => (used, rows, at_)
  | n + 1, c, used, rows, at_ => match findP rows used c with
    | none => solveG n (c + 1) used rows at_
    | some p => solveG n (c + 1) (used + 1) (stepRows rows used p c) (at_.set c ((used : Int) + 1))
def solveM (rows : List (List Int)) (many : Nat) : Option (List Int) :=
  let r := solveG many 0 0 rows (List.replicate many 0)
  if (r.2.1.drop r.1).any (fun x => decide (x.getD many 0 ≠ 0)) then none
  else some (r.2.2.map fun k => if 0 < k then (r.2.1.getD (k - 1).toNat []).getD many 0 else 0)
theorem slRow_set (ss : List Sl) (k : Nat) (s : Sl) : (rowC slC ss).set k s.val = rowC slC (ss.set k s) := by
  have h : ∀ l : List Sl, rowC slC l = l.map Sl.val := by
    intro l; induction l with
    | nil => rfl
    | cons a t ih => simp only [rowC, List.flatMap_cons, List.map_cons] at *; rw [ih]; rfl
  rw [h, h, List.map_set]
theorem rowsOf_set (ss : List Sl) (k : Nat) (s : Sl) : rowsOf (ss.set k s) = (rowsOf ss).set k s.xs := by simp [rowsOf, List.map_set]
theorem rowsOf_swap (ss : List Sl) {i j : Nat} (hi : i < ss.length) (hj : j < ss.length) : rowsOf (swapL ss i j) = swapL (rowsOf ss) i j := by
  rw [swapL_eq hi hj, swapL_eq (by rw [rowsOf_length]; exact hi) (by rw [rowsOf_length]; exact hj), rowsOf_set, rowsOf_set, rowsOf_get hi, rowsOf_get hj]
/-- each row is so long, of words -/
def RowsW (n : Nat) (rows : List (List Int)) : Prop := ∀ r ∈ rows, r.length = n ∧ isW r
theorem RowsW.set {n : Nat} {rows : List (List Int)} (h : RowsW n rows) (k : Nat) {r : List Int} (hr : r.length = n ∧ isW r) : RowsW n (rows.set k r) := by
  intro x hx
  rcases List.mem_or_eq_of_mem_set hx with h1 | h1
  · exact h x h1
  · subst h1; exact hr
theorem RowsW.swap {n : Nat} {rows : List (List Int)} (h : RowsW n rows) (i j : Nat) : RowsW n (swapL rows i j) := by
  unfold swapL
  split
  · rename_i a b ha hb
    exact (h.set i (h b (List.mem_of_getElem? hb))).set j (h a (List.mem_of_getElem? ha))
  · exact h
theorem scaleM_ok {n : Nat} (by_ : Int) {r : List Int} (h : r.length = n) : (scaleM by_ r).length = n ∧ isW (scaleM by_ r) := by
  refine ⟨by simp [scaleM, h], ?_⟩
  intro x hx
  simp only [scaleM, List.mem_map] at hx
  obtain ⟨y, _, rfl⟩ := hx
  omega
theorem elimM_ok {n : Nat} (f : Int) {r p : List Int} (h : r.length = n) (hp : p.length = n) : (elimM f r p).length = n ∧ isW (elimM f r p) := by
  refine ⟨by simp [elimM, h, hp], ?_⟩
  intro x hx
  unfold elimM at hx
  rw [List.mem_iff_getElem] at hx
  obtain ⟨i, hi, rfl⟩ := hx
  simp
  omega
theorem elimAt_length (used c : Nat) (p : List Int) (rows : List (List Int)) (m : Nat) : (elimAt used c p rows m).length = rows.length := by simp [elimAt]
theorem elimAt_get (used c : Nat) (p : List Int) (rows : List (List Int)) (m : Nat) {i : Nat} (hi : i < rows.length) : (elimAt used c p rows m)[i]'(by rw [elimAt_length]; exact hi) = if i < m ∧ ¬ (i = used ∨ rows[i].getD c 0 = 0) then elimM (rows[i].getD c 0) rows[i] p else rows[i] := by simp [elimAt]
theorem elimAt_ok {n used c m : Nat} {p : List Int} {rows : List (List Int)} (h : RowsW n rows) (hp : p.length = n) : RowsW n (elimAt used c p rows m) := by
  intro r hr
  obtain ⟨i, hi, rfl⟩ := List.mem_iff_getElem.1 hr
  rw [elimAt_length] at hi
  rw [elimAt_get used c p rows m hi]
  have := h _ (List.getElem_mem hi)
  split
  · exact elimM_ok _ this.1 hp
  · exact this
theorem elimAt_zero (used c : Nat) (p : List Int) (rows : List (List Int)) : elimAt used c p rows 0 = rows := by
  apply List.ext_getElem (by rw [elimAt_length])
  intro i h1 h2
  rw [elimAt_get used c p rows 0 h2, if_neg (by omega)]
theorem elimAt_skip {used c : Nat} {p : List Int} {rows : List (List Int)} {m : Nat} (hm : m < rows.length) (h : m = used ∨ rows[m].getD c 0 = 0) : elimAt used c p rows (m + 1) = elimAt used c p rows m := by
  apply List.ext_getElem (by rw [elimAt_length, elimAt_length])
  intro i h1 h2
  have hi : i < rows.length := by rwa [elimAt_length] at h2
  rw [elimAt_get used c p rows _ hi, elimAt_get used c p rows _ hi]
  by_cases e : i = m
  · subst e; rw [if_neg (fun x => x.2 h), if_neg (by omega)]
  · by_cases hlt : i < m
    · by_cases hh : (i = used ∨ rows[i].getD c 0 = 0)
      · rw [if_neg (fun x => x.2 hh), if_neg (fun x => x.2 hh)]
      · rw [if_pos ⟨by omega, hh⟩, if_pos ⟨hlt, hh⟩]
    · rw [if_neg (by omega), if_neg (by omega)]
theorem elimAt_step {used c : Nat} {p : List Int} {rows : List (List Int)} {m : Nat} (hm : m < rows.length) (h : ¬ (m = used ∨ rows[m].getD c 0 = 0)) : elimAt used c p rows (m + 1) = (elimAt used c p rows m).set m (elimM (rows[m].getD c 0) rows[m] p) := by
  apply List.ext_getElem (by rw [List.length_set, elimAt_length, elimAt_length])
  intro i h1 h2
  have hi : i < rows.length := by rwa [List.length_set, elimAt_length] at h2
  rw [elimAt_get used c p rows _ hi, List.getElem_set]
  by_cases e : m = i
  · subst e; rw [if_pos ⟨by omega, h⟩, if_pos rfl]
  · rw [if_neg e, elimAt_get used c p rows _ hi]
    by_cases hlt : i < m
    · by_cases hh : (i = used ∨ rows[i].getD c 0 = 0)
      · rw [if_neg (fun x => x.2 hh), if_neg (fun x => x.2 hh)]
      · rw [if_pos ⟨by omega, hh⟩, if_pos ⟨hlt, hh⟩]
    · rw [if_neg (by omega), if_neg (by omega)]
theorem elimAt_rest {used c : Nat} {p : List Int} {rows : List (List Int)} {m i : Nat} (hi : i < rows.length) (h : m ≤ i ∨ i = used) : (elimAt used c p rows m)[i]'(by rw [elimAt_length]; exact hi) = rows[i] := by
  rw [elimAt_get used c p rows m hi, if_neg]
  rintro ⟨h1, h2⟩
  rcases h with h | h
  · omega
  · exact h2 (.inl h)
/-- the first so many elements are changed -/
def partAt (g : Int → Int) (r : List Int) (k : Nat) : List Int := (r.take k).map g ++ r.drop k
theorem partAt_next {g : Int → Int} {r : List Int} {k : Nat} (hk : k < r.length) : (partAt g r k)[k]? = some r[k] ∧ (partAt g r k).set k (g r[k]) = partAt g r (k + 1) := by
  unfold partAt
  rw [List.take_succ_eq_append_getElem hk, List.drop_eq_getElem_cons hk, List.map_append]
  exact mid_get _ _ _ _ _ (by simp; omega)
theorem partAt_length {g : Int → Int} {r : List Int} {k : Nat} (hk : k ≤ r.length) : (partAt g r k).length = r.length := by simp [partAt]; omega
theorem partAt_zero (g : Int → Int) (r : List Int) : partAt g r 0 = r := by simp [partAt]
theorem partAt_all (g : Int → Int) (r : List Int) : partAt g r r.length = r.map g := by simp [partAt]
def part2 (f : Int) (r p : List Int) (k : Nat) : List Int := elimM f (r.take k) (p.take k) ++ r.drop k
theorem part2_next {f : Int} {r p : List Int} {k : Nat} (hl : p.length = r.length) (hk : k < r.length) : (part2 f r p k)[k]? = some r[k] ∧ (part2 f r p k).set k ((r[k] - f * p[k]) % 65521) = part2 f r p (k + 1) := by
  unfold part2
  have e : elimM f (r.take (k + 1)) (p.take (k + 1)) = elimM f (r.take k) (p.take k) ++ [(r[k] - f * p[k]) % 65521] := by
    rw [List.take_succ_eq_append_getElem hk, List.take_succ_eq_append_getElem (by omega)]
    unfold elimM
    rw [List.zipWith_append (by simp; omega)]
    rfl
  rw [e, List.drop_eq_getElem_cons hk]
  exact mid_get _ _ _ _ _ (by simp [elimM]; omega)
theorem part2_length {f : Int} {r p : List Int} {k : Nat} (hl : p.length = r.length) (hk : k ≤ r.length) : (part2 f r p k).length = r.length := by simp [part2, elimM]; omega
theorem part2_zero (f : Int) (r p : List Int) : part2 f r p 0 = r := by simp [part2, elimM]
theorem part2_all {f : Int} {r p : List Int} (hl : p.length = r.length) : part2 f r p r.length = elimM f r p := by
  unfold part2; rw [List.take_length, ← hl, List.take_length, hl, List.drop_length, List.append_nil]
end Go.Proofs
