/-
  L2: a part of the proof. By an AI agent.
-/
import Derived.Test.YtpeihahmhpamoaaGreatVQ
import Derived.Test.YtpeihahmhpamoaaGreatV9
import Derived.Test.YtpeihahmhpamoaaGreatL1
set_option linter.all false
namespace Go.Proofs
open Go.V
open Go.RowKit (Below)
def backL (xs : List Int) : List (List Value) := (List.range xs.length).map fun i => [.int .i64 ((xs.length - 1 - i : Nat) : Int), .int .i64 (xs.getD (xs.length - 1 - i) 0)]
theorem Tryz.backward1 (base : Option Addr) (cap : Nat) (xs : List Int) (b : Nat) (I : World → Prop) (hI : ∀ u, I u → u.cell? ⟨b, 0, none⟩ = some (.slice base xs.length cap) ∧ Row u base (ints xs)) (hE : ExK I) (hl : xs.length < 140737488355328) :
    Iter Tryz.prog 141 (fun y => [y, .pointer (some ⟨b, 0, none⟩)]) (backL xs) I := by
  intro l J Jx hJ hJx hy u0 h0 hI0
  have hI0' := hI _ hI0
  have hcell := hI0'.1
  have hlen : (backL xs).length = xs.length := by simp [backL]
  refine callA_intro Tryz.tbOk Tryz.func141 rfl Tryz.ntmps141 Tryz.results141 (by decide) (by simp) ?_
  ((conv => whnf); repeat' (first | ((with_reducible first | refine q1 ?_ | refine q2 ?_); conv => whnf) | (with_reducible refine q3 ?_) | ((with_reducible refine q4 (fun _ => ?_) (fun _ => ?_)) <;> first | (exfalso; omega) | (conv => whnf)) | ((with_reducible first | refine q5 ?_ | refine q6 ?_ | refine q7 ?_ | refine q8 ?_ | refine q9 ?_ | refine q10 ?_ | refine q11 ?_ | refine q12 ?_ | refine q13 ?_ | refine q14 ?_ | refine q15 ?_); conv => whnf) | ((refine q16 (fun _ _ _ _ _ => ?_)); conv => whnf) | ((with_reducible first | refine q17 ?_ | refine q18 ?_ | refine q19 ?_ | refine q20 ?_); conv => whnf)))
  refine loop_rule Tryz.tbOk (Nat × Int) [3] (fun | (_, j) => [.int .i64 j]) (fun | (k, j), w' => k ≤ xs.length ∧ j = (xs.length : Int) - 1 - k ∧ J k w' ∧ I w') (fun | (k, _) => xs.length - k) (0, (xs.length : Int) - 1) rfl ⟨by omega, by omega, h0, hI0⟩ ?_
  rintro ⟨k, j⟩ w' ⟨hk, hj, hJk, hIk⟩ u
  obtain ⟨hc, hr⟩ := hI _ hIk
  by_cases hlt : k < xs.length
  · ((conv => whnf); repeat' (first | ((with_reducible first | refine q1 ?_ | refine q2 ?_); conv => whnf) | (with_reducible refine q3 ?_) | ((with_reducible refine q4 (fun _ => ?_) (fun _ => ?_)) <;> first | (exfalso; omega) | (conv => whnf)) | ((with_reducible first | refine q5 ?_ | refine q6 ?_ | refine q7 ?_ | refine q8 ?_ | refine q9 ?_ | refine q10 ?_ | refine q11 ?_ | refine q12 ?_ | refine q13 ?_ | refine q14 ?_ | refine q15 ?_); conv => whnf) | ((refine q16 (fun _ _ _ _ _ => ?_)); conv => whnf) | ((with_reducible first | refine q17 ?_ | refine q18 ?_ | refine q19 ?_ | refine q20 ?_); conv => whnf)))
    refine IdxA.ints hr rfl (xs.length - 1 - k) (by omega) (by omega) (fun _ _ _ _ => ?_)
    ((conv => whnf); repeat' (first | ((with_reducible first | refine q1 ?_ | refine q2 ?_); conv => whnf) | (with_reducible refine q3 ?_) | ((with_reducible refine q4 (fun _ => ?_) (fun _ => ?_)) <;> first | (exfalso; omega) | (conv => whnf)) | ((with_reducible first | refine q5 ?_ | refine q6 ?_ | refine q7 ?_ | refine q8 ?_ | refine q9 ?_ | refine q10 ?_ | refine q11 ?_ | refine q12 ?_ | refine q13 ?_ | refine q14 ?_ | refine q15 ?_); conv => whnf) | ((refine q16 (fun _ _ _ _ _ => ?_)); conv => whnf) | ((with_reducible first | refine q17 ?_ | refine q18 ?_ | refine q19 ?_ | refine q20 ?_); conv => whnf)))
    have hyk := hy k (by omega) w' hJk hIk
    have hget : (backL xs)[k]'(by omega) = [.int .i64 j, .int .i64 (xs[xs.length - 1 - k]'(by omega))] := by
      simp [backL, show xs.length - 1 - k < xs.length by omega]; omega
    rw [hget] at hyk
    refine YieldA.mono hyk ?_
    rintro v w1 (⟨rfl, hJ1, hI1⟩ | ⟨rfl, hJx1⟩)
    · ((conv => whnf); repeat' (first | ((with_reducible first | refine q1 ?_ | refine q2 ?_); conv => whnf) | (with_reducible refine q3 ?_) | ((with_reducible refine q4 (fun _ => ?_) (fun _ => ?_)) <;> first | (exfalso; omega) | (conv => whnf)) | ((with_reducible first | refine q5 ?_ | refine q6 ?_ | refine q7 ?_ | refine q8 ?_ | refine q9 ?_ | refine q10 ?_ | refine q11 ?_ | refine q12 ?_ | refine q13 ?_ | refine q14 ?_ | refine q15 ?_); conv => whnf) | ((refine q16 (fun _ _ _ _ _ => ?_)); conv => whnf) | ((with_reducible first | refine q17 ?_ | refine q18 ?_ | refine q19 ?_ | refine q20 ?_); conv => whnf)))
      exact ⟨(k + 1, j - 1), rfl, ⟨by omega, by omega, hJ1, hI1⟩, by simp only []; omega⟩
    · ((conv => whnf); repeat' (first | ((with_reducible first | refine q1 ?_ | refine q2 ?_); conv => whnf) | (with_reducible refine q3 ?_) | ((with_reducible refine q4 (fun _ => ?_) (fun _ => ?_)) <;> first | (exfalso; omega) | (conv => whnf)) | ((with_reducible first | refine q5 ?_ | refine q6 ?_ | refine q7 ?_ | refine q8 ?_ | refine q9 ?_ | refine q10 ?_ | refine q11 ?_ | refine q12 ?_ | refine q13 ?_ | refine q14 ?_ | refine q15 ?_); conv => whnf) | ((refine q16 (fun _ _ _ _ _ => ?_)); conv => whnf) | ((with_reducible first | refine q17 ?_ | refine q18 ?_ | refine q19 ?_ | refine q20 ?_); conv => whnf)))
      exact .inr hJx1
  · ((conv => whnf); repeat' (first | ((with_reducible first | refine q1 ?_ | refine q2 ?_); conv => whnf) | (with_reducible refine q3 ?_) | ((with_reducible refine q4 (fun _ => ?_) (fun _ => ?_)) <;> first | (exfalso; omega) | (conv => whnf)) | ((with_reducible first | refine q5 ?_ | refine q6 ?_ | refine q7 ?_ | refine q8 ?_ | refine q9 ?_ | refine q10 ?_ | refine q11 ?_ | refine q12 ?_ | refine q13 ?_ | refine q14 ?_ | refine q15 ?_); conv => whnf) | ((refine q16 (fun _ _ _ _ _ => ?_)); conv => whnf) | ((with_reducible first | refine q17 ?_ | refine q18 ?_ | refine q19 ?_ | refine q20 ?_); conv => whnf)))
    have : k = xs.length := by omega
    subst this
    left
    rw [hlen]; exact hJk
theorem Tryz.backward (base : Option Addr) (cap n : Nat) (w : World) : CallA Tryz.prog 116 [.slice base n cap] w fun v w' => ∃ b, b = w.heap.size ∧ v = .func (.func 141) #[] #[.pointer (some ⟨b, 0, none⟩)] ∧ w'.cell? ⟨b, 0, none⟩ = some (.slice base n cap) ∧ Ex w w' := by
  refine callA_intro Tryz.tbOk Tryz.func116 rfl Tryz.ntmps116 Tryz.results116 (by decide) (by simp) ?_
  ((conv => whnf); repeat' (first | ((with_reducible first | refine q1 ?_ | refine q2 ?_); conv => whnf) | (with_reducible refine q3 ?_) | ((with_reducible refine q4 (fun _ => ?_) (fun _ => ?_)) <;> first | (exfalso; omega) | (conv => whnf)) | ((with_reducible first | refine q5 ?_ | refine q6 ?_ | refine q7 ?_ | refine q8 ?_ | refine q9 ?_ | refine q10 ?_ | refine q11 ?_ | refine q12 ?_ | refine q13 ?_ | refine q14 ?_ | refine q15 ?_); conv => whnf) | ((refine q16 (fun _ _ _ _ _ => ?_)); conv => whnf) | ((with_reducible first | refine q17 ?_ | refine q18 ?_ | refine q19 ?_ | refine q20 ?_); conv => whnf)))
  refine NewA.mk' fun w1 b hb hs he hB => ?_
  ((conv => whnf); repeat' (first | ((with_reducible first | refine q1 ?_ | refine q2 ?_); conv => whnf) | (with_reducible refine q3 ?_) | ((with_reducible refine q4 (fun _ => ?_) (fun _ => ?_)) <;> first | (exfalso; omega) | (conv => whnf)) | ((with_reducible first | refine q5 ?_ | refine q6 ?_ | refine q7 ?_ | refine q8 ?_ | refine q9 ?_ | refine q10 ?_ | refine q11 ?_ | refine q12 ?_ | refine q13 ?_ | refine q14 ?_ | refine q15 ?_); conv => whnf) | ((refine q16 (fun _ _ _ _ _ => ?_)); conv => whnf) | ((with_reducible first | refine q17 ?_ | refine q18 ?_ | refine q19 ?_ | refine q20 ?_); conv => whnf)))
  exact ⟨b, hb, rfl, hB.cell 0, he⟩
/-- the value of a polynomial at x -/
def valM (c : List Int) (x : Int) : Int := c.foldr (fun n out => (out * x + n) % 65521) 0
theorem valM_drop {xs : List Int} {x : Int} {k : Nat} (hk : k < xs.length) : valM (xs.drop (xs.length - (k + 1))) x = (valM (xs.drop (xs.length - k)) x * x + xs[xs.length - 1 - k]'(by omega)) % 65521 := by
  rw [show xs.length - (k + 1) = xs.length - 1 - k by omega, List.drop_eq_getElem_cons (by omega), show xs.length - 1 - k + 1 = xs.length - k by omega]
  rfl
theorem valM_range (c : List Int) (x : Int) : 0 ≤ valM c x ∧ valM c x < 65521 := by
  cases c with
  | nil => simp [valM]
  | cons a r => simp only [valM, List.foldr_cons]; omega
def wordB (n : Int) : Bool := decide (0 ≤ n ∧ n ≤ 65520)
theorem Tryz.value (base : Option Addr) (cap : Nat) (xs : List Int) (x : Int) (w : World) (hr : Row w base (ints xs)) (hl : xs.length < 140737488355328) (hw : ∀ n ∈ xs, 0 ≤ n ∧ n ≤ 65520) (hx : 0 ≤ x ∧ x ≤ 65520) :
    CallA Tryz.prog 73 [.slice base xs.length cap, .int .i64 x] w fun v w' => v = .int .i64 (valM xs x) ∧ Ex w w' := by
  refine callA_intro Tryz.tbOk Tryz.func73 rfl Tryz.ntmps73 Tryz.results73 (by decide) (by simp) ?_
  ((conv => whnf); repeat' (first | ((with_reducible first | refine q1 ?_ | refine q2 ?_); conv => whnf) | (with_reducible refine q3 ?_) | ((with_reducible refine q4 (fun _ => ?_) (fun _ => ?_)) <;> first | (exfalso; omega) | (conv => whnf)) | ((with_reducible first | refine q5 ?_ | refine q6 ?_ | refine q7 ?_ | refine q8 ?_ | refine q9 ?_ | refine q10 ?_ | refine q11 ?_ | refine q12 ?_ | refine q13 ?_ | refine q14 ?_ | refine q15 ?_); conv => whnf) | ((refine q16 (fun _ _ _ _ _ => ?_)); conv => whnf) | ((with_reducible first | refine q17 ?_ | refine q18 ?_ | refine q19 ?_ | refine q20 ?_); conv => whnf)))
  refine NewA.mk' fun w1 b3 hb3 hs1 he1 hB3 => ?_
  ((conv => whnf); repeat' (first | ((with_reducible first | refine q1 ?_ | refine q2 ?_); conv => whnf) | (with_reducible refine q3 ?_) | ((with_reducible refine q4 (fun _ => ?_) (fun _ => ?_)) <;> first | (exfalso; omega) | (conv => whnf)) | ((with_reducible first | refine q5 ?_ | refine q6 ?_ | refine q7 ?_ | refine q8 ?_ | refine q9 ?_ | refine q10 ?_ | refine q11 ?_ | refine q12 ?_ | refine q13 ?_ | refine q14 ?_ | refine q15 ?_); conv => whnf) | ((refine q16 (fun _ _ _ _ _ => ?_)); conv => whnf) | ((with_reducible first | refine q17 ?_ | refine q18 ?_ | refine q19 ?_ | refine q20 ?_); conv => whnf)))
  refine NewA.mk' fun w2 b5 hb5 hs2 he2 hB5 => ?_
  ((conv => whnf); repeat' (first | ((with_reducible first | refine q1 ?_ | refine q2 ?_); conv => whnf) | (with_reducible refine q3 ?_) | ((with_reducible refine q4 (fun _ => ?_) (fun _ => ?_)) <;> first | (exfalso; omega) | (conv => whnf)) | ((with_reducible first | refine q5 ?_ | refine q6 ?_ | refine q7 ?_ | refine q8 ?_ | refine q9 ?_ | refine q10 ?_ | refine q11 ?_ | refine q12 ?_ | refine q13 ?_ | refine q14 ?_ | refine q15 ?_); conv => whnf) | ((refine q16 (fun _ _ _ _ _ => ?_)); conv => whnf) | ((with_reducible first | refine q17 ?_ | refine q18 ?_ | refine q19 ?_ | refine q20 ?_); conv => whnf)))
  refine StoreA.one (cs := [.int .i64 0]) hB5 (by simp) rfl fun w3 hu3 hB5' => ?_
  ((conv => whnf); repeat' (first | ((with_reducible first | refine q1 ?_ | refine q2 ?_); conv => whnf) | (with_reducible refine q3 ?_) | ((with_reducible refine q4 (fun _ => ?_) (fun _ => ?_)) <;> first | (exfalso; omega) | (conv => whnf)) | ((with_reducible first | refine q5 ?_ | refine q6 ?_ | refine q7 ?_ | refine q8 ?_ | refine q9 ?_ | refine q10 ?_ | refine q11 ?_ | refine q12 ?_ | refine q13 ?_ | refine q14 ?_ | refine q15 ?_); conv => whnf) | ((refine q16 (fun _ _ _ _ _ => ?_)); conv => whnf) | ((with_reducible first | refine q17 ?_ | refine q18 ?_ | refine q19 ?_ | refine q20 ?_); conv => whnf)))
  refine CallA.mono (Tryz.backward _ _ _ _) ?_; rintro v w4 ⟨b9, hb9, rfl, hc9, he4⟩; ((conv => whnf); repeat' (first | ((with_reducible first | refine q1 ?_ | refine q2 ?_); conv => whnf) | (with_reducible refine q3 ?_) | ((with_reducible refine q4 (fun _ => ?_) (fun _ => ?_)) <;> first | (exfalso; omega) | (conv => whnf)) | ((with_reducible first | refine q5 ?_ | refine q6 ?_ | refine q7 ?_ | refine q8 ?_ | refine q9 ?_ | refine q10 ?_ | refine q11 ?_ | refine q12 ?_ | refine q13 ?_ | refine q14 ?_ | refine q15 ?_); conv => whnf) | ((refine q16 (fun _ _ _ _ _ => ?_)); conv => whnf) | ((with_reducible first | refine q17 ?_ | refine q18 ?_ | refine q19 ?_ | refine q20 ?_); conv => whnf)))
  have he : Ex w w4 := ((he1.tr he2).upd hu3 (by omega)).tr he4
  have hB3' : Blk w4 b3 [.int .i64 x] 3 := (hu3.blk (hB3.ex he2) (by omega)).ex he4
  have hs := he4.size
  have hs3 := hu3.size
  refine range_rule Tryz.tbOk (gf := 141) (first := #[]) (cap := #[.pointer (some ⟨b9, 0, none⟩)]) rfl (backL xs)
    (fun u => u.cell? ⟨b9, 0, none⟩ = some (.slice base xs.length cap) ∧ Ex w u)
    (Tryz.backward1 base cap xs b9 _ (fun u hu => ⟨hu.1, hr.ex hu.2⟩) (fun u u' h e => ⟨e.cell h.1, h.2.tr e⟩) hl)
    (fun i u => Blk u b5 [.int .i64 (valM (xs.drop (xs.length - i)) x)] 3 ∧ Blk u b3 [.int .i64 x] 3 ∧ Ex w u ∧ w4.heap.size ≤ u.heap.size)
    (fun _ _ => False)
    (fun u u' h e => ⟨e.cell h.1, h.2.st e he.size⟩) (fun i u u' h e => ⟨e.blk h.1, e.blk h.2.1, h.2.2.1.st e he.size, Nat.le_trans h.2.2.2 e.size⟩) (fun _ _ _ h _ => h.elim)
    ⟨⟨by rw [Nat.sub_zero, List.drop_length]; exact hB5'.ex he4, hB3', he, Nat.le_refl _⟩, hc9, he⟩
    (fun i u h => h.2.2.2) (fun _ _ h => h.elim) ?_ ?_ (fun _ _ _ h => h.elim)
  · rintro i hi l u ⟨hJ1, hJ2, hJ3, hJ4⟩ ⟨hI1, hI2⟩
    have hlen : (backL xs).length = xs.length := by simp [backL]
    have hi' : i < xs.length := by omega
    have hget : (backL xs)[i]'hi = [.int .i64 ((xs.length - 1 - i : Nat) : Int), .int .i64 (xs[xs.length - 1 - i]'(by omega))] := by
      simp [backL, show xs.length - 1 - i < xs.length by omega]
    rw [hget]
    ((conv => whnf); repeat' (first | ((with_reducible first | refine q1 ?_ | refine q2 ?_); conv => whnf) | (with_reducible refine q3 ?_) | ((with_reducible refine q4 (fun _ => ?_) (fun _ => ?_)) <;> first | (exfalso; omega) | (conv => whnf)) | ((with_reducible first | refine q5 ?_ | refine q6 ?_ | refine q7 ?_ | refine q8 ?_ | refine q9 ?_ | refine q10 ?_ | refine q11 ?_ | refine q12 ?_ | refine q13 ?_ | refine q14 ?_ | refine q15 ?_); conv => whnf) | ((refine q16 (fun _ _ _ _ _ => ?_)); conv => whnf) | ((with_reducible first | refine q17 ?_ | refine q18 ?_ | refine q19 ?_ | refine q20 ?_); conv => whnf)))
    refine ⟨rfl, KO.refl _, hJ4, fun u3 hst => ?_⟩
    have hB5'' := hst.blk hJ1
    have hB3'' := hst.blk hJ2
    have hm := valM_range (xs.drop (xs.length - i)) x
    have hg := hw _ (List.getElem_mem (show xs.length - 1 - i < xs.length by omega))
    have hmul := mul_word hm (show 0 ≤ x ∧ x < 65521 by omega)
    ((conv => whnf); repeat' (first | ((with_reducible first | refine q1 ?_ | refine q2 ?_); conv => whnf) | (with_reducible refine q3 ?_) | ((with_reducible refine q4 (fun _ => ?_) (fun _ => ?_)) <;> first | (exfalso; omega) | (conv => whnf)) | ((with_reducible first | refine q5 ?_ | refine q6 ?_ | refine q7 ?_ | refine q8 ?_ | refine q9 ?_ | refine q10 ?_ | refine q11 ?_ | refine q12 ?_ | refine q13 ?_ | refine q14 ?_ | refine q15 ?_); conv => whnf) | ((refine q16 (fun _ _ _ _ _ => ?_)); conv => whnf) | ((with_reducible first | refine q17 ?_ | refine q18 ?_ | refine q19 ?_ | refine q20 ?_); conv => whnf)))
    refine CallA.mono (Tryz.mod _ _ (by omega)) ?_; rintro v w1 ⟨rfl, rfl⟩; ((conv => whnf); repeat' (first | ((with_reducible first | refine q1 ?_ | refine q2 ?_); conv => whnf) | (with_reducible refine q3 ?_) | ((with_reducible refine q4 (fun _ => ?_) (fun _ => ?_)) <;> first | (exfalso; omega) | (conv => whnf)) | ((with_reducible first | refine q5 ?_ | refine q6 ?_ | refine q7 ?_ | refine q8 ?_ | refine q9 ?_ | refine q10 ?_ | refine q11 ?_ | refine q12 ?_ | refine q13 ?_ | refine q14 ?_ | refine q15 ?_); conv => whnf) | ((refine q16 (fun _ _ _ _ _ => ?_)); conv => whnf) | ((with_reducible first | refine q17 ?_ | refine q18 ?_ | refine q19 ?_ | refine q20 ?_); conv => whnf)))
    refine StoreA.one hB5'' (by simp) rfl fun u4 hu4 hB6 => ?_
    ((conv => whnf); repeat' (first | ((with_reducible first | refine q1 ?_ | refine q2 ?_); conv => whnf) | (with_reducible refine q3 ?_) | ((with_reducible refine q4 (fun _ => ?_) (fun _ => ?_)) <;> first | (exfalso; omega) | (conv => whnf)) | ((with_reducible first | refine q5 ?_ | refine q6 ?_ | refine q7 ?_ | refine q8 ?_ | refine q9 ?_ | refine q10 ?_ | refine q11 ?_ | refine q12 ?_ | refine q13 ?_ | refine q14 ?_ | refine q15 ?_); conv => whnf) | ((refine q16 (fun _ _ _ _ _ => ?_)); conv => whnf) | ((with_reducible first | refine q17 ?_ | refine q18 ?_ | refine q19 ?_ | refine q20 ?_); conv => whnf)))
    refine ⟨KO.upd hu4 hB5'', ⟨?_, hu4.blk hB3'' (by omega), (hJ3.st hst he.size).upd hu4 (by omega), by rw [hu4.size]; exact Nat.le_trans hJ4 hst.size⟩, ?_, (hJ3.st hst he.size).upd hu4 (by omega)⟩
    · rw [valM_drop hi']; exact hB6
    · have := hst.cell hI1
      have hlt := World.block_lt_of_cell? _ _ hI1
      have hne : b9 ≠ b5 := by omega
      rw [World.cell?_of_block (hu4.other b9 hne)]
      exact this
  · rintro r u ⟨hJ1, hJ2, hJ3, hJ4⟩ hr1 hr2
    ((conv => whnf); repeat' (first | ((with_reducible first | refine q1 ?_ | refine q2 ?_); conv => whnf) | (with_reducible refine q3 ?_) | ((with_reducible refine q4 (fun _ => ?_) (fun _ => ?_)) <;> first | (exfalso; omega) | (conv => whnf)) | ((with_reducible first | refine q5 ?_ | refine q6 ?_ | refine q7 ?_ | refine q8 ?_ | refine q9 ?_ | refine q10 ?_ | refine q11 ?_ | refine q12 ?_ | refine q13 ?_ | refine q14 ?_ | refine q15 ?_); conv => whnf) | ((refine q16 (fun _ _ _ _ _ => ?_)); conv => whnf) | ((with_reducible first | refine q17 ?_ | refine q18 ?_ | refine q19 ?_ | refine q20 ?_); conv => whnf)))
    refine TakeA.mk' hr2 hr1 fun u' hst => ?_
    ((conv => whnf); repeat' (first | ((with_reducible first | refine q1 ?_ | refine q2 ?_); conv => whnf) | (with_reducible refine q3 ?_) | ((with_reducible refine q4 (fun _ => ?_) (fun _ => ?_)) <;> first | (exfalso; omega) | (conv => whnf)) | ((with_reducible first | refine q5 ?_ | refine q6 ?_ | refine q7 ?_ | refine q8 ?_ | refine q9 ?_ | refine q10 ?_ | refine q11 ?_ | refine q12 ?_ | refine q13 ?_ | refine q14 ?_ | refine q15 ?_); conv => whnf) | ((refine q16 (fun _ _ _ _ _ => ?_)); conv => whnf) | ((with_reducible first | refine q17 ?_ | refine q18 ?_ | refine q19 ?_ | refine q20 ?_); conv => whnf)))
    refine ⟨?_, hJ3.st hst he.size⟩
    simp [backL]
theorem Tryz.word' (P : Int → Bool) (hP : P = wordB) (xs : List Int) : PredA Tryz.prog 63 [] (Value.int .i64) xs P fun _ => True := by
  intro x _ w _
  refine CallA.mono (Tryz.word x w) ?_
  rintro v w' ⟨rfl, rfl⟩
  exact ⟨by rw [hP]; rfl, Ex.refl _⟩
def words (xs : List Int) : Bool := xs.all wordB
theorem words_spec {xs : List Int} (h : words xs = true) : ∀ n ∈ xs, 0 ≤ n ∧ n ≤ 65520 := by
  intro n hn
  have := List.all_eq_true.1 h n hn
  simpa [wordB] using this
theorem Tryz.ValueF (base : Option Addr) (cap : Nat) (xs : List Int) (x : Int) (w : World) (hr : Row w base (ints xs)) (hl : xs.length < 140737488355328) :
    CallA Tryz.prog 31 [.slice base xs.length cap, .int .i64 x] w fun v w' => v = (if 600 < xs.length then .tuple #[.int .i64 0, .int .i64 2] else if wordB x && words xs then .tuple #[.int .i64 (valM xs x), .int .i64 0] else .tuple #[.int .i64 0, .int .i64 1]) ∧ Ex w w' := by
  refine callA_intro Tryz.tbOk Tryz.func31 rfl Tryz.ntmps31 Tryz.results31 (by decide) (by simp) ?_
  ((conv => whnf); repeat' (first | ((with_reducible first | refine q1 ?_ | refine q2 ?_); conv => whnf) | (with_reducible refine q3 ?_) | ((with_reducible refine q4 (fun _ => ?_) (fun _ => ?_)) <;> first | (exfalso; omega) | (conv => whnf)) | ((with_reducible first | refine q5 ?_ | refine q6 ?_ | refine q7 ?_ | refine q8 ?_ | refine q9 ?_ | refine q10 ?_ | refine q11 ?_ | refine q12 ?_ | refine q13 ?_ | refine q14 ?_ | refine q15 ?_); conv => whnf) | ((refine q16 (fun _ _ _ _ _ => ?_)); conv => whnf) | ((with_reducible first | refine q17 ?_ | refine q18 ?_ | refine q19 ?_ | refine q20 ?_); conv => whnf)))
  · rename_i h
    rw [if_pos (by omega)]
    exact ⟨rfl, Ex.refl w⟩
  · rename_i h
    rw [if_neg (by omega)]
    refine CallA.mono (Tryz.word _ _) ?_; rintro v w1 ⟨rfl, rfl⟩; ((conv => whnf); repeat' (first | ((with_reducible first | refine q1 ?_ | refine q2 ?_); conv => whnf) | (with_reducible refine q3 ?_) | ((with_reducible refine q4 (fun _ => ?_) (fun _ => ?_)) <;> first | (exfalso; omega) | (conv => whnf)) | ((with_reducible first | refine q5 ?_ | refine q6 ?_ | refine q7 ?_ | refine q8 ?_ | refine q9 ?_ | refine q10 ?_ | refine q11 ?_ | refine q12 ?_ | refine q13 ?_ | refine q14 ?_ | refine q15 ?_); conv => whnf) | ((refine q16 (fun _ _ _ _ _ => ?_)); conv => whnf) | ((with_reducible first | refine q17 ?_ | refine q18 ?_ | refine q19 ?_ | refine q20 ?_); conv => whnf)))
    · rename_i hx
      refine CallA.mono (Tryz.allInts _ _ xs _ wordB _ (Tryz.word' _ rfl xs) hr hl) ?_
      rintro v w1 ⟨rfl, he1⟩
      ((conv => whnf); repeat' (first | ((with_reducible first | refine q1 ?_ | refine q2 ?_); conv => whnf) | (with_reducible refine q3 ?_) | ((with_reducible refine q4 (fun _ => ?_) (fun _ => ?_)) <;> first | (exfalso; omega) | (conv => whnf)) | ((with_reducible first | refine q5 ?_ | refine q6 ?_ | refine q7 ?_ | refine q8 ?_ | refine q9 ?_ | refine q10 ?_ | refine q11 ?_ | refine q12 ?_ | refine q13 ?_ | refine q14 ?_ | refine q15 ?_); conv => whnf) | ((refine q16 (fun _ _ _ _ _ => ?_)); conv => whnf) | ((with_reducible first | refine q17 ?_ | refine q18 ?_ | refine q19 ?_ | refine q20 ?_); conv => whnf)))
      have hwx : wordB x = true := by simp [wordB, hx]
      have hr1 := hr.ex he1
      refine Br.var (fun h => ?_) (fun h => ?_)
      · ((conv => whnf); repeat' (first | ((with_reducible first | refine q1 ?_ | refine q2 ?_); conv => whnf) | (with_reducible refine q3 ?_) | ((with_reducible refine q4 (fun _ => ?_) (fun _ => ?_)) <;> first | (exfalso; omega) | (conv => whnf)) | ((with_reducible first | refine q5 ?_ | refine q6 ?_ | refine q7 ?_ | refine q8 ?_ | refine q9 ?_ | refine q10 ?_ | refine q11 ?_ | refine q12 ?_ | refine q13 ?_ | refine q14 ?_ | refine q15 ?_); conv => whnf) | ((refine q16 (fun _ _ _ _ _ => ?_)); conv => whnf) | ((with_reducible first | refine q17 ?_ | refine q18 ?_ | refine q19 ?_ | refine q20 ?_); conv => whnf)))
        refine CallA.mono (Tryz.value _ _ xs x _ hr1 hl (words_spec h) (by omega)) ?_; rintro v w2 ⟨rfl, he2⟩; ((conv => whnf); repeat' (first | ((with_reducible first | refine q1 ?_ | refine q2 ?_); conv => whnf) | (with_reducible refine q3 ?_) | ((with_reducible refine q4 (fun _ => ?_) (fun _ => ?_)) <;> first | (exfalso; omega) | (conv => whnf)) | ((with_reducible first | refine q5 ?_ | refine q6 ?_ | refine q7 ?_ | refine q8 ?_ | refine q9 ?_ | refine q10 ?_ | refine q11 ?_ | refine q12 ?_ | refine q13 ?_ | refine q14 ?_ | refine q15 ?_); conv => whnf) | ((refine q16 (fun _ _ _ _ _ => ?_)); conv => whnf) | ((with_reducible first | refine q17 ?_ | refine q18 ?_ | refine q19 ?_ | refine q20 ?_); conv => whnf)))
        exact ⟨by rw [hwx, if_pos (by simpa [words] using h)], he1.tr he2⟩
      · ((conv => whnf); repeat' (first | ((with_reducible first | refine q1 ?_ | refine q2 ?_); conv => whnf) | (with_reducible refine q3 ?_) | ((with_reducible refine q4 (fun _ => ?_) (fun _ => ?_)) <;> first | (exfalso; omega) | (conv => whnf)) | ((with_reducible first | refine q5 ?_ | refine q6 ?_ | refine q7 ?_ | refine q8 ?_ | refine q9 ?_ | refine q10 ?_ | refine q11 ?_ | refine q12 ?_ | refine q13 ?_ | refine q14 ?_ | refine q15 ?_); conv => whnf) | ((refine q16 (fun _ _ _ _ _ => ?_)); conv => whnf) | ((with_reducible first | refine q17 ?_ | refine q18 ?_ | refine q19 ?_ | refine q20 ?_); conv => whnf)))
        exact ⟨by rw [hwx, if_neg (by simpa [words] using h)], he1⟩
    · rename_i hx
      exact ⟨by rw [if_neg (by simp [wordB, hx])], Ex.refl _⟩
end Go.Proofs
