/-
  L7: a part of the proof. By an AI agent.
-/
import Derived.Test.YtpeihahmhpamoaaGreatVQ
import Derived.Test.YtpeihahmhpamoaaGreatV9
import Derived.Test.YtpeihahmhpamoaaGreatL6
set_option linter.all false
namespace Go.Proofs
open Go.V
open Go.RowKit (Below)
theorem take_eq_step {α : Type} {xs ys : List α} {k : Nat} (h : xs.take k = ys.take k) (h1 : k < xs.length) (h2 : k < ys.length) (h3 : xs[k] = ys[k]) : xs.take (k + 1) = ys.take (k + 1) := by
  rw [List.take_succ_eq_append_getElem h1, List.take_succ_eq_append_getElem h2, h, h3]
theorem Tryz.sameInts (bx by_ : Option Addr) (cx cy : Nat) (xs ys : List Int) (w : World) (hx : Row w bx (ints xs)) (hy : Row w by_ (ints ys)) (h1 : xs.length < 140737488355328) :
   CallA Tryz.prog 27 [.slice bx xs.length cx, .slice by_ ys.length cy] w fun v w' => v = .bool (decide (xs = ys)) ∧ Ex w w' := by
  refine callA_intro Tryz.tbOk Tryz.func27 rfl Tryz.ntmps27 Tryz.results27 (by decide) (by simp) ?_
  by_cases hlen : xs.length = ys.length
  · ((conv => whnf); repeat' (first | ((with_reducible first | refine q1 ?_ | refine q2 ?_); conv => whnf) | (with_reducible refine q3 ?_) | ((with_reducible refine q4 (fun _ => ?_) (fun _ => ?_)) <;> first | (exfalso; omega) | (conv => whnf)) | ((with_reducible first | refine q5 ?_ | refine q6 ?_ | refine q7 ?_ | refine q8 ?_ | refine q9 ?_ | refine q10 ?_ | refine q11 ?_ | refine q12 ?_ | refine q13 ?_ | refine q14 ?_ | refine q15 ?_); conv => whnf) | ((refine q16 (fun _ _ _ _ _ => ?_)); conv => whnf) | ((with_reducible first | refine q17 ?_ | refine q18 ?_ | refine q19 ?_ | refine q20 ?_); conv => whnf)))
    refine loop_rule Tryz.tbOk Nat [5] (fun k => [.int .i64 (k:Int)]) (fun k w' => k ≤ xs.length ∧ xs.take k = ys.take k ∧ Ex w w') (fun k => xs.length - k) 0 rfl ⟨by omega, by simp, Ex.refl w⟩ ?_
    rintro k w' ⟨hk, ht, he⟩ u
    have hx := hx.ex he
    have hy := hy.ex he
    ((conv => whnf); repeat' (first | ((with_reducible first | refine q1 ?_ | refine q2 ?_); conv => whnf) | (with_reducible refine q3 ?_) | ((with_reducible refine q4 (fun _ => ?_) (fun _ => ?_)) <;> first | (exfalso; omega) | (conv => whnf)) | ((with_reducible first | refine q5 ?_ | refine q6 ?_ | refine q7 ?_ | refine q8 ?_ | refine q9 ?_ | refine q10 ?_ | refine q11 ?_ | refine q12 ?_ | refine q13 ?_ | refine q14 ?_ | refine q15 ?_); conv => whnf) | ((refine q16 (fun _ _ _ _ _ => ?_)); conv => whnf) | ((with_reducible first | refine q17 ?_ | refine q18 ?_ | refine q19 ?_ | refine q20 ?_); conv => whnf)))
    · refine draw_rule Tryz.tbOk Tryz.mix (fun u => Ex w' u) (.take 0 (.take 1 (.take 2 (.take 3 (.take 4 (.take 5 (.take 6 (.take 7 (.take 8 (.done)))))))))) (by kernel_rfl) (by kernel_rfl) ?_
      intro w1 hd1
      refine ⟨hd1.ex, ?_⟩
      ((conv => whnf); repeat' (first | ((with_reducible first | refine q1 ?_ | refine q2 ?_); conv => whnf) | (with_reducible refine q3 ?_) | ((with_reducible refine q4 (fun _ => ?_) (fun _ => ?_)) <;> first | (exfalso; omega) | (conv => whnf)) | ((with_reducible first | refine q5 ?_ | refine q6 ?_ | refine q7 ?_ | refine q8 ?_ | refine q9 ?_ | refine q10 ?_ | refine q11 ?_ | refine q12 ?_ | refine q13 ?_ | refine q14 ?_ | refine q15 ?_); conv => whnf) | ((refine q16 (fun _ _ _ _ _ => ?_)); conv => whnf) | ((with_reducible first | refine q17 ?_ | refine q18 ?_ | refine q19 ?_ | refine q20 ?_); conv => whnf)))
      · rename_i h
        refine ⟨?_, he.tr hd1.ex⟩
        have : xs ≠ ys := fun e => h (by simp [e])
        simp [this]
      · rename_i h
        exact ⟨k + 1, rfl, ⟨by omega, take_eq_step ht (by omega) (by omega) (by simpa using h), he.tr hd1.ex⟩, by omega⟩
    · refine ⟨?_, he⟩
      have : xs = ys := by
        have h1 := List.take_of_length_le (show xs.length ≤ k by omega)
        have h2 := List.take_of_length_le (show ys.length ≤ k by omega)
        rw [← h1, ← h2, ht]
      simp [this]
  · ((conv => whnf); repeat' (first | ((with_reducible first | refine q1 ?_ | refine q2 ?_); conv => whnf) | (with_reducible refine q3 ?_) | ((with_reducible refine q4 (fun _ => ?_) (fun _ => ?_)) <;> first | (exfalso; omega) | (conv => whnf)) | ((with_reducible first | refine q5 ?_ | refine q6 ?_ | refine q7 ?_ | refine q8 ?_ | refine q9 ?_ | refine q10 ?_ | refine q11 ?_ | refine q12 ?_ | refine q13 ?_ | refine q14 ?_ | refine q15 ?_); conv => whnf) | ((refine q16 (fun _ _ _ _ _ => ?_)); conv => whnf) | ((with_reducible first | refine q17 ?_ | refine q18 ?_ | refine q19 ?_ | refine q20 ?_); conv => whnf)))
    refine ⟨?_, Ex.refl w⟩
    have : xs ≠ ys := fun e => hlen (by rw [e])
    simp [this]
theorem Tryz.equalInts (bx by_ : Option Addr) (cx cy : Nat) (xs ys : List Int) (w : World) (hx : Row w bx (ints xs)) (hy : Row w by_ (ints ys)) (h1 : xs.length < 140737488355328) :
   CallA Tryz.prog 88 [.slice bx xs.length cx, .slice by_ ys.length cy] w fun v w' => v = .bool (decide (xs = ys)) ∧ Ex w w' := by
  refine callA_intro Tryz.tbOk Tryz.func88 rfl Tryz.ntmps88 Tryz.results88 (by decide) (by simp) ?_
  by_cases hlen : xs.length = ys.length
  · ((conv => whnf); repeat' (first | ((with_reducible first | refine q1 ?_ | refine q2 ?_); conv => whnf) | (with_reducible refine q3 ?_) | ((with_reducible refine q4 (fun _ => ?_) (fun _ => ?_)) <;> first | (exfalso; omega) | (conv => whnf)) | ((with_reducible first | refine q5 ?_ | refine q6 ?_ | refine q7 ?_ | refine q8 ?_ | refine q9 ?_ | refine q10 ?_ | refine q11 ?_ | refine q12 ?_ | refine q13 ?_ | refine q14 ?_ | refine q15 ?_); conv => whnf) | ((refine q16 (fun _ _ _ _ _ => ?_)); conv => whnf) | ((with_reducible first | refine q17 ?_ | refine q18 ?_ | refine q19 ?_ | refine q20 ?_); conv => whnf)))
    refine loop_rule Tryz.tbOk Nat [13] (fun k => [.int .i64 (k:Int)]) (fun k w' => k ≤ xs.length ∧ xs.take k = ys.take k ∧ Ex w w') (fun k => xs.length - k) 0 rfl ⟨by omega, by simp, Ex.refl w⟩ ?_
    rintro k w' ⟨hk, ht, he⟩ u
    have hx := hx.ex he
    have hy := hy.ex he
    ((conv => whnf); repeat' (first | ((with_reducible first | refine q1 ?_ | refine q2 ?_); conv => whnf) | (with_reducible refine q3 ?_) | ((with_reducible refine q4 (fun _ => ?_) (fun _ => ?_)) <;> first | (exfalso; omega) | (conv => whnf)) | ((with_reducible first | refine q5 ?_ | refine q6 ?_ | refine q7 ?_ | refine q8 ?_ | refine q9 ?_ | refine q10 ?_ | refine q11 ?_ | refine q12 ?_ | refine q13 ?_ | refine q14 ?_ | refine q15 ?_); conv => whnf) | ((refine q16 (fun _ _ _ _ _ => ?_)); conv => whnf) | ((with_reducible first | refine q17 ?_ | refine q18 ?_ | refine q19 ?_ | refine q20 ?_); conv => whnf)))
    · refine draw_rule Tryz.tbOk Tryz.mix (fun u => Ex w' u) (.take 0 (.take 1 (.take 2 (.take 3 (.take 4 (.take 5 (.take 6 (.take 7 (.take 8 (.done)))))))))) (by kernel_rfl) (by kernel_rfl) ?_
      intro w1 hd1
      refine ⟨hd1.ex, ?_⟩
      ((conv => whnf); repeat' (first | ((with_reducible first | refine q1 ?_ | refine q2 ?_); conv => whnf) | (with_reducible refine q3 ?_) | ((with_reducible refine q4 (fun _ => ?_) (fun _ => ?_)) <;> first | (exfalso; omega) | (conv => whnf)) | ((with_reducible first | refine q5 ?_ | refine q6 ?_ | refine q7 ?_ | refine q8 ?_ | refine q9 ?_ | refine q10 ?_ | refine q11 ?_ | refine q12 ?_ | refine q13 ?_ | refine q14 ?_ | refine q15 ?_); conv => whnf) | ((refine q16 (fun _ _ _ _ _ => ?_)); conv => whnf) | ((with_reducible first | refine q17 ?_ | refine q18 ?_ | refine q19 ?_ | refine q20 ?_); conv => whnf)))
      · rename_i h
        refine ⟨?_, he.tr hd1.ex⟩
        have : xs ≠ ys := fun e => h (by simp [e])
        simp [this]
      · rename_i h
        exact ⟨k + 1, rfl, ⟨by omega, take_eq_step ht (by omega) (by omega) (by simpa using h), he.tr hd1.ex⟩, by omega⟩
    · refine ⟨?_, he⟩
      have : xs = ys := by
        have h1 := List.take_of_length_le (show xs.length ≤ k by omega)
        have h2 := List.take_of_length_le (show ys.length ≤ k by omega)
        rw [← h1, ← h2, ht]
      simp [this]
  · ((conv => whnf); repeat' (first | ((with_reducible first | refine q1 ?_ | refine q2 ?_); conv => whnf) | (with_reducible refine q3 ?_) | ((with_reducible refine q4 (fun _ => ?_) (fun _ => ?_)) <;> first | (exfalso; omega) | (conv => whnf)) | ((with_reducible first | refine q5 ?_ | refine q6 ?_ | refine q7 ?_ | refine q8 ?_ | refine q9 ?_ | refine q10 ?_ | refine q11 ?_ | refine q12 ?_ | refine q13 ?_ | refine q14 ?_ | refine q15 ?_); conv => whnf) | ((refine q16 (fun _ _ _ _ _ => ?_)); conv => whnf) | ((with_reducible first | refine q17 ?_ | refine q18 ?_ | refine q19 ?_ | refine q20 ?_); conv => whnf)))
    refine ⟨?_, Ex.refl w⟩
    have : xs ≠ ys := fun e => hlen (by rw [e])
    simp [this]
theorem Tryz.sameData1 (x y : Sl) (w : World) (hx : slInts w x) (hy : slInts w y) : CallA Tryz.prog 87 [x.val, y.val] w fun v w' => v = .bool (decide (x.xs = y.xs)) ∧ Ex w w' := by
  obtain ⟨bx, cx, xs⟩ := x
  obtain ⟨by_, cy, ys⟩ := y
  unfold Sl.val
  refine callA_intro Tryz.tbOk Tryz.func87 rfl Tryz.ntmps87 Tryz.results87 (by decide) (by simp) ?_
  ((conv => whnf); repeat' (first | ((with_reducible first | refine q1 ?_ | refine q2 ?_); conv => whnf) | (with_reducible refine q3 ?_) | ((with_reducible refine q4 (fun _ => ?_) (fun _ => ?_)) <;> first | (exfalso; omega) | (conv => whnf)) | ((with_reducible first | refine q5 ?_ | refine q6 ?_ | refine q7 ?_ | refine q8 ?_ | refine q9 ?_ | refine q10 ?_ | refine q11 ?_ | refine q12 ?_ | refine q13 ?_ | refine q14 ?_ | refine q15 ?_); conv => whnf) | ((refine q16 (fun _ _ _ _ _ => ?_)); conv => whnf) | ((with_reducible first | refine q17 ?_ | refine q18 ?_ | refine q19 ?_ | refine q20 ?_); conv => whnf)))
  refine CallA.mono (Tryz.equalInts bx by_ cx cy xs ys _ hx.1 hy.1 hx.2) ?_; rintro v w1 ⟨rfl, he1⟩; ((conv => whnf); repeat' (first | ((with_reducible first | refine q1 ?_ | refine q2 ?_); conv => whnf) | (with_reducible refine q3 ?_) | ((with_reducible refine q4 (fun _ => ?_) (fun _ => ?_)) <;> first | (exfalso; omega) | (conv => whnf)) | ((with_reducible first | refine q5 ?_ | refine q6 ?_ | refine q7 ?_ | refine q8 ?_ | refine q9 ?_ | refine q10 ?_ | refine q11 ?_ | refine q12 ?_ | refine q13 ?_ | refine q14 ?_ | refine q15 ?_); conv => whnf) | ((refine q16 (fun _ _ _ _ _ => ?_)); conv => whnf) | ((with_reducible first | refine q17 ?_ | refine q18 ?_ | refine q19 ?_ | refine q20 ?_); conv => whnf)))
  exact ⟨rfl, he1⟩
theorem slsGet {w : World} {base : Option Addr} {ss : List Sl} (h : Sls w base ss) {k : Nat} (hk : k < ss.length) : slInts w ss[k] := h.2.2 _ (List.getElem_mem hk)
theorem rowsOf_get {ss : List Sl} {k : Nat} (hk : k < ss.length) : (rowsOf ss)[k]'(by simpa [rowsOf] using hk) = ss[k].xs := by simp [rowsOf]
theorem rowsOf_length (ss : List Sl) : (rowsOf ss).length = ss.length := by simp [rowsOf]
theorem Tryz.equalRows (bx by_ : Option Addr) (cx cy : Nat) (xs ys : List Sl) (w : World) (hx : Sls w bx xs) (hy : Sls w by_ ys) :
   CallA Tryz.prog 86 [.slice bx xs.length cx, .slice by_ ys.length cy, .func (.func 87) #[] #[]] w fun v w' => v = .bool (decide (rowsOf xs = rowsOf ys)) ∧ Ex w w' := by
  refine callA_intro Tryz.tbOk Tryz.func86 rfl Tryz.ntmps86 Tryz.results86 (by decide) (by simp) ?_
  have h1 := hx.2.1
  by_cases hlen : xs.length = ys.length
  · ((conv => whnf); repeat' (first | ((with_reducible first | refine q1 ?_ | refine q2 ?_); conv => whnf) | (with_reducible refine q3 ?_) | ((with_reducible refine q4 (fun _ => ?_) (fun _ => ?_)) <;> first | (exfalso; omega) | (conv => whnf)) | ((with_reducible first | refine q5 ?_ | refine q6 ?_ | refine q7 ?_ | refine q8 ?_ | refine q9 ?_ | refine q10 ?_ | refine q11 ?_ | refine q12 ?_ | refine q13 ?_ | refine q14 ?_ | refine q15 ?_); conv => whnf) | ((refine q16 (fun _ _ _ _ _ => ?_)); conv => whnf) | ((with_reducible first | refine q17 ?_ | refine q18 ?_ | refine q19 ?_ | refine q20 ?_); conv => whnf)))
    refine loop_rule Tryz.tbOk Nat [17] (fun k => [.int .i64 (k:Int)]) (fun k w' => k ≤ xs.length ∧ (rowsOf xs).take k = (rowsOf ys).take k ∧ Ex w w') (fun k => xs.length - k) 0 rfl ⟨by omega, by simp, Ex.refl w⟩ ?_
    rintro k w' ⟨hk, ht, he⟩ u
    have hx := hx.ex he
    have hy := hy.ex he
    by_cases hlt : k < xs.length
    · ((conv => whnf); repeat' (first | ((with_reducible first | refine q1 ?_ | refine q2 ?_); conv => whnf) | (with_reducible refine q3 ?_) | ((with_reducible refine q4 (fun _ => ?_) (fun _ => ?_)) <;> first | (exfalso; omega) | (conv => whnf)) | ((with_reducible first | refine q5 ?_ | refine q6 ?_ | refine q7 ?_ | refine q8 ?_ | refine q9 ?_ | refine q10 ?_ | refine q11 ?_ | refine q12 ?_ | refine q13 ?_ | refine q14 ?_ | refine q15 ?_); conv => whnf) | ((refine q16 (fun _ _ _ _ _ => ?_)); conv => whnf) | ((with_reducible first | refine q17 ?_ | refine q18 ?_ | refine q19 ?_ | refine q20 ?_); conv => whnf)))
      refine IdxA.elem (sz := 1) hx.1 (fun _ => rfl) (by decide) rfl k rfl hlt (fun b o hb hc => ?_)
      (conv => whnf)
      refine Load1.mk' (hc 0 _ rfl) ?_
      ((conv => whnf); repeat' (first | ((with_reducible first | refine q1 ?_ | refine q2 ?_); conv => whnf) | (with_reducible refine q3 ?_) | ((with_reducible refine q4 (fun _ => ?_) (fun _ => ?_)) <;> first | (exfalso; omega) | (conv => whnf)) | ((with_reducible first | refine q5 ?_ | refine q6 ?_ | refine q7 ?_ | refine q8 ?_ | refine q9 ?_ | refine q10 ?_ | refine q11 ?_ | refine q12 ?_ | refine q13 ?_ | refine q14 ?_ | refine q15 ?_); conv => whnf) | ((refine q16 (fun _ _ _ _ _ => ?_)); conv => whnf) | ((with_reducible first | refine q17 ?_ | refine q18 ?_ | refine q19 ?_ | refine q20 ?_); conv => whnf)))
      refine IdxA.elem (sz := 1) hy.1 (fun _ => rfl) (by decide) rfl k rfl (by omega) (fun b o hb hc => ?_)
      (conv => whnf)
      refine Load1.mk' (hc 0 _ rfl) ?_
      ((conv => whnf); repeat' (first | ((with_reducible first | refine q1 ?_ | refine q2 ?_); conv => whnf) | (with_reducible refine q3 ?_) | ((with_reducible refine q4 (fun _ => ?_) (fun _ => ?_)) <;> first | (exfalso; omega) | (conv => whnf)) | ((with_reducible first | refine q5 ?_ | refine q6 ?_ | refine q7 ?_ | refine q8 ?_ | refine q9 ?_ | refine q10 ?_ | refine q11 ?_ | refine q12 ?_ | refine q13 ?_ | refine q14 ?_ | refine q15 ?_); conv => whnf) | ((refine q16 (fun _ _ _ _ _ => ?_)); conv => whnf) | ((with_reducible first | refine q17 ?_ | refine q18 ?_ | refine q19 ?_ | refine q20 ?_); conv => whnf)))
      refine CallA.mono (Tryz.sameData1 _ _ _ (slsGet hx hlt) (slsGet hy (by omega))) ?_
      rintro v w1 ⟨rfl, he1⟩
      ((conv => whnf); repeat' (first | ((with_reducible first | refine q1 ?_ | refine q2 ?_); conv => whnf) | (with_reducible refine q3 ?_) | ((with_reducible refine q4 (fun _ => ?_) (fun _ => ?_)) <;> first | (exfalso; omega) | (conv => whnf)) | ((with_reducible first | refine q5 ?_ | refine q6 ?_ | refine q7 ?_ | refine q8 ?_ | refine q9 ?_ | refine q10 ?_ | refine q11 ?_ | refine q12 ?_ | refine q13 ?_ | refine q14 ?_ | refine q15 ?_); conv => whnf) | ((refine q16 (fun _ _ _ _ _ => ?_)); conv => whnf) | ((with_reducible first | refine q17 ?_ | refine q18 ?_ | refine q19 ?_ | refine q20 ?_); conv => whnf)))
      · rename_i h
        exact ⟨k + 1, rfl, ⟨by omega, take_eq_step ht (by rw [rowsOf_length]; omega) (by rw [rowsOf_length]; omega) (by rw [rowsOf_get hlt, rowsOf_get (by omega)]; exact h), he.tr he1⟩, by omega⟩
      · rename_i h
        refine ⟨?_, he.tr he1⟩
        have : rowsOf xs ≠ rowsOf ys := fun e => h (by rw [← rowsOf_get hlt, ← rowsOf_get (by omega)]; simp [e])
        simp [this]
    · ((conv => whnf); repeat' (first | ((with_reducible first | refine q1 ?_ | refine q2 ?_); conv => whnf) | (with_reducible refine q3 ?_) | ((with_reducible refine q4 (fun _ => ?_) (fun _ => ?_)) <;> first | (exfalso; omega) | (conv => whnf)) | ((with_reducible first | refine q5 ?_ | refine q6 ?_ | refine q7 ?_ | refine q8 ?_ | refine q9 ?_ | refine q10 ?_ | refine q11 ?_ | refine q12 ?_ | refine q13 ?_ | refine q14 ?_ | refine q15 ?_); conv => whnf) | ((refine q16 (fun _ _ _ _ _ => ?_)); conv => whnf) | ((with_reducible first | refine q17 ?_ | refine q18 ?_ | refine q19 ?_ | refine q20 ?_); conv => whnf)))
      refine ⟨?_, he⟩
      have : rowsOf xs = rowsOf ys := by
        have h1 := List.take_of_length_le (show (rowsOf xs).length ≤ k by rw [rowsOf_length]; omega)
        have h2 := List.take_of_length_le (show (rowsOf ys).length ≤ k by rw [rowsOf_length]; omega)
        rw [← h1, ← h2, ht]
      simp [this]
  · ((conv => whnf); repeat' (first | ((with_reducible first | refine q1 ?_ | refine q2 ?_); conv => whnf) | (with_reducible refine q3 ?_) | ((with_reducible refine q4 (fun _ => ?_) (fun _ => ?_)) <;> first | (exfalso; omega) | (conv => whnf)) | ((with_reducible first | refine q5 ?_ | refine q6 ?_ | refine q7 ?_ | refine q8 ?_ | refine q9 ?_ | refine q10 ?_ | refine q11 ?_ | refine q12 ?_ | refine q13 ?_ | refine q14 ?_ | refine q15 ?_); conv => whnf) | ((refine q16 (fun _ _ _ _ _ => ?_)); conv => whnf) | ((with_reducible first | refine q17 ?_ | refine q18 ?_ | refine q19 ?_ | refine q20 ?_); conv => whnf)))
    refine ⟨?_, Ex.refl w⟩
    have : rowsOf xs ≠ rowsOf ys := fun e => hlen (by rw [← rowsOf_length, e, rowsOf_length])
    simp [this]
theorem Tryz.sameRows (bx by_ : Option Addr) (cx cy : Nat) (xs ys : List Sl) (w : World) (hx : Sls w bx xs) (hy : Sls w by_ ys) :
   CallA Tryz.prog 36 [.slice bx xs.length cx, .slice by_ ys.length cy] w fun v w' => v = .bool (decide (rowsOf xs = rowsOf ys)) ∧ Ex w w' := by
  refine callA_intro Tryz.tbOk Tryz.func36 rfl Tryz.ntmps36 Tryz.results36 (by decide) (by simp) ?_
  have h1 := hx.2.1
  by_cases hlen : xs.length = ys.length
  · ((conv => whnf); repeat' (first | ((with_reducible first | refine q1 ?_ | refine q2 ?_); conv => whnf) | (with_reducible refine q3 ?_) | ((with_reducible refine q4 (fun _ => ?_) (fun _ => ?_)) <;> first | (exfalso; omega) | (conv => whnf)) | ((with_reducible first | refine q5 ?_ | refine q6 ?_ | refine q7 ?_ | refine q8 ?_ | refine q9 ?_ | refine q10 ?_ | refine q11 ?_ | refine q12 ?_ | refine q13 ?_ | refine q14 ?_ | refine q15 ?_); conv => whnf) | ((refine q16 (fun _ _ _ _ _ => ?_)); conv => whnf) | ((with_reducible first | refine q17 ?_ | refine q18 ?_ | refine q19 ?_ | refine q20 ?_); conv => whnf)))
    refine loop_rule Tryz.tbOk Nat [5] (fun k => [.int .i64 (k:Int)]) (fun k w' => k ≤ xs.length ∧ (rowsOf xs).take k = (rowsOf ys).take k ∧ Ex w w') (fun k => xs.length - k) 0 rfl ⟨by omega, by simp, Ex.refl w⟩ ?_
    rintro k w' ⟨hk, ht, he⟩ u
    have hx := hx.ex he
    have hy := hy.ex he
    by_cases hlt : k < xs.length
    · ((conv => whnf); repeat' (first | ((with_reducible first | refine q1 ?_ | refine q2 ?_); conv => whnf) | (with_reducible refine q3 ?_) | ((with_reducible refine q4 (fun _ => ?_) (fun _ => ?_)) <;> first | (exfalso; omega) | (conv => whnf)) | ((with_reducible first | refine q5 ?_ | refine q6 ?_ | refine q7 ?_ | refine q8 ?_ | refine q9 ?_ | refine q10 ?_ | refine q11 ?_ | refine q12 ?_ | refine q13 ?_ | refine q14 ?_ | refine q15 ?_); conv => whnf) | ((refine q16 (fun _ _ _ _ _ => ?_)); conv => whnf) | ((with_reducible first | refine q17 ?_ | refine q18 ?_ | refine q19 ?_ | refine q20 ?_); conv => whnf)))
      refine draw_rule Tryz.tbOk Tryz.mix (fun u => Ex w' u) (.take 0 (.take 1 (.take 2 (.take 3 (.take 4 (.take 5 (.take 6 (.take 7 (.one 8 (.take 9 (.done))))))))))) (by kernel_rfl) (by kernel_rfl) ?_
      intro w1 hd1
      refine ⟨hd1.ex, ?_⟩
      ((conv => whnf); repeat' (first | ((with_reducible first | refine q1 ?_ | refine q2 ?_); conv => whnf) | (with_reducible refine q3 ?_) | ((with_reducible refine q4 (fun _ => ?_) (fun _ => ?_)) <;> first | (exfalso; omega) | (conv => whnf)) | ((with_reducible first | refine q5 ?_ | refine q6 ?_ | refine q7 ?_ | refine q8 ?_ | refine q9 ?_ | refine q10 ?_ | refine q11 ?_ | refine q12 ?_ | refine q13 ?_ | refine q14 ?_ | refine q15 ?_); conv => whnf) | ((refine q16 (fun _ _ _ _ _ => ?_)); conv => whnf) | ((with_reducible first | refine q17 ?_ | refine q18 ?_ | refine q19 ?_ | refine q20 ?_); conv => whnf)))
      refine IdxA.elem (sz := 1) hx.1 (fun _ => rfl) (by decide) rfl k rfl hlt (fun b o hb hc => ?_)
      (conv => whnf)
      refine Hold1.mk' (hc 0 _ rfl) (fun _ h => h) ?_
      ((conv => whnf); repeat' (first | ((with_reducible first | refine q1 ?_ | refine q2 ?_); conv => whnf) | (with_reducible refine q3 ?_) | ((with_reducible refine q4 (fun _ => ?_) (fun _ => ?_)) <;> first | (exfalso; omega) | (conv => whnf)) | ((with_reducible first | refine q5 ?_ | refine q6 ?_ | refine q7 ?_ | refine q8 ?_ | refine q9 ?_ | refine q10 ?_ | refine q11 ?_ | refine q12 ?_ | refine q13 ?_ | refine q14 ?_ | refine q15 ?_); conv => whnf) | ((refine q16 (fun _ _ _ _ _ => ?_)); conv => whnf) | ((with_reducible first | refine q17 ?_ | refine q18 ?_ | refine q19 ?_ | refine q20 ?_); conv => whnf)))
      refine IdxA.elem (sz := 1) hy.1 (fun _ => rfl) (by decide) rfl k rfl (by omega) (fun b o hb hc => ?_)
      (conv => whnf)
      refine Hold1.mk' (hc 0 _ rfl) (fun _ h => h) ?_
      ((conv => whnf); repeat' (first | ((with_reducible first | refine q1 ?_ | refine q2 ?_); conv => whnf) | (with_reducible refine q3 ?_) | ((with_reducible refine q4 (fun _ => ?_) (fun _ => ?_)) <;> first | (exfalso; omega) | (conv => whnf)) | ((with_reducible first | refine q5 ?_ | refine q6 ?_ | refine q7 ?_ | refine q8 ?_ | refine q9 ?_ | refine q10 ?_ | refine q11 ?_ | refine q12 ?_ | refine q13 ?_ | refine q14 ?_ | refine q15 ?_); conv => whnf) | ((refine q16 (fun _ _ _ _ _ => ?_)); conv => whnf) | ((with_reducible first | refine q17 ?_ | refine q18 ?_ | refine q19 ?_ | refine q20 ?_); conv => whnf)))
      have hxk := (slsGet hx hlt).ex hd1.ex
      have hyk := (slsGet hy (show k < ys.length by omega)).ex hd1.ex
      refine CallA.mono (Tryz.sameInts _ _ _ _ _ _ _ hxk.1 hyk.1 hxk.2) ?_
      rintro v w2 ⟨rfl, he1⟩
      ((conv => whnf); repeat' (first | ((with_reducible first | refine q1 ?_ | refine q2 ?_); conv => whnf) | (with_reducible refine q3 ?_) | ((with_reducible refine q4 (fun _ => ?_) (fun _ => ?_)) <;> first | (exfalso; omega) | (conv => whnf)) | ((with_reducible first | refine q5 ?_ | refine q6 ?_ | refine q7 ?_ | refine q8 ?_ | refine q9 ?_ | refine q10 ?_ | refine q11 ?_ | refine q12 ?_ | refine q13 ?_ | refine q14 ?_ | refine q15 ?_); conv => whnf) | ((refine q16 (fun _ _ _ _ _ => ?_)); conv => whnf) | ((with_reducible first | refine q17 ?_ | refine q18 ?_ | refine q19 ?_ | refine q20 ?_); conv => whnf)))
      refine ⟨hd1.ex.tr he1, ?_⟩
      ((conv => whnf); repeat' (first | ((with_reducible first | refine q1 ?_ | refine q2 ?_); conv => whnf) | (with_reducible refine q3 ?_) | ((with_reducible refine q4 (fun _ => ?_) (fun _ => ?_)) <;> first | (exfalso; omega) | (conv => whnf)) | ((with_reducible first | refine q5 ?_ | refine q6 ?_ | refine q7 ?_ | refine q8 ?_ | refine q9 ?_ | refine q10 ?_ | refine q11 ?_ | refine q12 ?_ | refine q13 ?_ | refine q14 ?_ | refine q15 ?_); conv => whnf) | ((refine q16 (fun _ _ _ _ _ => ?_)); conv => whnf) | ((with_reducible first | refine q17 ?_ | refine q18 ?_ | refine q19 ?_ | refine q20 ?_); conv => whnf)))
      · rename_i h
        exact ⟨k + 1, rfl, ⟨by omega, take_eq_step ht (by rw [rowsOf_length]; omega) (by rw [rowsOf_length]; omega) (by rw [rowsOf_get hlt, rowsOf_get (by omega)]; exact h), he.tr (hd1.ex.tr he1)⟩, by omega⟩
      · rename_i h
        refine ⟨?_, he.tr (hd1.ex.tr he1)⟩
        have : rowsOf xs ≠ rowsOf ys := fun e => h (by rw [← rowsOf_get hlt, ← rowsOf_get (by omega)]; simp [e])
        simp [this]
    · ((conv => whnf); repeat' (first | ((with_reducible first | refine q1 ?_ | refine q2 ?_); conv => whnf) | (with_reducible refine q3 ?_) | ((with_reducible refine q4 (fun _ => ?_) (fun _ => ?_)) <;> first | (exfalso; omega) | (conv => whnf)) | ((with_reducible first | refine q5 ?_ | refine q6 ?_ | refine q7 ?_ | refine q8 ?_ | refine q9 ?_ | refine q10 ?_ | refine q11 ?_ | refine q12 ?_ | refine q13 ?_ | refine q14 ?_ | refine q15 ?_); conv => whnf) | ((refine q16 (fun _ _ _ _ _ => ?_)); conv => whnf) | ((with_reducible first | refine q17 ?_ | refine q18 ?_ | refine q19 ?_ | refine q20 ?_); conv => whnf)))
      refine ⟨?_, he⟩
      have : rowsOf xs = rowsOf ys := by
        have h1 := List.take_of_length_le (show (rowsOf xs).length ≤ k by rw [rowsOf_length]; omega)
        have h2 := List.take_of_length_le (show (rowsOf ys).length ≤ k by rw [rowsOf_length]; omega)
        rw [← h1, ← h2, ht]
      simp [this]
  · ((conv => whnf); repeat' (first | ((with_reducible first | refine q1 ?_ | refine q2 ?_); conv => whnf) | (with_reducible refine q3 ?_) | ((with_reducible refine q4 (fun _ => ?_) (fun _ => ?_)) <;> first | (exfalso; omega) | (conv => whnf)) | ((with_reducible first | refine q5 ?_ | refine q6 ?_ | refine q7 ?_ | refine q8 ?_ | refine q9 ?_ | refine q10 ?_ | refine q11 ?_ | refine q12 ?_ | refine q13 ?_ | refine q14 ?_ | refine q15 ?_); conv => whnf) | ((refine q16 (fun _ _ _ _ _ => ?_)); conv => whnf) | ((with_reducible first | refine q17 ?_ | refine q18 ?_ | refine q19 ?_ | refine q20 ?_); conv => whnf)))
    refine ⟨?_, Ex.refl w⟩
    have : rowsOf xs ≠ rowsOf ys := fun e => hlen (by rw [← rowsOf_length, e, rowsOf_length])
    simp [this]
theorem lineC_ints (x : Line) : lineC x = ints [x.id, x.day, x.what, x.worth] := rfl
theorem Tryz.stood79 : Tryz.prog.stoodInHeld 79 = false := by kernel_rfl
theorem Tryz.guard79 : Tryz.prog.eqGuardType Tryz.prog.depth 79 = false := by kernel_rfl
theorem line_eq {x y : Line} : ([x.id, x.day, x.what, x.worth] : List Int) = [y.id, y.day, y.what, y.worth] ↔ x = y := by
  obtain ⟨a, b, c, d⟩ := x
  obtain ⟨e, f, g, h⟩ := y
  simp
theorem Tryz.sameLines (bx by_ : Option Addr) (cx cy : Nat) (xs ys : List Line) (w : World) (hx : Row w bx (rowC lineC xs)) (hy : Row w by_ (rowC lineC ys)) (h1 : xs.length < 140737488355328) :
   CallA Tryz.prog 11 [.slice bx xs.length cx, .slice by_ ys.length cy] w fun v w' => v = .bool (decide (xs = ys)) ∧ Ex w w' := by
  refine callA_intro Tryz.tbOk Tryz.func11 rfl Tryz.ntmps11 Tryz.results11 (by decide) (by simp) ?_
  by_cases hlen : xs.length = ys.length
  · ((conv => whnf); repeat' (first | ((with_reducible first | refine q1 ?_ | refine q2 ?_); conv => whnf) | (with_reducible refine q3 ?_) | ((with_reducible refine q4 (fun _ => ?_) (fun _ => ?_)) <;> first | (exfalso; omega) | (conv => whnf)) | ((with_reducible first | refine q5 ?_ | refine q6 ?_ | refine q7 ?_ | refine q8 ?_ | refine q9 ?_ | refine q10 ?_ | refine q11 ?_ | refine q12 ?_ | refine q13 ?_ | refine q14 ?_ | refine q15 ?_); conv => whnf) | ((refine q16 (fun _ _ _ _ _ => ?_)); conv => whnf) | ((with_reducible first | refine q17 ?_ | refine q18 ?_ | refine q19 ?_ | refine q20 ?_); conv => whnf)))
    refine loop_rule Tryz.tbOk Nat [5] (fun k => [.int .i64 (k:Int)]) (fun k w' => k ≤ xs.length ∧ xs.take k = ys.take k ∧ Ex w w') (fun k => xs.length - k) 0 rfl ⟨by omega, by simp, Ex.refl w⟩ ?_
    rintro k w' ⟨hk, ht, he⟩ u
    have hx := hx.ex he
    have hy := hy.ex he
    by_cases hlt : k < xs.length
    · ((conv => whnf); repeat' (first | ((with_reducible first | refine q1 ?_ | refine q2 ?_); conv => whnf) | (with_reducible refine q3 ?_) | ((with_reducible refine q4 (fun _ => ?_) (fun _ => ?_)) <;> first | (exfalso; omega) | (conv => whnf)) | ((with_reducible first | refine q5 ?_ | refine q6 ?_ | refine q7 ?_ | refine q8 ?_ | refine q9 ?_ | refine q10 ?_ | refine q11 ?_ | refine q12 ?_ | refine q13 ?_ | refine q14 ?_ | refine q15 ?_); conv => whnf) | ((refine q16 (fun _ _ _ _ _ => ?_)); conv => whnf) | ((with_reducible first | refine q17 ?_ | refine q18 ?_ | refine q19 ?_ | refine q20 ?_); conv => whnf)))
      refine draw_rule Tryz.tbOk Tryz.mix (fun u => Ex w' u) (.take 0 (.take 1 (.take 2 (.take 3 (.take 4 (.take 5 (.take 6 (.take 7 (.take 8 (.done)))))))))) (by kernel_rfl) (by kernel_rfl) ?_
      intro w1 hd1
      refine ⟨hd1.ex, ?_⟩
      ((conv => whnf); repeat' (first | ((with_reducible first | refine q1 ?_ | refine q2 ?_); conv => whnf) | (with_reducible refine q3 ?_) | ((with_reducible refine q4 (fun _ => ?_) (fun _ => ?_)) <;> first | (exfalso; omega) | (conv => whnf)) | ((with_reducible first | refine q5 ?_ | refine q6 ?_ | refine q7 ?_ | refine q8 ?_ | refine q9 ?_ | refine q10 ?_ | refine q11 ?_ | refine q12 ?_ | refine q13 ?_ | refine q14 ?_ | refine q15 ?_); conv => whnf) | ((refine q16 (fun _ _ _ _ _ => ?_)); conv => whnf) | ((with_reducible first | refine q17 ?_ | refine q18 ?_ | refine q19 ?_ | refine q20 ?_); conv => whnf)))
      refine IdxA.elem (sz := 4) hx (fun _ => rfl) (by decide) rfl k rfl hlt (fun b o hb hc => ?_)
      (conv => whnf)
      refine HoldN.mk' (vs := lineC xs[k]) rfl hc (fun _ h => h) ?_
      ((conv => whnf); repeat' (first | ((with_reducible first | refine q1 ?_ | refine q2 ?_); conv => whnf) | (with_reducible refine q3 ?_) | ((with_reducible refine q4 (fun _ => ?_) (fun _ => ?_)) <;> first | (exfalso; omega) | (conv => whnf)) | ((with_reducible first | refine q5 ?_ | refine q6 ?_ | refine q7 ?_ | refine q8 ?_ | refine q9 ?_ | refine q10 ?_ | refine q11 ?_ | refine q12 ?_ | refine q13 ?_ | refine q14 ?_ | refine q15 ?_); conv => whnf) | ((refine q16 (fun _ _ _ _ _ => ?_)); conv => whnf) | ((with_reducible first | refine q17 ?_ | refine q18 ?_ | refine q19 ?_ | refine q20 ?_); conv => whnf)))
      refine IdxA.elem (sz := 4) hy (fun _ => rfl) (by decide) rfl k rfl (by omega) (fun b o hb hc => ?_)
      (conv => whnf)
      refine HoldN.mk' (vs := lineC ys[k]) rfl hc (fun _ h => h) ?_
      ((conv => whnf); repeat' (first | ((with_reducible first | refine q1 ?_ | refine q2 ?_); conv => whnf) | (with_reducible refine q3 ?_) | ((with_reducible refine q4 (fun _ => ?_) (fun _ => ?_)) <;> first | (exfalso; omega) | (conv => whnf)) | ((with_reducible first | refine q5 ?_ | refine q6 ?_ | refine q7 ?_ | refine q8 ?_ | refine q9 ?_ | refine q10 ?_ | refine q11 ?_ | refine q12 ?_ | refine q13 ?_ | refine q14 ?_ | refine q15 ?_); conv => whnf) | ((refine q16 (fun _ _ _ _ _ => ?_)); conv => whnf) | ((with_reducible first | refine q17 ?_ | refine q18 ?_ | refine q19 ?_ | refine q20 ?_); conv => whnf)))
      rw [lineC_ints, lineC_ints]
      refine HoldV.structNe Tryz.tbOk rfl rfl rfl rfl rfl Tryz.stood79 Tryz.guard79 ?_
      rw [show decide (([xs[k].id, xs[k].day, xs[k].what, xs[k].worth] : List Int) = [ys[k].id, ys[k].day, ys[k].what, ys[k].worth]) = decide (xs[k] = ys[k]) from decide_eq_decide.2 line_eq]
      ((conv => whnf); repeat' (first | ((with_reducible first | refine q1 ?_ | refine q2 ?_); conv => whnf) | (with_reducible refine q3 ?_) | ((with_reducible refine q4 (fun _ => ?_) (fun _ => ?_)) <;> first | (exfalso; omega) | (conv => whnf)) | ((with_reducible first | refine q5 ?_ | refine q6 ?_ | refine q7 ?_ | refine q8 ?_ | refine q9 ?_ | refine q10 ?_ | refine q11 ?_ | refine q12 ?_ | refine q13 ?_ | refine q14 ?_ | refine q15 ?_); conv => whnf) | ((refine q16 (fun _ _ _ _ _ => ?_)); conv => whnf) | ((with_reducible first | refine q17 ?_ | refine q18 ?_ | refine q19 ?_ | refine q20 ?_); conv => whnf)))
      · rename_i h
        exact ⟨k + 1, rfl, ⟨by omega, take_eq_step ht (by omega) (by omega) h, he.tr hd1.ex⟩, by omega⟩
      · rename_i h
        refine ⟨?_, he.tr hd1.ex⟩
        have : xs ≠ ys := fun e => h (by simp [e])
        simp [this]
    · ((conv => whnf); repeat' (first | ((with_reducible first | refine q1 ?_ | refine q2 ?_); conv => whnf) | (with_reducible refine q3 ?_) | ((with_reducible refine q4 (fun _ => ?_) (fun _ => ?_)) <;> first | (exfalso; omega) | (conv => whnf)) | ((with_reducible first | refine q5 ?_ | refine q6 ?_ | refine q7 ?_ | refine q8 ?_ | refine q9 ?_ | refine q10 ?_ | refine q11 ?_ | refine q12 ?_ | refine q13 ?_ | refine q14 ?_ | refine q15 ?_); conv => whnf) | ((refine q16 (fun _ _ _ _ _ => ?_)); conv => whnf) | ((with_reducible first | refine q17 ?_ | refine q18 ?_ | refine q19 ?_ | refine q20 ?_); conv => whnf)))
      refine ⟨?_, he⟩
      have : xs = ys := by
        have h1 := List.take_of_length_le (show xs.length ≤ k by omega)
        have h2 := List.take_of_length_le (show ys.length ≤ k by omega)
        rw [← h1, ← h2, ht]
      simp [this]
  · ((conv => whnf); repeat' (first | ((with_reducible first | refine q1 ?_ | refine q2 ?_); conv => whnf) | (with_reducible refine q3 ?_) | ((with_reducible refine q4 (fun _ => ?_) (fun _ => ?_)) <;> first | (exfalso; omega) | (conv => whnf)) | ((with_reducible first | refine q5 ?_ | refine q6 ?_ | refine q7 ?_ | refine q8 ?_ | refine q9 ?_ | refine q10 ?_ | refine q11 ?_ | refine q12 ?_ | refine q13 ?_ | refine q14 ?_ | refine q15 ?_); conv => whnf) | ((refine q16 (fun _ _ _ _ _ => ?_)); conv => whnf) | ((with_reducible first | refine q17 ?_ | refine q18 ?_ | refine q19 ?_ | refine q20 ?_); conv => whnf)))
    refine ⟨?_, Ex.refl w⟩
    have : xs ≠ ys := fun e => hlen (by rw [e])
    simp [this]
theorem Tryz.sameData (bx by_ : Option Addr) (cx cy : Nat) (xs ys : List Sl) (w : World) (hx : Sls w bx xs) (hy : Sls w by_ ys) :
   CallA Tryz.prog 44 [.slice bx xs.length cx, .slice by_ ys.length cy] w fun v w' => v = .bool (decide (rowsOf xs = rowsOf ys)) ∧ Ex w w' := by
  refine callA_intro Tryz.tbOk Tryz.func44 rfl Tryz.ntmps44 Tryz.results44 (by decide) (by simp) ?_
  ((conv => whnf); repeat' (first | ((with_reducible first | refine q1 ?_ | refine q2 ?_); conv => whnf) | (with_reducible refine q3 ?_) | ((with_reducible refine q4 (fun _ => ?_) (fun _ => ?_)) <;> first | (exfalso; omega) | (conv => whnf)) | ((with_reducible first | refine q5 ?_ | refine q6 ?_ | refine q7 ?_ | refine q8 ?_ | refine q9 ?_ | refine q10 ?_ | refine q11 ?_ | refine q12 ?_ | refine q13 ?_ | refine q14 ?_ | refine q15 ?_); conv => whnf) | ((refine q16 (fun _ _ _ _ _ => ?_)); conv => whnf) | ((with_reducible first | refine q17 ?_ | refine q18 ?_ | refine q19 ?_ | refine q20 ?_); conv => whnf)))
  refine CallA.mono (Tryz.equalRows bx by_ cx cy xs ys _ hx hy) ?_; rintro v w1 ⟨rfl, he1⟩; ((conv => whnf); repeat' (first | ((with_reducible first | refine q1 ?_ | refine q2 ?_); conv => whnf) | (with_reducible refine q3 ?_) | ((with_reducible refine q4 (fun _ => ?_) (fun _ => ?_)) <;> first | (exfalso; omega) | (conv => whnf)) | ((with_reducible first | refine q5 ?_ | refine q6 ?_ | refine q7 ?_ | refine q8 ?_ | refine q9 ?_ | refine q10 ?_ | refine q11 ?_ | refine q12 ?_ | refine q13 ?_ | refine q14 ?_ | refine q15 ?_); conv => whnf) | ((refine q16 (fun _ _ _ _ _ => ?_)); conv => whnf) | ((with_reducible first | refine q17 ?_ | refine q18 ?_ | refine q19 ?_ | refine q20 ?_); conv => whnf)))
  exact ⟨rfl, he1⟩
end Go.Proofs
