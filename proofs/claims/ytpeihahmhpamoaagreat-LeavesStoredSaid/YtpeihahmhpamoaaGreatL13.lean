/-
  L13: a part of the proof. By an AI agent.
-/
import Derived.Test.YtpeihahmhpamoaaGreatVQ
import Derived.Test.YtpeihahmhpamoaaGreatV9
import Derived.Test.YtpeihahmhpamoaaGreatL12
set_option linter.all false
namespace Go.Proofs
open Go.V
open Go.RowKit (Below)
/-- a slice of lines -/
structure SlL where
  base : Option Addr
  cap : Nat
  xs : List Line
theorem lineC_one (x : Line) : ∀ v ∈ lineC x, one v = true := all_one rfl

theorem Tryz.growInts (n : Nat) (w : World) (hn : n ≤ 1000000000) : CallA Tryz.prog 84 [.slice none 0 0, .int .i64 (n : Int)] w fun v w' => ∃ b c, v = .slice b 0 c ∧ Own w' w.heap.size 3 1 b 0 c [] ∧ Ex w w' := by
  refine callA_intro Tryz.tbOk Tryz.func84 rfl Tryz.ntmps84 Tryz.results84 (by decide) (by simp) ?_
  ((conv => whnf); repeat' (first | ((with_reducible first | refine q1 ?_ | refine q2 ?_); conv => whnf) | (with_reducible refine q3 ?_) | ((with_reducible refine q4 (fun _ => ?_) (fun _ => ?_)) <;> first | (exfalso; omega) | (conv => whnf)) | ((with_reducible first | refine q5 ?_ | refine q6 ?_ | refine q7 ?_ | refine q8 ?_ | refine q9 ?_ | refine q10 ?_ | refine q11 ?_ | refine q12 ?_ | refine q13 ?_ | refine q14 ?_ | refine q15 ?_); conv => whnf) | ((refine q16 (fun _ _ _ _ _ => ?_)); conv => whnf) | ((with_reducible first | refine q17 ?_ | refine q18 ?_ | refine q19 ?_ | refine q20 ?_); conv => whnf)))
  refine RunV.cap (e := 3) (sz := 1) (by_ := 8) Tryz.tbOk rfl ?_
  ((conv => whnf); repeat' (first | ((with_reducible first | refine q1 ?_ | refine q2 ?_); conv => whnf) | (with_reducible refine q3 ?_) | ((with_reducible refine q4 (fun _ => ?_) (fun _ => ?_)) <;> first | (exfalso; omega) | (conv => whnf)) | ((with_reducible first | refine q5 ?_ | refine q6 ?_ | refine q7 ?_ | refine q8 ?_ | refine q9 ?_ | refine q10 ?_ | refine q11 ?_ | refine q12 ?_ | refine q13 ?_ | refine q14 ?_ | refine q15 ?_); conv => whnf) | ((refine q16 (fun _ _ _ _ _ => ?_)); conv => whnf) | ((with_reducible first | refine q17 ?_ | refine q18 ?_ | refine q19 ?_ | refine q20 ?_); conv => whnf)))
  · refine RunV.cap (e := 3) (sz := 1) (by_ := 8) Tryz.tbOk rfl ?_
    ((conv => whnf); repeat' (first | ((with_reducible first | refine q1 ?_ | refine q2 ?_); conv => whnf) | (with_reducible refine q3 ?_) | ((with_reducible refine q4 (fun _ => ?_) (fun _ => ?_)) <;> first | (exfalso; omega) | (conv => whnf)) | ((with_reducible first | refine q5 ?_ | refine q6 ?_ | refine q7 ?_ | refine q8 ?_ | refine q9 ?_ | refine q10 ?_ | refine q11 ?_ | refine q12 ?_ | refine q13 ?_ | refine q14 ?_ | refine q15 ?_); conv => whnf) | ((refine q16 (fun _ _ _ _ _ => ?_)); conv => whnf) | ((with_reducible first | refine q17 ?_ | refine q18 ?_ | refine q19 ?_ | refine q20 ?_); conv => whnf)))
    refine RunV.sliceOwn (e := 3) (sz := 1) (by_ := 8) (T := 3) Tryz.tbOk rfl (Own.nil w w.heap.size 3 1) 0 (.inr rfl) (.inl rfl) rfl (by omega) fun _ => ?_
    ((conv => whnf); repeat' (first | ((with_reducible first | refine q1 ?_ | refine q2 ?_); conv => whnf) | (with_reducible refine q3 ?_) | ((with_reducible refine q4 (fun _ => ?_) (fun _ => ?_)) <;> first | (exfalso; omega) | (conv => whnf)) | ((with_reducible first | refine q5 ?_ | refine q6 ?_ | refine q7 ?_ | refine q8 ?_ | refine q9 ?_ | refine q10 ?_ | refine q11 ?_ | refine q12 ?_ | refine q13 ?_ | refine q14 ?_ | refine q15 ?_); conv => whnf) | ((refine q16 (fun _ _ _ _ _ => ?_)); conv => whnf) | ((with_reducible first | refine q17 ?_ | refine q18 ?_ | refine q19 ?_ | refine q20 ?_); conv => whnf)))
    refine RunV.appendZeros (e := 3) (sz := 1) (by_ := 8) Tryz.tbOk w.heap.size n rfl rfl rfl (by omega) (by omega) (by omega) (by omega) rfl (by omega) fun w' b cap cs hb he hc ho => ?_
    ((conv => whnf); repeat' (first | ((with_reducible first | refine q1 ?_ | refine q2 ?_); conv => whnf) | (with_reducible refine q3 ?_) | ((with_reducible refine q4 (fun _ => ?_) (fun _ => ?_)) <;> first | (exfalso; omega) | (conv => whnf)) | ((with_reducible first | refine q5 ?_ | refine q6 ?_ | refine q7 ?_ | refine q8 ?_ | refine q9 ?_ | refine q10 ?_ | refine q11 ?_ | refine q12 ?_ | refine q13 ?_ | refine q14 ?_ | refine q15 ?_); conv => whnf) | ((refine q16 (fun _ _ _ _ _ => ?_)); conv => whnf) | ((with_reducible first | refine q17 ?_ | refine q18 ?_ | refine q19 ?_ | refine q20 ?_); conv => whnf)))
    refine RunV.sliceOwn (e := 3) (sz := 1) (by_ := 8) Tryz.tbOk rfl ho 0 (.inr rfl) (.inl rfl) rfl (by omega) fun ho' => ?_
    ((conv => whnf); repeat' (first | ((with_reducible first | refine q1 ?_ | refine q2 ?_); conv => whnf) | (with_reducible refine q3 ?_) | ((with_reducible refine q4 (fun _ => ?_) (fun _ => ?_)) <;> first | (exfalso; omega) | (conv => whnf)) | ((with_reducible first | refine q5 ?_ | refine q6 ?_ | refine q7 ?_ | refine q8 ?_ | refine q9 ?_ | refine q10 ?_ | refine q11 ?_ | refine q12 ?_ | refine q13 ?_ | refine q14 ?_ | refine q15 ?_); conv => whnf) | ((refine q16 (fun _ _ _ _ _ => ?_)); conv => whnf) | ((with_reducible first | refine q17 ?_ | refine q18 ?_ | refine q19 ?_ | refine q20 ?_); conv => whnf)))
    exact ⟨_, _, rfl, by simpa using ho', he⟩
  · exact ⟨none, 0, rfl, Own.nil _ _ _ _, Ex.refl w⟩
theorem Tryz.concatInts (base : Option Addr) (cap : Nat) (ss : List Sl) (w : World) (hr : Row w base (rowC (fun s : Sl => [.slice s.base s.xs.length s.cap]) ss)) (hs : ∀ s ∈ ss, Row w s.base (ints s.xs)) (hl : ss.length < 140737488355328) (ht : (ss.map Sl.xs).flatten.length ≤ 1000000000) :
    CallA Tryz.prog 41 [.slice base ss.length cap] w fun v w' => ∃ b c, v = .slice b (ss.map Sl.xs).flatten.length c ∧ Own w' w.heap.size 3 1 b (ss.map Sl.xs).flatten.length c (ints (ss.map Sl.xs).flatten) ∧ Ex w w' := by
  have hpre : ∀ k, ((ss.take k).map Sl.xs).flatten.length ≤ (ss.map Sl.xs).flatten.length := by
    intro k
    have : (ss.map Sl.xs).flatten = ((ss.take k).map Sl.xs).flatten ++ ((ss.drop k).map Sl.xs).flatten := by rw [← List.flatten_append, ← List.map_append, List.take_append_drop]
    rw [this, List.length_append]; omega
  have hnext : ∀ k (hk : k < ss.length), ((ss.take (k + 1)).map Sl.xs).flatten = ((ss.take k).map Sl.xs).flatten ++ ss[k].xs := by
    intro k hk
    rw [List.take_succ_eq_append_getElem hk, List.map_append, List.flatten_append]; simp only [List.map_cons, List.map_nil, List.flatten_cons, List.flatten_nil, List.append_nil]
  refine callA_intro Tryz.tbOk Tryz.func41 rfl Tryz.ntmps41 Tryz.results41 (by decide) (by simp) ?_
  ((conv => whnf); repeat' (first | ((with_reducible first | refine q1 ?_ | refine q2 ?_); conv => whnf) | (with_reducible refine q3 ?_) | ((with_reducible refine q4 (fun _ => ?_) (fun _ => ?_)) <;> first | (exfalso; omega) | (conv => whnf)) | ((with_reducible first | refine q5 ?_ | refine q6 ?_ | refine q7 ?_ | refine q8 ?_ | refine q9 ?_ | refine q10 ?_ | refine q11 ?_ | refine q12 ?_ | refine q13 ?_ | refine q14 ?_ | refine q15 ?_); conv => whnf) | ((refine q16 (fun _ _ _ _ _ => ?_)); conv => whnf) | ((with_reducible first | refine q17 ?_ | refine q18 ?_ | refine q19 ?_ | refine q20 ?_); conv => whnf)))
  refine loop_rule Tryz.tbOk (Nat × Int) [11, 3] (fun | (k, n) => [.int .i64 (k:Int), .int .i64 n])
    (fun | (k, n), w' => k ≤ ss.length ∧ n = (((ss.take k).map Sl.xs).flatten.length : Int) ∧ w' = w) (fun | (k, _) => ss.length - k) (0, 0) rfl ⟨by omega, rfl, rfl⟩ ?_
  rintro ⟨k, n⟩ w' ⟨hk, hn, rfl⟩ u
  by_cases hlt : k < ss.length
  · have h1 := hpre (k + 1)
    rw [hnext k hlt, List.length_append] at h1
    ((conv => whnf); repeat' (first | ((with_reducible first | refine q1 ?_ | refine q2 ?_); conv => whnf) | (with_reducible refine q3 ?_) | ((with_reducible refine q4 (fun _ => ?_) (fun _ => ?_)) <;> first | (exfalso; omega) | (conv => whnf)) | ((with_reducible first | refine q5 ?_ | refine q6 ?_ | refine q7 ?_ | refine q8 ?_ | refine q9 ?_ | refine q10 ?_ | refine q11 ?_ | refine q12 ?_ | refine q13 ?_ | refine q14 ?_ | refine q15 ?_); conv => whnf) | ((refine q16 (fun _ _ _ _ _ => ?_)); conv => whnf) | ((with_reducible first | refine q17 ?_ | refine q18 ?_ | refine q19 ?_ | refine q20 ?_); conv => whnf)))
    refine IdxA.elem (sz := 1) hr (fun _ => rfl) (by decide) rfl k rfl hlt (fun b o hb hc => ?_)
    (conv => whnf)
    refine Load1.mk' (hc 0 _ rfl) ?_
    ((conv => whnf); repeat' (first | ((with_reducible first | refine q1 ?_ | refine q2 ?_); conv => whnf) | (with_reducible refine q3 ?_) | ((with_reducible refine q4 (fun _ => ?_) (fun _ => ?_)) <;> first | (exfalso; omega) | (conv => whnf)) | ((with_reducible first | refine q5 ?_ | refine q6 ?_ | refine q7 ?_ | refine q8 ?_ | refine q9 ?_ | refine q10 ?_ | refine q11 ?_ | refine q12 ?_ | refine q13 ?_ | refine q14 ?_ | refine q15 ?_); conv => whnf) | ((refine q16 (fun _ _ _ _ _ => ?_)); conv => whnf) | ((with_reducible first | refine q17 ?_ | refine q18 ?_ | refine q19 ?_ | refine q20 ?_); conv => whnf)))
    exact ⟨(k + 1, _), rfl, ⟨by omega, by rw [hnext k hlt, List.length_append]; omega, rfl⟩, by simp only []; omega⟩
  · have : k = ss.length := by omega
    subst this
    rw [List.take_length] at hn
    subst hn
    ((conv => whnf); repeat' (first | ((with_reducible first | refine q1 ?_ | refine q2 ?_); conv => whnf) | (with_reducible refine q3 ?_) | ((with_reducible refine q4 (fun _ => ?_) (fun _ => ?_)) <;> first | (exfalso; omega) | (conv => whnf)) | ((with_reducible first | refine q5 ?_ | refine q6 ?_ | refine q7 ?_ | refine q8 ?_ | refine q9 ?_ | refine q10 ?_ | refine q11 ?_ | refine q12 ?_ | refine q13 ?_ | refine q14 ?_ | refine q15 ?_); conv => whnf) | ((refine q16 (fun _ _ _ _ _ => ?_)); conv => whnf) | ((with_reducible first | refine q17 ?_ | refine q18 ?_ | refine q19 ?_ | refine q20 ?_); conv => whnf)))
    refine CallA.mono (Tryz.growInts _ w' ht) ?_
    rintro v w1 ⟨b1, c1, rfl, ho1, he1⟩
    ((conv => whnf); repeat' (first | ((with_reducible first | refine q1 ?_ | refine q2 ?_); conv => whnf) | (with_reducible refine q3 ?_) | ((with_reducible refine q4 (fun _ => ?_) (fun _ => ?_)) <;> first | (exfalso; omega) | (conv => whnf)) | ((with_reducible first | refine q5 ?_ | refine q6 ?_ | refine q7 ?_ | refine q8 ?_ | refine q9 ?_ | refine q10 ?_ | refine q11 ?_ | refine q12 ?_ | refine q13 ?_ | refine q14 ?_ | refine q15 ?_); conv => whnf) | ((refine q16 (fun _ _ _ _ _ => ?_)); conv => whnf) | ((with_reducible first | refine q17 ?_ | refine q18 ?_ | refine q19 ?_ | refine q20 ?_); conv => whnf)))
    refine loop_rule Tryz.tbOk (Nat × Option Addr × Nat × Nat) [27, 6] (fun | (k, bo, n, co) => [.int .i64 (k:Int), .slice bo n co])
      (fun | (k, bo, n, co), w2 => k ≤ ss.length ∧ n = ((ss.take k).map Sl.xs).flatten.length ∧ Own w2 w'.heap.size 3 1 bo n co (ints ((ss.take k).map Sl.xs).flatten) ∧ Ex w' w2) (fun | (k, _, _, _) => ss.length - k)
      (0, b1, 0, c1) rfl ⟨by omega, by simp, by simpa [ints, rowC] using ho1, he1⟩ ?_
    rintro ⟨k, bo, n, co⟩ w2 ⟨hk, hn, hO, he2⟩ u2
    by_cases hlt : k < ss.length
    · have h1 := hpre (k + 1)
      rw [hnext k hlt, List.length_append] at h1
      have hr2 := hr.ex he2
      ((conv => whnf); repeat' (first | ((with_reducible first | refine q1 ?_ | refine q2 ?_); conv => whnf) | (with_reducible refine q3 ?_) | ((with_reducible refine q4 (fun _ => ?_) (fun _ => ?_)) <;> first | (exfalso; omega) | (conv => whnf)) | ((with_reducible first | refine q5 ?_ | refine q6 ?_ | refine q7 ?_ | refine q8 ?_ | refine q9 ?_ | refine q10 ?_ | refine q11 ?_ | refine q12 ?_ | refine q13 ?_ | refine q14 ?_ | refine q15 ?_); conv => whnf) | ((refine q16 (fun _ _ _ _ _ => ?_)); conv => whnf) | ((with_reducible first | refine q17 ?_ | refine q18 ?_ | refine q19 ?_ | refine q20 ?_); conv => whnf)))
      refine IdxA.elem (sz := 1) hr2 (fun _ => rfl) (by decide) rfl k rfl hlt (fun b o hb hc => ?_)
      (conv => whnf)
      refine Load1.mk' (hc 0 _ rfl) ?_
      ((conv => whnf); repeat' (first | ((with_reducible first | refine q1 ?_ | refine q2 ?_); conv => whnf) | (with_reducible refine q3 ?_) | ((with_reducible refine q4 (fun _ => ?_) (fun _ => ?_)) <;> first | (exfalso; omega) | (conv => whnf)) | ((with_reducible first | refine q5 ?_ | refine q6 ?_ | refine q7 ?_ | refine q8 ?_ | refine q9 ?_ | refine q10 ?_ | refine q11 ?_ | refine q12 ?_ | refine q13 ?_ | refine q14 ?_ | refine q15 ?_); conv => whnf) | ((refine q16 (fun _ _ _ _ _ => ?_)); conv => whnf) | ((with_reducible first | refine q17 ?_ | refine q18 ?_ | refine q19 ?_ | refine q20 ?_); conv => whnf)))
      refine RunV.append (e := 3) (sz := 1) (by_ := 8) (m := ss[k].xs.length) (news := ints ss[k].xs) Tryz.tbOk w'.heap.size hO ((hs _ (List.getElem_mem hlt)).ex he2) rfl (by simp) (ints_one _) (by omega) (by omega) rfl (by decide) (by have := he2.size; omega) fun w3 b3 c3 ho3 hg3 hb3 => ?_
      ((conv => whnf); repeat' (first | ((with_reducible first | refine q1 ?_ | refine q2 ?_); conv => whnf) | (with_reducible refine q3 ?_) | ((with_reducible refine q4 (fun _ => ?_) (fun _ => ?_)) <;> first | (exfalso; omega) | (conv => whnf)) | ((with_reducible first | refine q5 ?_ | refine q6 ?_ | refine q7 ?_ | refine q8 ?_ | refine q9 ?_ | refine q10 ?_ | refine q11 ?_ | refine q12 ?_ | refine q13 ?_ | refine q14 ?_ | refine q15 ?_); conv => whnf) | ((refine q16 (fun _ _ _ _ _ => ?_)); conv => whnf) | ((with_reducible first | refine q17 ?_ | refine q18 ?_ | refine q19 ?_ | refine q20 ?_); conv => whnf)))
      refine ⟨(k + 1, b3, n + ss[k].xs.length, c3), rfl, ⟨by omega, by rw [hnext k hlt, List.length_append, hn], ?_, he2.grow hg3 (fun b hb => (hO.blk_ge b hb).1)⟩, by simp only []; omega⟩
      rw [hnext k hlt, ints_append]; exact ho3
    · have : k = ss.length := by omega
      subst this
      rw [List.take_length] at hn hO
      subst hn
      ((conv => whnf); repeat' (first | ((with_reducible first | refine q1 ?_ | refine q2 ?_); conv => whnf) | (with_reducible refine q3 ?_) | ((with_reducible refine q4 (fun _ => ?_) (fun _ => ?_)) <;> first | (exfalso; omega) | (conv => whnf)) | ((with_reducible first | refine q5 ?_ | refine q6 ?_ | refine q7 ?_ | refine q8 ?_ | refine q9 ?_ | refine q10 ?_ | refine q11 ?_ | refine q12 ?_ | refine q13 ?_ | refine q14 ?_ | refine q15 ?_); conv => whnf) | ((refine q16 (fun _ _ _ _ _ => ?_)); conv => whnf) | ((with_reducible first | refine q17 ?_ | refine q18 ?_ | refine q19 ?_ | refine q20 ?_); conv => whnf)))
      exact ⟨bo, co, rfl, hO, he2⟩

theorem Tryz.growLines (n : Nat) (w : World) (hn : n ≤ 1000000000) : CallA Tryz.prog 97 [.slice none 0 0, .int .i64 (n : Int)] w fun v w' => ∃ b c, v = .slice b 0 c ∧ Own w' w.heap.size 79 4 b 0 c [] ∧ Ex w w' := by
  refine callA_intro Tryz.tbOk Tryz.func97 rfl Tryz.ntmps97 Tryz.results97 (by decide) (by simp) ?_
  ((conv => whnf); repeat' (first | ((with_reducible first | refine q1 ?_ | refine q2 ?_); conv => whnf) | (with_reducible refine q3 ?_) | ((with_reducible refine q4 (fun _ => ?_) (fun _ => ?_)) <;> first | (exfalso; omega) | (conv => whnf)) | ((with_reducible first | refine q5 ?_ | refine q6 ?_ | refine q7 ?_ | refine q8 ?_ | refine q9 ?_ | refine q10 ?_ | refine q11 ?_ | refine q12 ?_ | refine q13 ?_ | refine q14 ?_ | refine q15 ?_); conv => whnf) | ((refine q16 (fun _ _ _ _ _ => ?_)); conv => whnf) | ((with_reducible first | refine q17 ?_ | refine q18 ?_ | refine q19 ?_ | refine q20 ?_); conv => whnf)))
  refine RunV.cap (e := 79) (sz := 4) (by_ := 32) Tryz.tbOk rfl ?_
  ((conv => whnf); repeat' (first | ((with_reducible first | refine q1 ?_ | refine q2 ?_); conv => whnf) | (with_reducible refine q3 ?_) | ((with_reducible refine q4 (fun _ => ?_) (fun _ => ?_)) <;> first | (exfalso; omega) | (conv => whnf)) | ((with_reducible first | refine q5 ?_ | refine q6 ?_ | refine q7 ?_ | refine q8 ?_ | refine q9 ?_ | refine q10 ?_ | refine q11 ?_ | refine q12 ?_ | refine q13 ?_ | refine q14 ?_ | refine q15 ?_); conv => whnf) | ((refine q16 (fun _ _ _ _ _ => ?_)); conv => whnf) | ((with_reducible first | refine q17 ?_ | refine q18 ?_ | refine q19 ?_ | refine q20 ?_); conv => whnf)))
  · refine RunV.cap (e := 79) (sz := 4) (by_ := 32) Tryz.tbOk rfl ?_
    ((conv => whnf); repeat' (first | ((with_reducible first | refine q1 ?_ | refine q2 ?_); conv => whnf) | (with_reducible refine q3 ?_) | ((with_reducible refine q4 (fun _ => ?_) (fun _ => ?_)) <;> first | (exfalso; omega) | (conv => whnf)) | ((with_reducible first | refine q5 ?_ | refine q6 ?_ | refine q7 ?_ | refine q8 ?_ | refine q9 ?_ | refine q10 ?_ | refine q11 ?_ | refine q12 ?_ | refine q13 ?_ | refine q14 ?_ | refine q15 ?_); conv => whnf) | ((refine q16 (fun _ _ _ _ _ => ?_)); conv => whnf) | ((with_reducible first | refine q17 ?_ | refine q18 ?_ | refine q19 ?_ | refine q20 ?_); conv => whnf)))
    refine RunV.sliceOwn (e := 79) (sz := 4) (by_ := 32) (T := 79) Tryz.tbOk rfl (Own.nil w w.heap.size 79 4) 0 (.inr rfl) (.inl rfl) rfl (by omega) fun _ => ?_
    ((conv => whnf); repeat' (first | ((with_reducible first | refine q1 ?_ | refine q2 ?_); conv => whnf) | (with_reducible refine q3 ?_) | ((with_reducible refine q4 (fun _ => ?_) (fun _ => ?_)) <;> first | (exfalso; omega) | (conv => whnf)) | ((with_reducible first | refine q5 ?_ | refine q6 ?_ | refine q7 ?_ | refine q8 ?_ | refine q9 ?_ | refine q10 ?_ | refine q11 ?_ | refine q12 ?_ | refine q13 ?_ | refine q14 ?_ | refine q15 ?_); conv => whnf) | ((refine q16 (fun _ _ _ _ _ => ?_)); conv => whnf) | ((with_reducible first | refine q17 ?_ | refine q18 ?_ | refine q19 ?_ | refine q20 ?_); conv => whnf)))
    refine RunV.appendZeros (e := 79) (sz := 4) (by_ := 32) Tryz.tbOk w.heap.size n rfl rfl rfl (by omega) (by omega) (by omega) (by omega) rfl (by omega) fun w' b cap cs hb he hc ho => ?_
    ((conv => whnf); repeat' (first | ((with_reducible first | refine q1 ?_ | refine q2 ?_); conv => whnf) | (with_reducible refine q3 ?_) | ((with_reducible refine q4 (fun _ => ?_) (fun _ => ?_)) <;> first | (exfalso; omega) | (conv => whnf)) | ((with_reducible first | refine q5 ?_ | refine q6 ?_ | refine q7 ?_ | refine q8 ?_ | refine q9 ?_ | refine q10 ?_ | refine q11 ?_ | refine q12 ?_ | refine q13 ?_ | refine q14 ?_ | refine q15 ?_); conv => whnf) | ((refine q16 (fun _ _ _ _ _ => ?_)); conv => whnf) | ((with_reducible first | refine q17 ?_ | refine q18 ?_ | refine q19 ?_ | refine q20 ?_); conv => whnf)))
    refine RunV.sliceOwn (e := 79) (sz := 4) (by_ := 32) Tryz.tbOk rfl ho 0 (.inr rfl) (.inl rfl) rfl (by omega) fun ho' => ?_
    ((conv => whnf); repeat' (first | ((with_reducible first | refine q1 ?_ | refine q2 ?_); conv => whnf) | (with_reducible refine q3 ?_) | ((with_reducible refine q4 (fun _ => ?_) (fun _ => ?_)) <;> first | (exfalso; omega) | (conv => whnf)) | ((with_reducible first | refine q5 ?_ | refine q6 ?_ | refine q7 ?_ | refine q8 ?_ | refine q9 ?_ | refine q10 ?_ | refine q11 ?_ | refine q12 ?_ | refine q13 ?_ | refine q14 ?_ | refine q15 ?_); conv => whnf) | ((refine q16 (fun _ _ _ _ _ => ?_)); conv => whnf) | ((with_reducible first | refine q17 ?_ | refine q18 ?_ | refine q19 ?_ | refine q20 ?_); conv => whnf)))
    exact ⟨_, _, rfl, by simpa using ho', he⟩
  · exact ⟨none, 0, rfl, Own.nil _ _ _ _, Ex.refl w⟩
theorem Tryz.concatLines (base : Option Addr) (cap : Nat) (ss : List SlL) (w : World) (hr : Row w base (rowC (fun s : SlL => [.slice s.base s.xs.length s.cap]) ss)) (hs : ∀ s ∈ ss, Row w s.base (rowC lineC s.xs)) (hl : ss.length < 140737488355328) (ht : (ss.map SlL.xs).flatten.length ≤ 1000000000) :
    CallA Tryz.prog 55 [.slice base ss.length cap] w fun v w' => ∃ b c, v = .slice b (ss.map SlL.xs).flatten.length c ∧ Own w' w.heap.size 79 4 b (ss.map SlL.xs).flatten.length c (rowC lineC (ss.map SlL.xs).flatten) ∧ Ex w w' := by
  have hpre : ∀ k, ((ss.take k).map SlL.xs).flatten.length ≤ (ss.map SlL.xs).flatten.length := by
    intro k
    have : (ss.map SlL.xs).flatten = ((ss.take k).map SlL.xs).flatten ++ ((ss.drop k).map SlL.xs).flatten := by rw [← List.flatten_append, ← List.map_append, List.take_append_drop]
    rw [this, List.length_append]; omega
  have hnext : ∀ k (hk : k < ss.length), ((ss.take (k + 1)).map SlL.xs).flatten = ((ss.take k).map SlL.xs).flatten ++ ss[k].xs := by
    intro k hk
    rw [List.take_succ_eq_append_getElem hk, List.map_append, List.flatten_append]; simp only [List.map_cons, List.map_nil, List.flatten_cons, List.flatten_nil, List.append_nil]
  refine callA_intro Tryz.tbOk Tryz.func55 rfl Tryz.ntmps55 Tryz.results55 (by decide) (by simp) ?_
  ((conv => whnf); repeat' (first | ((with_reducible first | refine q1 ?_ | refine q2 ?_); conv => whnf) | (with_reducible refine q3 ?_) | ((with_reducible refine q4 (fun _ => ?_) (fun _ => ?_)) <;> first | (exfalso; omega) | (conv => whnf)) | ((with_reducible first | refine q5 ?_ | refine q6 ?_ | refine q7 ?_ | refine q8 ?_ | refine q9 ?_ | refine q10 ?_ | refine q11 ?_ | refine q12 ?_ | refine q13 ?_ | refine q14 ?_ | refine q15 ?_); conv => whnf) | ((refine q16 (fun _ _ _ _ _ => ?_)); conv => whnf) | ((with_reducible first | refine q17 ?_ | refine q18 ?_ | refine q19 ?_ | refine q20 ?_); conv => whnf)))
  refine loop_rule Tryz.tbOk (Nat × Int) [11, 3] (fun | (k, n) => [.int .i64 (k:Int), .int .i64 n])
    (fun | (k, n), w' => k ≤ ss.length ∧ n = (((ss.take k).map SlL.xs).flatten.length : Int) ∧ w' = w) (fun | (k, _) => ss.length - k) (0, 0) rfl ⟨by omega, rfl, rfl⟩ ?_
  rintro ⟨k, n⟩ w' ⟨hk, hn, rfl⟩ u
  by_cases hlt : k < ss.length
  · have h1 := hpre (k + 1)
    rw [hnext k hlt, List.length_append] at h1
    ((conv => whnf); repeat' (first | ((with_reducible first | refine q1 ?_ | refine q2 ?_); conv => whnf) | (with_reducible refine q3 ?_) | ((with_reducible refine q4 (fun _ => ?_) (fun _ => ?_)) <;> first | (exfalso; omega) | (conv => whnf)) | ((with_reducible first | refine q5 ?_ | refine q6 ?_ | refine q7 ?_ | refine q8 ?_ | refine q9 ?_ | refine q10 ?_ | refine q11 ?_ | refine q12 ?_ | refine q13 ?_ | refine q14 ?_ | refine q15 ?_); conv => whnf) | ((refine q16 (fun _ _ _ _ _ => ?_)); conv => whnf) | ((with_reducible first | refine q17 ?_ | refine q18 ?_ | refine q19 ?_ | refine q20 ?_); conv => whnf)))
    refine IdxA.elem (sz := 1) hr (fun _ => rfl) (by decide) rfl k rfl hlt (fun b o hb hc => ?_)
    (conv => whnf)
    refine Load1.mk' (hc 0 _ rfl) ?_
    ((conv => whnf); repeat' (first | ((with_reducible first | refine q1 ?_ | refine q2 ?_); conv => whnf) | (with_reducible refine q3 ?_) | ((with_reducible refine q4 (fun _ => ?_) (fun _ => ?_)) <;> first | (exfalso; omega) | (conv => whnf)) | ((with_reducible first | refine q5 ?_ | refine q6 ?_ | refine q7 ?_ | refine q8 ?_ | refine q9 ?_ | refine q10 ?_ | refine q11 ?_ | refine q12 ?_ | refine q13 ?_ | refine q14 ?_ | refine q15 ?_); conv => whnf) | ((refine q16 (fun _ _ _ _ _ => ?_)); conv => whnf) | ((with_reducible first | refine q17 ?_ | refine q18 ?_ | refine q19 ?_ | refine q20 ?_); conv => whnf)))
    exact ⟨(k + 1, _), rfl, ⟨by omega, by rw [hnext k hlt, List.length_append]; omega, rfl⟩, by simp only []; omega⟩
  · have : k = ss.length := by omega
    subst this
    rw [List.take_length] at hn
    subst hn
    ((conv => whnf); repeat' (first | ((with_reducible first | refine q1 ?_ | refine q2 ?_); conv => whnf) | (with_reducible refine q3 ?_) | ((with_reducible refine q4 (fun _ => ?_) (fun _ => ?_)) <;> first | (exfalso; omega) | (conv => whnf)) | ((with_reducible first | refine q5 ?_ | refine q6 ?_ | refine q7 ?_ | refine q8 ?_ | refine q9 ?_ | refine q10 ?_ | refine q11 ?_ | refine q12 ?_ | refine q13 ?_ | refine q14 ?_ | refine q15 ?_); conv => whnf) | ((refine q16 (fun _ _ _ _ _ => ?_)); conv => whnf) | ((with_reducible first | refine q17 ?_ | refine q18 ?_ | refine q19 ?_ | refine q20 ?_); conv => whnf)))
    refine CallA.mono (Tryz.growLines _ w' ht) ?_
    rintro v w1 ⟨b1, c1, rfl, ho1, he1⟩
    ((conv => whnf); repeat' (first | ((with_reducible first | refine q1 ?_ | refine q2 ?_); conv => whnf) | (with_reducible refine q3 ?_) | ((with_reducible refine q4 (fun _ => ?_) (fun _ => ?_)) <;> first | (exfalso; omega) | (conv => whnf)) | ((with_reducible first | refine q5 ?_ | refine q6 ?_ | refine q7 ?_ | refine q8 ?_ | refine q9 ?_ | refine q10 ?_ | refine q11 ?_ | refine q12 ?_ | refine q13 ?_ | refine q14 ?_ | refine q15 ?_); conv => whnf) | ((refine q16 (fun _ _ _ _ _ => ?_)); conv => whnf) | ((with_reducible first | refine q17 ?_ | refine q18 ?_ | refine q19 ?_ | refine q20 ?_); conv => whnf)))
    refine loop_rule Tryz.tbOk (Nat × Option Addr × Nat × Nat) [27, 6] (fun | (k, bo, n, co) => [.int .i64 (k:Int), .slice bo n co])
      (fun | (k, bo, n, co), w2 => k ≤ ss.length ∧ n = ((ss.take k).map SlL.xs).flatten.length ∧ Own w2 w'.heap.size 79 4 bo n co (rowC lineC ((ss.take k).map SlL.xs).flatten) ∧ Ex w' w2) (fun | (k, _, _, _) => ss.length - k)
      (0, b1, 0, c1) rfl ⟨by omega, by simp, by simpa [ints, rowC] using ho1, he1⟩ ?_
    rintro ⟨k, bo, n, co⟩ w2 ⟨hk, hn, hO, he2⟩ u2
    by_cases hlt : k < ss.length
    · have h1 := hpre (k + 1)
      rw [hnext k hlt, List.length_append] at h1
      have hr2 := hr.ex he2
      ((conv => whnf); repeat' (first | ((with_reducible first | refine q1 ?_ | refine q2 ?_); conv => whnf) | (with_reducible refine q3 ?_) | ((with_reducible refine q4 (fun _ => ?_) (fun _ => ?_)) <;> first | (exfalso; omega) | (conv => whnf)) | ((with_reducible first | refine q5 ?_ | refine q6 ?_ | refine q7 ?_ | refine q8 ?_ | refine q9 ?_ | refine q10 ?_ | refine q11 ?_ | refine q12 ?_ | refine q13 ?_ | refine q14 ?_ | refine q15 ?_); conv => whnf) | ((refine q16 (fun _ _ _ _ _ => ?_)); conv => whnf) | ((with_reducible first | refine q17 ?_ | refine q18 ?_ | refine q19 ?_ | refine q20 ?_); conv => whnf)))
      refine IdxA.elem (sz := 1) hr2 (fun _ => rfl) (by decide) rfl k rfl hlt (fun b o hb hc => ?_)
      (conv => whnf)
      refine Load1.mk' (hc 0 _ rfl) ?_
      ((conv => whnf); repeat' (first | ((with_reducible first | refine q1 ?_ | refine q2 ?_); conv => whnf) | (with_reducible refine q3 ?_) | ((with_reducible refine q4 (fun _ => ?_) (fun _ => ?_)) <;> first | (exfalso; omega) | (conv => whnf)) | ((with_reducible first | refine q5 ?_ | refine q6 ?_ | refine q7 ?_ | refine q8 ?_ | refine q9 ?_ | refine q10 ?_ | refine q11 ?_ | refine q12 ?_ | refine q13 ?_ | refine q14 ?_ | refine q15 ?_); conv => whnf) | ((refine q16 (fun _ _ _ _ _ => ?_)); conv => whnf) | ((with_reducible first | refine q17 ?_ | refine q18 ?_ | refine q19 ?_ | refine q20 ?_); conv => whnf)))
      refine RunV.append (e := 79) (sz := 4) (by_ := 32) (m := ss[k].xs.length) (news := rowC lineC ss[k].xs) Tryz.tbOk w'.heap.size hO ((hs _ (List.getElem_mem hlt)).ex he2) rfl (rowC_length (sz := 4) (fun _ => rfl) _) (rowC_one lineC_one _) (by omega) (by omega) rfl (by decide) (by have := he2.size; omega) fun w3 b3 c3 ho3 hg3 hb3 => ?_
      ((conv => whnf); repeat' (first | ((with_reducible first | refine q1 ?_ | refine q2 ?_); conv => whnf) | (with_reducible refine q3 ?_) | ((with_reducible refine q4 (fun _ => ?_) (fun _ => ?_)) <;> first | (exfalso; omega) | (conv => whnf)) | ((with_reducible first | refine q5 ?_ | refine q6 ?_ | refine q7 ?_ | refine q8 ?_ | refine q9 ?_ | refine q10 ?_ | refine q11 ?_ | refine q12 ?_ | refine q13 ?_ | refine q14 ?_ | refine q15 ?_); conv => whnf) | ((refine q16 (fun _ _ _ _ _ => ?_)); conv => whnf) | ((with_reducible first | refine q17 ?_ | refine q18 ?_ | refine q19 ?_ | refine q20 ?_); conv => whnf)))
      refine ⟨(k + 1, b3, n + ss[k].xs.length, c3), rfl, ⟨by omega, by rw [hnext k hlt, List.length_append, hn], ?_, he2.grow hg3 (fun b hb => (hO.blk_ge b hb).1)⟩, by simp only []; omega⟩
      rw [hnext k hlt, rowC_append]; exact ho3
    · have : k = ss.length := by omega
      subst this
      rw [List.take_length] at hn hO
      subst hn
      ((conv => whnf); repeat' (first | ((with_reducible first | refine q1 ?_ | refine q2 ?_); conv => whnf) | (with_reducible refine q3 ?_) | ((with_reducible refine q4 (fun _ => ?_) (fun _ => ?_)) <;> first | (exfalso; omega) | (conv => whnf)) | ((with_reducible first | refine q5 ?_ | refine q6 ?_ | refine q7 ?_ | refine q8 ?_ | refine q9 ?_ | refine q10 ?_ | refine q11 ?_ | refine q12 ?_ | refine q13 ?_ | refine q14 ?_ | refine q15 ?_); conv => whnf) | ((refine q16 (fun _ _ _ _ _ => ?_)); conv => whnf) | ((with_reducible first | refine q17 ?_ | refine q18 ?_ | refine q19 ?_ | refine q20 ?_); conv => whnf)))
      exact ⟨bo, co, rfl, hO, he2⟩
end Go.Proofs
