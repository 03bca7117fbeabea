/-
  L5: a part of the proof. By an AI agent.
-/
import Derived.Test.YtpeihahmhpamoaaGreatVQ
import Derived.Test.YtpeihahmhpamoaaGreatV9
import Derived.Test.YtpeihahmhpamoaaGreatL4
set_option linter.all false
namespace Go.Proofs
open Go.V
open Go.RowKit (Below)
/-! ### a polynomial times x less a root -/
def lastM (p : Int) : List Int → Int
  | [] => p
  | n :: t => lastM n t
def initM (r p : Int) : List Int → List Int
  | [] => []
  | n :: t => ((p - r * n) % 65521) :: initM r n t
def timesM (c : List Int) (r : Int) : List Int := initM r 0 c ++ [lastM 0 c]
theorem initM_length (r : Int) : ∀ (l : List Int) (p : Int), (initM r p l).length = l.length
  | [], _ => rfl
  | n :: t, p => by simp [initM, initM_length r t n]
theorem lastM_snoc (n : Int) : ∀ (l : List Int) (p : Int), lastM p (l ++ [n]) = n
  | [], _ => rfl
  | m :: t, p => by simp [lastM, lastM_snoc n t m]
theorem initM_snoc (r n : Int) : ∀ (l : List Int) (p : Int), initM r p (l ++ [n]) = initM r p l ++ [(lastM p l - r * n) % 65521]
  | [], _ => rfl
  | m :: t, p => by simp [initM, lastM, initM_snoc r n t m]
theorem lastM_range : ∀ (l : List Int) (p : Int), (∀ n ∈ l, 0 ≤ n ∧ n ≤ 65520) → (0 ≤ p ∧ p ≤ 65520) → 0 ≤ lastM p l ∧ lastM p l ≤ 65520
  | [], _, _, h => h
  | m :: t, _, h, _ => lastM_range t m (fun n hn => h n (by simp [hn])) (h m (by simp))
theorem initM_range (r : Int) : ∀ (l : List Int) (p : Int), ∀ n ∈ initM r p l, 0 ≤ n ∧ n ≤ 65520
  | [], _, n, h => by simp [initM] at h
  | m :: t, p, n, h => by
    simp only [initM, List.mem_cons] at h
    rcases h with rfl | h
    · omega
    · exact initM_range r t m n h
theorem timesM_range {c : List Int} (r : Int) (hc : ∀ n ∈ c, 0 ≤ n ∧ n ≤ 65520) : ∀ n ∈ timesM c r, 0 ≤ n ∧ n ≤ 65520 := by
  intro n hn
  simp only [timesM, List.mem_append, List.mem_singleton] at hn
  rcases hn with hn | rfl
  · exact initM_range r c 0 n hn
  · exact lastM_range c 0 hc (by omega)
theorem timesM_length (c : List Int) (r : Int) : (timesM c r).length = c.length + 1 := by simp [timesM, initM_length]
def tAt (c : List Int) (r : Int) (k : Nat) : List Int := initM r 0 (c.take k) ++ lastM 0 (c.take k) :: List.replicate (c.length - k) 0
theorem tAt_length {c : List Int} {r : Int} {k : Nat} (hk : k ≤ c.length) : (tAt c r k).length = c.length + 1 := by simp [tAt, initM_length]; omega
theorem tAt_next {c : List Int} {r : Int} {k : Nat} (hk : k < c.length) (hw : 0 ≤ c[k] ∧ c[k] ≤ 65520) :
    (tAt c r k)[k + 1]? = some 0 ∧ (tAt c r k)[k]? = some (lastM 0 (c.take k)) ∧ ((tAt c r k).set (k + 1) c[k])[k]? = some (lastM 0 (c.take k)) ∧
    ((tAt c r k).set (k + 1) c[k]).set k ((lastM 0 (c.take k) - r * c[k]) % 65521) = tAt c r (k + 1) := by
  have hI : (initM r 0 (c.take k)).length = k := by rw [initM_length]; simp; omega
  have hz : c.length - k = (c.length - (k + 1)) + 1 := by omega
  unfold tAt
  rw [hz, List.replicate_succ, List.take_succ_eq_append_getElem hk, initM_snoc, lastM_snoc]
  generalize initM r 0 (c.take k) = I at *
  generalize lastM 0 (c.take k) = L at *
  subst hI
  refine ⟨by simp, by simp, by simp, ?_⟩
  simp [List.set_append]
theorem Tryz.times (base : Option Addr) (cap : Nat) (xs : List Int) (r : Int) (w : World) (hr : Row w base (ints xs)) (hl : xs.length < 17592186044416) (hw : ∀ n ∈ xs, 0 ≤ n ∧ n ≤ 65520) (hrt : 0 ≤ r ∧ r ≤ 65520) :
    CallA Tryz.prog 120 [.slice base xs.length cap, .int .i64 r] w (RetI w (timesM xs r)) := by
  refine callA_intro Tryz.tbOk Tryz.func120 rfl Tryz.ntmps120 Tryz.results120 (by decide) (by simp) ?_
  ((conv => whnf); repeat' (first | ((with_reducible first | refine q1 ?_ | refine q2 ?_); conv => whnf) | (with_reducible refine q3 ?_) | ((with_reducible refine q4 (fun _ => ?_) (fun _ => ?_)) <;> first | (exfalso; omega) | (conv => whnf)) | ((with_reducible first | refine q5 ?_ | refine q6 ?_ | refine q7 ?_ | refine q8 ?_ | refine q9 ?_ | refine q10 ?_ | refine q11 ?_ | refine q12 ?_ | refine q13 ?_ | refine q14 ?_ | refine q15 ?_); conv => whnf) | ((refine q16 (fun _ _ _ _ _ => ?_)); conv => whnf) | ((with_reducible first | refine q17 ?_ | refine q18 ?_ | refine q19 ?_ | refine q20 ?_); conv => whnf)))
  refine RunV.make (e := 3) (sz := 1) (by_ := 8) Tryz.tbOk w.heap.size (xs.length + 1) (xs.length + 1) rfl (by simp) (by simp) (by omega) (by omega) (by omega) rfl (by decide) (by omega) fun w1 b hb hs he ho => ?_
  ((conv => whnf); repeat' (first | ((with_reducible first | refine q1 ?_ | refine q2 ?_); conv => whnf) | (with_reducible refine q3 ?_) | ((with_reducible refine q4 (fun _ => ?_) (fun _ => ?_)) <;> first | (exfalso; omega) | (conv => whnf)) | ((with_reducible first | refine q5 ?_ | refine q6 ?_ | refine q7 ?_ | refine q8 ?_ | refine q9 ?_ | refine q10 ?_ | refine q11 ?_ | refine q12 ?_ | refine q13 ?_ | refine q14 ?_ | refine q15 ?_); conv => whnf) | ((refine q16 (fun _ _ _ _ _ => ?_)); conv => whnf) | ((with_reducible first | refine q17 ?_ | refine q18 ?_ | refine q19 ?_ | refine q20 ?_); conv => whnf)))
  refine loop_rule Tryz.tbOk Nat [14] (fun k => [.int .i64 (k:Int)]) (fun k w' => k ≤ xs.length ∧ Own w' w.heap.size 3 1 (some ⟨b, 0, none⟩) (xs.length + 1) (xs.length + 1) (ints (tAt xs r k)) ∧ Ex w w') (fun k => xs.length - k) 0 rfl ⟨by omega, ?_, he⟩ ?_
  · have : reps (xs.length + 1) [Value.int .i64 0] = ints (tAt xs r 0) := by
      rw [ints_rep]; simp [tAt, initM, lastM, List.replicate_succ]
    rw [← this]; exact ho
  rintro k w' ⟨hk, ho', he'⟩ u
  have hr' := hr.ex he'
  have hrow := ho'.row
  ((conv => whnf); repeat' (first | ((with_reducible first | refine q1 ?_ | refine q2 ?_); conv => whnf) | (with_reducible refine q3 ?_) | ((with_reducible refine q4 (fun _ => ?_) (fun _ => ?_)) <;> first | (exfalso; omega) | (conv => whnf)) | ((with_reducible first | refine q5 ?_ | refine q6 ?_ | refine q7 ?_ | refine q8 ?_ | refine q9 ?_ | refine q10 ?_ | refine q11 ?_ | refine q12 ?_ | refine q13 ?_ | refine q14 ?_ | refine q15 ?_); conv => whnf) | ((refine q16 (fun _ _ _ _ _ => ?_)); conv => whnf) | ((with_reducible first | refine q17 ?_ | refine q18 ?_ | refine q19 ?_ | refine q20 ?_); conv => whnf)))
  · rename_i hlt
    have hlt : k < xs.length := by omega
    have hwk := hw _ (List.getElem_mem hlt)
    obtain ⟨h1, h2, h3, h4⟩ := tAt_next (r := r) hlt hwk
    have hll := lastM_range (xs.take k) 0 (fun n hn => hw n (List.mem_of_mem_take hn)) (by omega)
    have hm := mul_word (show 0 ≤ r ∧ r < 65521 by omega) (show 0 ≤ xs[k] ∧ xs[k] < 65521 by omega)
    refine IdxA.at_ hrow (tAt_length hk).symm (k + 1) h1 (by omega) fun _ _ _ hc1 => ?_
    ((conv => whnf); repeat' (first | ((with_reducible first | refine q1 ?_ | refine q2 ?_); conv => whnf) | (with_reducible refine q3 ?_) | ((with_reducible refine q4 (fun _ => ?_) (fun _ => ?_)) <;> first | (exfalso; omega) | (conv => whnf)) | ((with_reducible first | refine q5 ?_ | refine q6 ?_ | refine q7 ?_ | refine q8 ?_ | refine q9 ?_ | refine q10 ?_ | refine q11 ?_ | refine q12 ?_ | refine q13 ?_ | refine q14 ?_ | refine q15 ?_); conv => whnf) | ((refine q16 (fun _ _ _ _ _ => ?_)); conv => whnf) | ((with_reducible first | refine q17 ?_ | refine q18 ?_ | refine q19 ?_ | refine q20 ?_); conv => whnf)))
    refine CallA.mono (Tryz.mod _ _ (by omega)) ?_; rintro v w2 ⟨rfl, rfl⟩; ((conv => whnf); repeat' (first | ((with_reducible first | refine q1 ?_ | refine q2 ?_); conv => whnf) | (with_reducible refine q3 ?_) | ((with_reducible refine q4 (fun _ => ?_) (fun _ => ?_)) <;> first | (exfalso; omega) | (conv => whnf)) | ((with_reducible first | refine q5 ?_ | refine q6 ?_ | refine q7 ?_ | refine q8 ?_ | refine q9 ?_ | refine q10 ?_ | refine q11 ?_ | refine q12 ?_ | refine q13 ?_ | refine q14 ?_ | refine q15 ?_); conv => whnf) | ((refine q16 (fun _ _ _ _ _ => ?_)); conv => whnf) | ((with_reducible first | refine q17 ?_ | refine q18 ?_ | refine q19 ?_ | refine q20 ?_); conv => whnf)))
    refine IdxA.own1 ho' (k + 1) (by omega) (by omega) fun b' hb' _ => ?_
    ((conv => whnf); repeat' (first | ((with_reducible first | refine q1 ?_ | refine q2 ?_); conv => whnf) | (with_reducible refine q3 ?_) | ((with_reducible refine q4 (fun _ => ?_) (fun _ => ?_)) <;> first | (exfalso; omega) | (conv => whnf)) | ((with_reducible first | refine q5 ?_ | refine q6 ?_ | refine q7 ?_ | refine q8 ?_ | refine q9 ?_ | refine q10 ?_ | refine q11 ?_ | refine q12 ?_ | refine q13 ?_ | refine q14 ?_ | refine q15 ?_); conv => whnf) | ((refine q16 (fun _ _ _ _ _ => ?_)); conv => whnf) | ((with_reducible first | refine q17 ?_ | refine q18 ?_ | refine q19 ?_ | refine q20 ?_); conv => whnf)))
    refine StoreA.own1 ho' hb' (by omega) rfl fun w2 hu2 ho2 => ?_
    rw [ints_set, show (0 + xs[k]) % 65521 = xs[k] by omega] at ho2
    have hx2 := hr.ex (he'.upd hu2 (by simp at hb'; omega))
    ((conv => whnf); repeat' (first | ((with_reducible first | refine q1 ?_ | refine q2 ?_); conv => whnf) | (with_reducible refine q3 ?_) | ((with_reducible refine q4 (fun _ => ?_) (fun _ => ?_)) <;> first | (exfalso; omega) | (conv => whnf)) | ((with_reducible first | refine q5 ?_ | refine q6 ?_ | refine q7 ?_ | refine q8 ?_ | refine q9 ?_ | refine q10 ?_ | refine q11 ?_ | refine q12 ?_ | refine q13 ?_ | refine q14 ?_ | refine q15 ?_); conv => whnf) | ((refine q16 (fun _ _ _ _ _ => ?_)); conv => whnf) | ((with_reducible first | refine q17 ?_ | refine q18 ?_ | refine q19 ?_ | refine q20 ?_); conv => whnf)))
    refine IdxA.at_ ho2.row (by simp [tAt_length hk]) k h3 rfl fun _ _ _ hc2 => ?_
    ((conv => whnf); repeat' (first | ((with_reducible first | refine q1 ?_ | refine q2 ?_); conv => whnf) | (with_reducible refine q3 ?_) | ((with_reducible refine q4 (fun _ => ?_) (fun _ => ?_)) <;> first | (exfalso; omega) | (conv => whnf)) | ((with_reducible first | refine q5 ?_ | refine q6 ?_ | refine q7 ?_ | refine q8 ?_ | refine q9 ?_ | refine q10 ?_ | refine q11 ?_ | refine q12 ?_ | refine q13 ?_ | refine q14 ?_ | refine q15 ?_); conv => whnf) | ((refine q16 (fun _ _ _ _ _ => ?_)); conv => whnf) | ((with_reducible first | refine q17 ?_ | refine q18 ?_ | refine q19 ?_ | refine q20 ?_); conv => whnf)))
    refine CallA.mono (Tryz.mod _ _ (by omega)) ?_; rintro v w3 ⟨rfl, rfl⟩; ((conv => whnf); repeat' (first | ((with_reducible first | refine q1 ?_ | refine q2 ?_); conv => whnf) | (with_reducible refine q3 ?_) | ((with_reducible refine q4 (fun _ => ?_) (fun _ => ?_)) <;> first | (exfalso; omega) | (conv => whnf)) | ((with_reducible first | refine q5 ?_ | refine q6 ?_ | refine q7 ?_ | refine q8 ?_ | refine q9 ?_ | refine q10 ?_ | refine q11 ?_ | refine q12 ?_ | refine q13 ?_ | refine q14 ?_ | refine q15 ?_); conv => whnf) | ((refine q16 (fun _ _ _ _ _ => ?_)); conv => whnf) | ((with_reducible first | refine q17 ?_ | refine q18 ?_ | refine q19 ?_ | refine q20 ?_); conv => whnf)))
    refine IdxA.own1 ho2 k rfl (by omega) fun b' hb' _ => ?_
    ((conv => whnf); repeat' (first | ((with_reducible first | refine q1 ?_ | refine q2 ?_); conv => whnf) | (with_reducible refine q3 ?_) | ((with_reducible refine q4 (fun _ => ?_) (fun _ => ?_)) <;> first | (exfalso; omega) | (conv => whnf)) | ((with_reducible first | refine q5 ?_ | refine q6 ?_ | refine q7 ?_ | refine q8 ?_ | refine q9 ?_ | refine q10 ?_ | refine q11 ?_ | refine q12 ?_ | refine q13 ?_ | refine q14 ?_ | refine q15 ?_); conv => whnf) | ((refine q16 (fun _ _ _ _ _ => ?_)); conv => whnf) | ((with_reducible first | refine q17 ?_ | refine q18 ?_ | refine q19 ?_ | refine q20 ?_); conv => whnf)))
    refine StoreA.own1 ho2 hb' (by omega) rfl fun w3 hu3 ho3 => ?_
    rw [ints_set, h4] at ho3
    ((conv => whnf); repeat' (first | ((with_reducible first | refine q1 ?_ | refine q2 ?_); conv => whnf) | (with_reducible refine q3 ?_) | ((with_reducible refine q4 (fun _ => ?_) (fun _ => ?_)) <;> first | (exfalso; omega) | (conv => whnf)) | ((with_reducible first | refine q5 ?_ | refine q6 ?_ | refine q7 ?_ | refine q8 ?_ | refine q9 ?_ | refine q10 ?_ | refine q11 ?_ | refine q12 ?_ | refine q13 ?_ | refine q14 ?_ | refine q15 ?_); conv => whnf) | ((refine q16 (fun _ _ _ _ _ => ?_)); conv => whnf) | ((with_reducible first | refine q17 ?_ | refine q18 ?_ | refine q19 ?_ | refine q20 ?_); conv => whnf)))
    exact ⟨k + 1, rfl, ⟨by omega, ho3, (he'.upd hu2 (by simp at hb'; omega)).upd hu3 (by simp at hb'; omega)⟩, by omega⟩
  · have hk : k = xs.length := by omega
    subst hk
    refine ⟨_, _, by rw [timesM_length], ?_, he'⟩
    rw [timesM_length]
    have : tAt xs r xs.length = timesM xs r := by simp [tAt, timesM]
    rw [← this]; exact ho'
end Go.Proofs
