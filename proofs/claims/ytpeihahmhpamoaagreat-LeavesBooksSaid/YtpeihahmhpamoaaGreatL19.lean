/-
  L19: a part of the proof. By an AI agent.
-/
import Derived.Test.YtpeihahmhpamoaaGreatVQ
import Derived.Test.YtpeihahmhpamoaaGreatV10
import Derived.Test.YtpeihahmhpamoaaGreatL18
import Derived.Shelf.SlSortCmp.NoneTotal
import Derived.Ground.SlsfProg
import Derived.Test.YtpeihahmhpamoaaGreatLay
set_option linter.all false
namespace Go.Proofs
open Go.V
open Go.RowKit (Below)
open Go.Sort (flatK size_flatK get_flatK HoldsK putRowK PermIn SortedIn)
/-! ### the order of lines -/
/-- only draws, and new blocks -/
def Gw (w w' : World) : Prop := Ex w w' ∧ w.drawn ≤ w'.drawn
def cmpI (a b : Int) : Int := if a < b then -1 else if b < a then 1 else 0
theorem Tryz.isNaN (x : Int) (w : World) : CallA Tryz.prog 127 [.int .i64 x] w fun v w' => v = .bool false ∧ w' = w := by
  refine callA_intro Tryz.tbOk Tryz.func127 rfl Tryz.ntmps127 Tryz.results127 (by decide) (by simp) ?_
  ((conv => whnf); repeat' (first | ((with_reducible first | refine q1 ?_ | refine q2 ?_); conv => whnf) | (with_reducible refine q3 ?_) | ((with_reducible refine q4 (fun _ => ?_) (fun _ => ?_)) <;> first | (exfalso; omega) | (conv => whnf)) | ((with_reducible first | refine q5 ?_ | refine q6 ?_ | refine q7 ?_ | refine q8 ?_ | refine q9 ?_ | refine q10 ?_ | refine q11 ?_ | refine q12 ?_ | refine q13 ?_ | refine q14 ?_ | refine q15 ?_); conv => whnf) | ((refine q16 (fun _ _ _ _ _ => ?_)); conv => whnf) | ((with_reducible first | refine q17 ?_ | refine q18 ?_ | refine q19 ?_ | refine q20 ?_); conv => whnf)))
  exact ⟨by simp, rfl⟩
theorem Tryz.compare (x y : Int) (w : World) : CallA Tryz.prog 94 [.int .i64 x, .int .i64 y] w fun v w' => v = .int .i64 (cmpI x y) ∧ w' = w := by
  refine callA_intro Tryz.tbOk Tryz.func94 rfl Tryz.ntmps94 Tryz.results94 (by decide) (by simp) ?_
  ((conv => whnf); repeat' (first | ((with_reducible first | refine q1 ?_ | refine q2 ?_); conv => whnf) | (with_reducible refine q3 ?_) | ((with_reducible refine q4 (fun _ => ?_) (fun _ => ?_)) <;> first | (exfalso; omega) | (conv => whnf)) | ((with_reducible first | refine q5 ?_ | refine q6 ?_ | refine q7 ?_ | refine q8 ?_ | refine q9 ?_ | refine q10 ?_ | refine q11 ?_ | refine q12 ?_ | refine q13 ?_ | refine q14 ?_ | refine q15 ?_); conv => whnf) | ((refine q16 (fun _ _ _ _ _ => ?_)); conv => whnf) | ((with_reducible first | refine q17 ?_ | refine q18 ?_ | refine q19 ?_ | refine q20 ?_); conv => whnf)))
  refine CallA.mono (Tryz.isNaN _ _) ?_; rintro v w1 ⟨rfl, rfl⟩; ((conv => whnf); repeat' (first | ((with_reducible first | refine q1 ?_ | refine q2 ?_); conv => whnf) | (with_reducible refine q3 ?_) | ((with_reducible refine q4 (fun _ => ?_) (fun _ => ?_)) <;> first | (exfalso; omega) | (conv => whnf)) | ((with_reducible first | refine q5 ?_ | refine q6 ?_ | refine q7 ?_ | refine q8 ?_ | refine q9 ?_ | refine q10 ?_ | refine q11 ?_ | refine q12 ?_ | refine q13 ?_ | refine q14 ?_ | refine q15 ?_); conv => whnf) | ((refine q16 (fun _ _ _ _ _ => ?_)); conv => whnf) | ((with_reducible first | refine q17 ?_ | refine q18 ?_ | refine q19 ?_ | refine q20 ?_); conv => whnf)))
  refine CallA.mono (Tryz.isNaN _ _) ?_; rintro v w1 ⟨rfl, rfl⟩; ((conv => whnf); repeat' (first | ((with_reducible first | refine q1 ?_ | refine q2 ?_); conv => whnf) | (with_reducible refine q3 ?_) | ((with_reducible refine q4 (fun _ => ?_) (fun _ => ?_)) <;> first | (exfalso; omega) | (conv => whnf)) | ((with_reducible first | refine q5 ?_ | refine q6 ?_ | refine q7 ?_ | refine q8 ?_ | refine q9 ?_ | refine q10 ?_ | refine q11 ?_ | refine q12 ?_ | refine q13 ?_ | refine q14 ?_ | refine q15 ?_); conv => whnf) | ((refine q16 (fun _ _ _ _ _ => ?_)); conv => whnf) | ((with_reducible first | refine q17 ?_ | refine q18 ?_ | refine q19 ?_ | refine q20 ?_); conv => whnf)))
  all_goals (refine ⟨?_, rfl⟩; simp only [cmpI]; congr 1; (repeat' split) <;> omega)
theorem Tryz.orInt (base : Option Addr) (cap : Nat) (a b : Int) (w : World) (hr : Row w base (ints [a, b])) : CallA Tryz.prog 93 [.slice base 2 cap] w fun v w' => v = .int .i64 (if a ≠ 0 then a else b) ∧ w' = w := by
  refine callA_intro Tryz.tbOk Tryz.func93 rfl Tryz.ntmps93 Tryz.results93 (by decide) (by simp) ?_
  ((conv => whnf); repeat' (first | ((with_reducible first | refine q1 ?_ | refine q2 ?_); conv => whnf) | (with_reducible refine q3 ?_) | ((with_reducible refine q4 (fun _ => ?_) (fun _ => ?_)) <;> first | (exfalso; omega) | (conv => whnf)) | ((with_reducible first | refine q5 ?_ | refine q6 ?_ | refine q7 ?_ | refine q8 ?_ | refine q9 ?_ | refine q10 ?_ | refine q11 ?_ | refine q12 ?_ | refine q13 ?_ | refine q14 ?_ | refine q15 ?_); conv => whnf) | ((refine q16 (fun _ _ _ _ _ => ?_)); conv => whnf) | ((with_reducible first | refine q17 ?_ | refine q18 ?_ | refine q19 ?_ | refine q20 ?_); conv => whnf)))
  refine loop_rule Tryz.tbOk Nat [8] (fun k => [.int .i64 (k:Int)]) (fun k w' => k ≤ 2 ∧ w' = w ∧ (1 ≤ k → a = 0) ∧ (2 ≤ k → b = 0)) (fun k => 2 - k) 0 rfl ⟨by omega, rfl, by omega, by omega⟩ ?_
  rintro k w' ⟨hk, rfl, h1, h2⟩ u
  rcases (show k = 0 ∨ k = 1 ∨ k = 2 by omega) with rfl | rfl | rfl
  · ((conv => whnf); repeat' (first | ((with_reducible first | refine q1 ?_ | refine q2 ?_); conv => whnf) | (with_reducible refine q3 ?_) | ((with_reducible refine q4 (fun _ => ?_) (fun _ => ?_)) <;> first | (exfalso; omega) | (conv => whnf)) | ((with_reducible first | refine q5 ?_ | refine q6 ?_ | refine q7 ?_ | refine q8 ?_ | refine q9 ?_ | refine q10 ?_ | refine q11 ?_ | refine q12 ?_ | refine q13 ?_ | refine q14 ?_ | refine q15 ?_); conv => whnf) | ((refine q16 (fun _ _ _ _ _ => ?_)); conv => whnf) | ((with_reducible first | refine q17 ?_ | refine q18 ?_ | refine q19 ?_ | refine q20 ?_); conv => whnf)))
    refine IdxA.at_ hr rfl 0 rfl rfl fun _ _ _ hc => ?_
    ((conv => whnf); repeat' (first | ((with_reducible first | refine q1 ?_ | refine q2 ?_); conv => whnf) | (with_reducible refine q3 ?_) | ((with_reducible refine q4 (fun _ => ?_) (fun _ => ?_)) <;> first | (exfalso; omega) | (conv => whnf)) | ((with_reducible first | refine q5 ?_ | refine q6 ?_ | refine q7 ?_ | refine q8 ?_ | refine q9 ?_ | refine q10 ?_ | refine q11 ?_ | refine q12 ?_ | refine q13 ?_ | refine q14 ?_ | refine q15 ?_); conv => whnf) | ((refine q16 (fun _ _ _ _ _ => ?_)); conv => whnf) | ((with_reducible first | refine q17 ?_ | refine q18 ?_ | refine q19 ?_ | refine q20 ?_); conv => whnf)))
    · rename_i h
      exact ⟨by rw [if_pos h], rfl⟩
    · rename_i h
      exact ⟨1, rfl, ⟨by omega, rfl, fun _ => by omega, by omega⟩, by omega⟩
  · have ha := h1 (by omega)
    ((conv => whnf); repeat' (first | ((with_reducible first | refine q1 ?_ | refine q2 ?_); conv => whnf) | (with_reducible refine q3 ?_) | ((with_reducible refine q4 (fun _ => ?_) (fun _ => ?_)) <;> first | (exfalso; omega) | (conv => whnf)) | ((with_reducible first | refine q5 ?_ | refine q6 ?_ | refine q7 ?_ | refine q8 ?_ | refine q9 ?_ | refine q10 ?_ | refine q11 ?_ | refine q12 ?_ | refine q13 ?_ | refine q14 ?_ | refine q15 ?_); conv => whnf) | ((refine q16 (fun _ _ _ _ _ => ?_)); conv => whnf) | ((with_reducible first | refine q17 ?_ | refine q18 ?_ | refine q19 ?_ | refine q20 ?_); conv => whnf)))
    refine IdxA.at_ hr rfl 1 rfl rfl fun _ _ _ hc => ?_
    ((conv => whnf); repeat' (first | ((with_reducible first | refine q1 ?_ | refine q2 ?_); conv => whnf) | (with_reducible refine q3 ?_) | ((with_reducible refine q4 (fun _ => ?_) (fun _ => ?_)) <;> first | (exfalso; omega) | (conv => whnf)) | ((with_reducible first | refine q5 ?_ | refine q6 ?_ | refine q7 ?_ | refine q8 ?_ | refine q9 ?_ | refine q10 ?_ | refine q11 ?_ | refine q12 ?_ | refine q13 ?_ | refine q14 ?_ | refine q15 ?_); conv => whnf) | ((refine q16 (fun _ _ _ _ _ => ?_)); conv => whnf) | ((with_reducible first | refine q17 ?_ | refine q18 ?_ | refine q19 ?_ | refine q20 ?_); conv => whnf)))
    · rename_i h
      exact ⟨by rw [if_neg (by omega)], rfl⟩
    · rename_i h
      exact ⟨2, rfl, ⟨by omega, rfl, fun _ => ha, fun _ => by omega⟩, by omega⟩
  · ((conv => whnf); repeat' (first | ((with_reducible first | refine q1 ?_ | refine q2 ?_); conv => whnf) | (with_reducible refine q3 ?_) | ((with_reducible refine q4 (fun _ => ?_) (fun _ => ?_)) <;> first | (exfalso; omega) | (conv => whnf)) | ((with_reducible first | refine q5 ?_ | refine q6 ?_ | refine q7 ?_ | refine q8 ?_ | refine q9 ?_ | refine q10 ?_ | refine q11 ?_ | refine q12 ?_ | refine q13 ?_ | refine q14 ?_ | refine q15 ?_); conv => whnf) | ((refine q16 (fun _ _ _ _ _ => ?_)); conv => whnf) | ((with_reducible first | refine q17 ?_ | refine q18 ?_ | refine q19 ?_ | refine q20 ?_); conv => whnf)))
    have ha := h1 (by omega)
    have hb := h2 (by omega)
    exact ⟨by rw [if_neg (by omega), hb], rfl⟩
/-- lines by Day and ID -/
def lineCf (x y : Line) : Int := if cmpI x.day y.day ≠ 0 then cmpI x.day y.day else cmpI x.id y.id
theorem Tryz.sorted1 (x y : Line) (w : World) : CallA Tryz.prog 92 [.agg (lineC x).toArray, .agg (lineC y).toArray] w fun v w' => v = .int .i64 (lineCf x y) ∧ Gw w w' := by
  refine callA_intro Tryz.tbOk Tryz.func92 rfl Tryz.ntmps92 Tryz.results92 (by decide) (by simp) ?_
  ((conv => whnf); repeat' (first | ((with_reducible first | refine q1 ?_ | refine q2 ?_); conv => whnf) | (with_reducible refine q3 ?_) | ((with_reducible refine q4 (fun _ => ?_) (fun _ => ?_)) <;> first | (exfalso; omega) | (conv => whnf)) | ((with_reducible first | refine q5 ?_ | refine q6 ?_ | refine q7 ?_ | refine q8 ?_ | refine q9 ?_ | refine q10 ?_ | refine q11 ?_ | refine q12 ?_ | refine q13 ?_ | refine q14 ?_ | refine q15 ?_); conv => whnf) | ((refine q16 (fun _ _ _ _ _ => ?_)); conv => whnf) | ((with_reducible first | refine q17 ?_ | refine q18 ?_ | refine q19 ?_ | refine q20 ?_); conv => whnf)))
  refine ⟨?_⟩
  have h1 := new_alloc w (.cells (cellsOf (.agg (lineC x).toArray)).toArray 79)
  have hB1 : Blk (w.alloc (.cells (cellsOf (.agg (lineC x).toArray)).toArray 79)) w.heap.size (lineC x) 79 := h1.at_
  ((conv => whnf); repeat' (first | ((with_reducible first | refine q1 ?_ | refine q2 ?_); conv => whnf) | (with_reducible refine q3 ?_) | ((with_reducible refine q4 (fun _ => ?_) (fun _ => ?_)) <;> first | (exfalso; omega) | (conv => whnf)) | ((with_reducible first | refine q5 ?_ | refine q6 ?_ | refine q7 ?_ | refine q8 ?_ | refine q9 ?_ | refine q10 ?_ | refine q11 ?_ | refine q12 ?_ | refine q13 ?_ | refine q14 ?_ | refine q15 ?_); conv => whnf) | ((refine q16 (fun _ _ _ _ _ => ?_)); conv => whnf) | ((with_reducible first | refine q17 ?_ | refine q18 ?_ | refine q19 ?_ | refine q20 ?_); conv => whnf)))
  refine ⟨?_⟩
  have h2 := new_alloc (w.alloc (.cells (cellsOf (.agg (lineC x).toArray)).toArray 79)) (.cells (cellsOf (.agg (lineC y).toArray)).toArray 79)
  have hg : Gw w ((w.alloc (.cells (cellsOf (.agg (lineC x).toArray)).toArray 79)).alloc (.cells (cellsOf (.agg (lineC y).toArray)).toArray 79)) := ⟨h1.ex.tr h2.ex, Nat.le_refl _⟩
  have hB1' := hB1.ex h2.ex
  have hB2 : Blk _ (w.alloc (.cells (cellsOf (.agg (lineC x).toArray)).toArray 79)).heap.size (lineC y) 79 := h2.at_
  generalize (w.alloc (.cells (cellsOf (.agg (lineC x).toArray)).toArray 79)).heap.size = b2 at *
  generalize ((w.alloc (.cells (cellsOf (.agg (lineC x).toArray)).toArray 79)).alloc (.cells (cellsOf (.agg (lineC y).toArray)).toArray 79)) = w2 at *
  generalize w.heap.size = b1 at *
  clear h1 h2 hB1
  ((conv => whnf); repeat' (first | ((with_reducible first | refine q1 ?_ | refine q2 ?_); conv => whnf) | (with_reducible refine q3 ?_) | ((with_reducible refine q4 (fun _ => ?_) (fun _ => ?_)) <;> first | (exfalso; omega) | (conv => whnf)) | ((with_reducible first | refine q5 ?_ | refine q6 ?_ | refine q7 ?_ | refine q8 ?_ | refine q9 ?_ | refine q10 ?_ | refine q11 ?_ | refine q12 ?_ | refine q13 ?_ | refine q14 ?_ | refine q15 ?_); conv => whnf) | ((refine q16 (fun _ _ _ _ _ => ?_)); conv => whnf) | ((with_reducible first | refine q17 ?_ | refine q18 ?_ | refine q19 ?_ | refine q20 ?_); conv => whnf)))
  refine draw_rule Tryz.tbOk Tryz.mix (fun u => Ex w2 u) (.take 0 (.take 1 (.take 2 (.take 3 (.take 5 (.take 6 (.take 7 (.take 8 (.one 4 (.one 9 (.one 10 (.one 11 (.take 12 (.done)))))))))))))) (by kernel_rfl) (by kernel_rfl) ?_
  intro w3 hd3
  refine ⟨hd3.ex, ?_⟩
  ((conv => whnf); repeat' (first | ((with_reducible first | refine q1 ?_ | refine q2 ?_); conv => whnf) | (with_reducible refine q3 ?_) | ((with_reducible refine q4 (fun _ => ?_) (fun _ => ?_)) <;> first | (exfalso; omega) | (conv => whnf)) | ((with_reducible first | refine q5 ?_ | refine q6 ?_ | refine q7 ?_ | refine q8 ?_ | refine q9 ?_ | refine q10 ?_ | refine q11 ?_ | refine q12 ?_ | refine q13 ?_ | refine q14 ?_ | refine q15 ?_); conv => whnf) | ((refine q16 (fun _ _ _ _ _ => ?_)); conv => whnf) | ((with_reducible first | refine q17 ?_ | refine q18 ?_ | refine q19 ?_ | refine q20 ?_); conv => whnf)))
  refine CallA.mono (Tryz.compare _ _ w3) ?_
  rintro v w4 ⟨rfl, hw4⟩
  subst hw4
  ((conv => whnf); repeat' (first | ((with_reducible first | refine q1 ?_ | refine q2 ?_); conv => whnf) | (with_reducible refine q3 ?_) | ((with_reducible refine q4 (fun _ => ?_) (fun _ => ?_)) <;> first | (exfalso; omega) | (conv => whnf)) | ((with_reducible first | refine q5 ?_ | refine q6 ?_ | refine q7 ?_ | refine q8 ?_ | refine q9 ?_ | refine q10 ?_ | refine q11 ?_ | refine q12 ?_ | refine q13 ?_ | refine q14 ?_ | refine q15 ?_); conv => whnf) | ((refine q16 (fun _ _ _ _ _ => ?_)); conv => whnf) | ((with_reducible first | refine q17 ?_ | refine q18 ?_ | refine q19 ?_ | refine q20 ?_); conv => whnf)))
  refine ⟨hd3.ex, ?_⟩
  ((conv => whnf); repeat' (first | ((with_reducible first | refine q1 ?_ | refine q2 ?_); conv => whnf) | (with_reducible refine q3 ?_) | ((with_reducible refine q4 (fun _ => ?_) (fun _ => ?_)) <;> first | (exfalso; omega) | (conv => whnf)) | ((with_reducible first | refine q5 ?_ | refine q6 ?_ | refine q7 ?_ | refine q8 ?_ | refine q9 ?_ | refine q10 ?_ | refine q11 ?_ | refine q12 ?_ | refine q13 ?_ | refine q14 ?_ | refine q15 ?_); conv => whnf) | ((refine q16 (fun _ _ _ _ _ => ?_)); conv => whnf) | ((with_reducible first | refine q17 ?_ | refine q18 ?_ | refine q19 ?_ | refine q20 ?_); conv => whnf)))
  refine CallA.mono (Tryz.compare _ _ w4) ?_
  rintro v w5 ⟨rfl, hw5⟩
  subst hw5
  ((conv => whnf); repeat' (first | ((with_reducible first | refine q1 ?_ | refine q2 ?_); conv => whnf) | (with_reducible refine q3 ?_) | ((with_reducible refine q4 (fun _ => ?_) (fun _ => ?_)) <;> first | (exfalso; omega) | (conv => whnf)) | ((with_reducible first | refine q5 ?_ | refine q6 ?_ | refine q7 ?_ | refine q8 ?_ | refine q9 ?_ | refine q10 ?_ | refine q11 ?_ | refine q12 ?_ | refine q13 ?_ | refine q14 ?_ | refine q15 ?_); conv => whnf) | ((refine q16 (fun _ _ _ _ _ => ?_)); conv => whnf) | ((with_reducible first | refine q17 ?_ | refine q18 ?_ | refine q19 ?_ | refine q20 ?_); conv => whnf)))
  refine ⟨hd3.ex, ?_⟩
  ((conv => whnf); repeat' (first | ((with_reducible first | refine q1 ?_ | refine q2 ?_); conv => whnf) | (with_reducible refine q3 ?_) | ((with_reducible refine q4 (fun _ => ?_) (fun _ => ?_)) <;> first | (exfalso; omega) | (conv => whnf)) | ((with_reducible first | refine q5 ?_ | refine q6 ?_ | refine q7 ?_ | refine q8 ?_ | refine q9 ?_ | refine q10 ?_ | refine q11 ?_ | refine q12 ?_ | refine q13 ?_ | refine q14 ?_ | refine q15 ?_); conv => whnf) | ((refine q16 (fun _ _ _ _ _ => ?_)); conv => whnf) | ((with_reducible first | refine q17 ?_ | refine q18 ?_ | refine q19 ?_ | refine q20 ?_); conv => whnf)))
  refine ⟨?_⟩
  have h5 := new_alloc w5 (.cells (ints [cmpI x.day y.day, cmpI x.id y.id]).toArray 3)
  have hB5 : Blk (w5.alloc (.cells (ints [cmpI x.day y.day, cmpI x.id y.id]).toArray 3)) w5.heap.size (ints [cmpI x.day y.day, cmpI x.id y.id]) 3 := h5.at_
  have hg5 : Gw w (w5.alloc (.cells (ints [cmpI x.day y.day, cmpI x.id y.id]).toArray 3)) := ⟨(hg.1.tr hd3.ex).tr h5.ex, Nat.le_trans hg.2 hd3.drawn⟩
  ((conv => whnf); repeat' (first | ((with_reducible first | refine q1 ?_ | refine q2 ?_); conv => whnf) | (with_reducible refine q3 ?_) | ((with_reducible refine q4 (fun _ => ?_) (fun _ => ?_)) <;> first | (exfalso; omega) | (conv => whnf)) | ((with_reducible first | refine q5 ?_ | refine q6 ?_ | refine q7 ?_ | refine q8 ?_ | refine q9 ?_ | refine q10 ?_ | refine q11 ?_ | refine q12 ?_ | refine q13 ?_ | refine q14 ?_ | refine q15 ?_); conv => whnf) | ((refine q16 (fun _ _ _ _ _ => ?_)); conv => whnf) | ((with_reducible first | refine q17 ?_ | refine q18 ?_ | refine q19 ?_ | refine q20 ?_); conv => whnf)))
  refine ⟨hd3.ex.tr h5.ex, ?_⟩
  ((conv => whnf); repeat' (first | ((with_reducible first | refine q1 ?_ | refine q2 ?_); conv => whnf) | (with_reducible refine q3 ?_) | ((with_reducible refine q4 (fun _ => ?_) (fun _ => ?_)) <;> first | (exfalso; omega) | (conv => whnf)) | ((with_reducible first | refine q5 ?_ | refine q6 ?_ | refine q7 ?_ | refine q8 ?_ | refine q9 ?_ | refine q10 ?_ | refine q11 ?_ | refine q12 ?_ | refine q13 ?_ | refine q14 ?_ | refine q15 ?_); conv => whnf) | ((refine q16 (fun _ _ _ _ _ => ?_)); conv => whnf) | ((with_reducible first | refine q17 ?_ | refine q18 ?_ | refine q19 ?_ | refine q20 ?_); conv => whnf)))
  refine CallA.mono (Tryz.orInt _ 2 _ _ _ hB5.row) ?_
  rintro v w6 ⟨rfl, rfl⟩
  ((conv => whnf); repeat' (first | ((with_reducible first | refine q1 ?_ | refine q2 ?_); conv => whnf) | (with_reducible refine q3 ?_) | ((with_reducible refine q4 (fun _ => ?_) (fun _ => ?_)) <;> first | (exfalso; omega) | (conv => whnf)) | ((with_reducible first | refine q5 ?_ | refine q6 ?_ | refine q7 ?_ | refine q8 ?_ | refine q9 ?_ | refine q10 ?_ | refine q11 ?_ | refine q12 ?_ | refine q13 ?_ | refine q14 ?_ | refine q15 ?_); conv => whnf) | ((refine q16 (fun _ _ _ _ _ => ?_)); conv => whnf) | ((with_reducible first | refine q17 ?_ | refine q18 ?_ | refine q19 ?_ | refine q20 ?_); conv => whnf)))
  refine ⟨hd3.ex.tr h5.ex, ?_⟩
  ((conv => whnf); repeat' (first | ((with_reducible first | refine q1 ?_ | refine q2 ?_); conv => whnf) | (with_reducible refine q3 ?_) | ((with_reducible refine q4 (fun _ => ?_) (fun _ => ?_)) <;> first | (exfalso; omega) | (conv => whnf)) | ((with_reducible first | refine q5 ?_ | refine q6 ?_ | refine q7 ?_ | refine q8 ?_ | refine q9 ?_ | refine q10 ?_ | refine q11 ?_ | refine q12 ?_ | refine q13 ?_ | refine q14 ?_ | refine q15 ?_); conv => whnf) | ((refine q16 (fun _ _ _ _ _ => ?_)); conv => whnf) | ((with_reducible first | refine q17 ?_ | refine q18 ?_ | refine q19 ?_ | refine q20 ?_); conv => whnf)))
  exact ⟨rfl, hg5⟩
theorem Gw.grow {w w' : World} (h : Gw w w') : ∃ q os, w' = Go.Sort.grow (w.drewN q) os := by
  obtain ⟨e, hd⟩ := h
  refine ⟨w'.drawn - w.drawn, w'.heap.extract w.heap.size w'.heap.size, ?_⟩
  obtain ⟨heap, tape, drawn, os, output⟩ := w
  obtain ⟨heap', tape', drawn', os', output'⟩ := w'
  have h1 := e.os; have h2 := e.tape; have h3 := e.output; have h4 := e.size; have h5 := e.block
  simp only [] at h1 h2 h3 h4 h5 hd
  subst h1 h2 h3
  unfold Go.Sort.grow World.drewN
  simp only [World.mk.injEq, true_and, and_true]
  refine ⟨?_, by omega⟩
  apply Array.ext_getElem?
  intro k
  rw [Array.getElem?_append]
  by_cases hk : k < heap.size
  · rw [if_pos hk]; exact h5 k hk
  · rw [if_neg hk]
    rw [Array.getElem?_extract]
    split
    · congr 1; omega
    · exact Array.getElem?_eq_none (by omega)
theorem cmpI_lt (a b : Int) : cmpI a b < 0 ↔ a < b := by unfold cmpI; (repeat' split) <;> omega
theorem cmpI_zero (a b : Int) : cmpI a b = 0 ↔ a = b := by unfold cmpI; (repeat' split) <;> omega
theorem lineCf_lt (x y : Line) : lineCf x y < 0 ↔ (x.day < y.day ∨ (x.day = y.day ∧ x.id < y.id)) := by
  unfold lineCf
  have h1 := cmpI_lt x.day y.day
  have h2 := cmpI_zero x.day y.day
  have h3 := cmpI_lt x.id y.id
  split <;> omega
theorem lineSWO : Go.Sort.SWO (ltOf lineCf) where
  irrefl := by intro x; simp only [ltOf, decide_eq_false_iff_not, lineCf_lt]; omega
  trans := by intro x y z; simp only [ltOf, decide_eq_true_eq, lineCf_lt]; omega
  ntrans := by intro x y z; simp only [ltOf, decide_eq_false_iff_not, lineCf_lt]; omega
instance : Inhabited Line := ⟨⟨0, 0, 0, 0⟩⟩
theorem lineCmpLays (blk off size : Nat) (w : World) : CmpLays Tryz.prog 92 #[] lineC 4 lineCf blk off size w :=
  fun _ _ _ _ x y => (Tryz.sorted1 x y _).out.mono fun e w' ⟨v, he, hv, hg⟩ => ⟨by rw [he, hv], hg.grow⟩
theorem flatK_row (d : Array Line) : (flatK lineC 4 d).toList = rowC lineC d.toList := by
  apply List.ext_getElem?
  intro t
  by_cases ht : t < d.size * 4
  · have h1 := rowC_get (sz := 4) (c := lineC) (fun _ => rfl) d.toList (t / 4) (t % 4) (by simp; omega) (by omega)
    rw [show t / 4 * 4 + t % 4 = t by omega] at h1
    have hk : t / 4 < d.size := by omega
    rw [h1, Array.getElem?_toList]
    have h2 : t < (flatK lineC 4 d).size := by rw [size_flatK]; exact ht
    rw [Array.getElem?_eq_getElem h2]
    have h3 := get_flatK lineC 4 d t ht
    rw [getElem!_pos (flatK lineC 4 d) t h2] at h3
    rw [h3, getElem!_pos d (t / 4) hk]
    have h4 : t % 4 < (lineC d[t / 4]).length := by show t % 4 < 4; omega
    rw [getElem!_pos (lineC d[t / 4]) (t % 4) h4, List.getElem?_eq_getElem (by simpa using h4)]
    simp
  · rw [List.getElem?_eq_none (by simp; omega), List.getElem?_eq_none (by rw [rowC_length (sz := 4) (fun _ => rfl)]; simp; omega)]
theorem own_sorted {w : World} {N T b cap : Nat} {xs ys : List Line} (ho : Own w N T 4 (some ⟨b, 0, none⟩) xs.length cap (rowC lineC xs)) (hl : ys.length = xs.length) (n : Nat) (os : Array Obj) :
    Own (sortWorldK lineC 4 w b 0 n ys.toArray os) N T 4 (some ⟨b, 0, none⟩) xs.length cap (rowC lineC ys) ∧ w.grownBy (sortWorldK lineC 4 w b 0 n ys.toArray os) (some b) := by
  rcases ho.2 with ⟨hv, _⟩ | ⟨g, c2, cur, hv, hNg, hg, hnc, hcm, hcs, htake⟩
  · cases hv
  injection hv with h1 h2 h3
  obtain rfl : b = g := by simpa using h1
  subst h3
  have hlt : b < w.heap.size := (Array.getElem?_eq_some_iff.1 hg).1
  have hold : ∀ k, k < w.heap.size → (sortWorldK lineC 4 w b 0 n ys.toArray os).heap[k]? = (Go.Sort.putRowK lineC 4 (Go.Sort.ahead w n) b 0 ys.toArray).heap[k]? := by
    intro k hk
    unfold sortWorldK Go.Sort.grow
    rw [Array.getElem?_append_left]
    simpa [Go.Sort.putRowK, Go.Sort.putRow, Go.Sort.mapBlock, Go.Sort.ahead] using hk
  have hheap : (sortWorldK lineC 4 w b 0 n ys.toArray os).heap[b]? = some (.cells (Go.Sort.putCells id 0 (flatK lineC 4 ys.toArray) cur) T (0, 0)) := by
    rw [hold b hlt]
    simp [Go.Sort.putRowK, Go.Sort.putRow, Go.Sort.mapBlock, Go.Sort.ahead, Array.getElem?_modify, hg, Go.Sort.onCells]
  have hrow := flatK_row ys.toArray
  refine ⟨⟨by rw [rowC_length (sz := 4) (fun _ => rfl), hl], .inr ⟨b, cap, _, rfl, hNg, hheap, hnc, hcm, by simp [Go.Sort.putCells, hcs], ?_⟩⟩, ⟨rfl, rfl, rfl, ?_, ?_⟩⟩
  · rw [show rowC lineC ys = (flatK lineC 4 ys.toArray).toList from by rw [hrow]]
    have hsz : (flatK lineC 4 ys.toArray).size = xs.length * 4 := by rw [size_flatK]; simp [hl]
    have hcz : xs.length * 4 ≤ cap * 4 := by omega
    apply List.ext_getElem?
    intro j
    rw [List.getElem?_take]
    by_cases hj : j < xs.length * 4
    · rw [if_pos hj, Array.getElem?_toList, Array.getElem?_toList]
      have h5 : j < (flatK lineC 4 ys.toArray).size := by omega
      have h6 : j < cur.size := by omega
      simp [Go.Sort.putCells, h6, hsz, hj, h5, getElem!_pos]
    · rw [if_neg hj, List.getElem?_eq_none (by simp [hsz] at *; omega)]
  · simp [sortWorldK, Go.Sort.grow, Go.Sort.putRowK, Go.Sort.putRow, Go.Sort.mapBlock, Go.Sort.ahead]
  · intro k hk hne
    rw [hold k hk]
    have : b ≠ k := fun e => hne (by rw [e])
    simp [Go.Sort.putRowK, Go.Sort.putRow, Go.Sort.mapBlock, Go.Sort.ahead, Array.getElem?_modify, this]
theorem holds_own {w : World} {N T b cap : Nat} {xs : List Line} (ho : Own w N T 4 (some ⟨b, 0, none⟩) xs.length cap (rowC lineC xs)) : HoldsK lineC 4 w b 0 xs.toArray := by
  rcases ho.2 with ⟨hv, _⟩ | ⟨g, c2, cur, hv, hNg, hg, hnc, hcm, hcs, htake⟩
  · cases hv
  injection hv with h1 h2 h3
  obtain rfl : b = g := by simpa using h1
  have hrow := flatK_row xs.toArray
  intro j hj
  have hj' : j < xs.length * 4 := by simpa using hj
  refine ⟨?_, by simp [World.frozen?, hg]⟩
  have h5 : (cur.toList.take (xs.length * 4))[j]? = (flatK lineC 4 xs.toArray).toList[j]? := by rw [htake, hrow]
  rw [List.getElem?_take_of_lt hj', Array.getElem?_toList, Array.getElem?_toList] at h5
  simp only [World.cell?, hg, Nat.zero_add, Option.isSome_none, Bool.false_eq_true, if_false]
  rw [h5, Array.getElem?_eq_getElem hj, getElem!_pos (flatK lineC 4 xs.toArray) j hj]
  rfl
end Go.Proofs
