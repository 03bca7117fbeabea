/-
  L32: a part of the proof. By an AI agent.
-/
import Derived.Test.YtpeihahmhpamoaaGreatVQ
import Derived.Test.YtpeihahmhpamoaaGreatV10
import Derived.Test.YtpeihahmhpamoaaGreatL31
set_option linter.all false
namespace Go.Proofs
open Go.V
open Go.RowKit (Below)
/-! ### the chapter's examples -/
def shH : Shape := ⟨2, 2, 1⟩
theorem sortI_nil : sortI [] = [] := by simp [sortI]
theorem sortI_one (x : Int) : sortI [x] = [x] := by simp [sortI]
theorem mendM_of {s : Shape} {lm : List LM} {cols d : List (List Int)} {wr : List Int} {ok : Bool} (h : colsM lm s.data.toNat ((lm.length - s.data.toNat) / 2) (List.range s.width.toNat) = some cols)
    (hd : dataOfCols cols s.data.toNat = d) (hw : wrongU (wholeM s d) lm = wr) (hs : sortI wr = wr) (hok : decide (2 * (wr.length : Int) + s.data ≤ lm.length) = ok) : mendM s lm = some (d, wr, ok) := by
  unfold mendM
  rw [h]
  simp only [hd, hw, hs, hok]
theorem MendM_of {s : Shape} {lm : List LM} {d : List (List Int)} {wr : List Int} (hc : checkLeavesM s lm = 0) (hl : ¬ (lm.length : Int) < s.data) (hm : mendM s lm = some (d, wr, true)) : MendM s lm = (d, wr, 0) := by
  unfold MendM
  rw [if_neg (by rw [hc]; simp), if_neg hl, hm]; rfl
theorem mend1 : MendM shH [(3, [11]), (4, [14])] = ([[5], [8]], [], 0) :=
  MendM_of (by decide +kernel) (by decide) (mendM_of (cols := [[2, 3]]) (by decide +kernel) (by decide +kernel) (by decide +kernel) sortI_nil (by decide +kernel))
theorem mend2 : MendM shH [(1, [5]), (2, [9]), (3, [11]), (4, [14])] = ([[5], [8]], [2], 0) :=
  MendM_of (by decide +kernel) (by decide) (mendM_of (cols := [[2, 3]]) (by decide +kernel) (by decide +kernel) (by decide +kernel) (sortI_one 2) (by decide +kernel))
theorem mend3 : MendM shH [(1, [5]), (2, [9]), (3, [11])] = ([], [], 9) := by
  have hc : checkLeavesM shH [(1, [5]), (2, [9]), (3, [11])] = 0 := by decide +kernel
  have hcols : ∃ cols, colsM [(1, [5]), (2, [9]), (3, [11])] 2 0 (List.range 1) = cols ∧ (cols = none ∨ ∃ c, cols = some c) := ⟨_, rfl, by cases colsM [(1, [5]), (2, [9]), (3, [11])] 2 0 (List.range 1) <;> simp⟩
  have hn : colsM [(1, [5]), (2, [9]), (3, [11])] 2 0 (List.range 1) = none := by decide +kernel
  unfold MendM
  rw [if_neg (by rw [hc]; simp), if_neg (by decide)]
  have : mendM shH [(1, [5]), (2, [9]), (3, [11])] = none := by
    unfold mendM
    rw [show colsM [(1, [5]), (2, [9]), (3, [11])] shH.data.toNat (([((1 : Int), [(5 : Int)]), (2, [9]), (3, [11])].length - shH.data.toNat) / 2) (List.range shH.width.toNat) = none from hn]
  rw [this]
theorem spare1 : SpareM shH [(1, [5]), (2, [9]), (3, [11]), (4, [14])] = (0, 0) := by
  unfold SpareM; rw [mend2]; decide
theorem inv2 : powM 2 65519 = 32761 := by decide +kernel
theorem val1 : valM [1, 2, 3] 10 = 321 := by decide +kernel
theorem thr1 : ThroughM [(1, 5), (2, 8)] = ([2, 3], 0) := by decide +kernel
theorem who1 : WholeM shH [[5], [8]] = ([(1, [5]), (2, [8]), (3, [11]), (4, [14])], 0) := by decide +kernel
theorem wri1 : WriteM ⟨2, 0, 4⟩ [⟨65522, 3, 1, 70000⟩] = ([[1, 0, 1, 1], [3, 1, 1, 4479]], 0) := by decide +kernel
theorem Tryz.small (w : World) : CallA Tryz.prog 29 [] w fun v w' => v = shV shH ∧ Ex w w' := by
  refine callA_intro Tryz.tbOk Tryz.func29 rfl Tryz.ntmps29 Tryz.results29 (by decide) (by simp) ?_
  ((conv => whnf); repeat' (first | ((with_reducible first | refine q1 ?_ | refine q2 ?_); conv => whnf) | (with_reducible refine q3 ?_) | ((with_reducible refine q4 (fun _ => ?_) (fun _ => ?_)) <;> first | (exfalso; omega) | (conv => whnf)) | ((with_reducible first | refine q5 ?_ | refine q6 ?_ | refine q7 ?_ | refine q8 ?_ | refine q9 ?_ | refine q10 ?_ | refine q11 ?_ | refine q12 ?_ | refine q13 ?_ | refine q14 ?_ | refine q15 ?_); conv => whnf) | ((refine q16 (fun _ _ _ _ _ => ?_)); conv => whnf) | ((with_reducible first | refine q17 ?_ | refine q18 ?_ | refine q19 ?_ | refine q20 ?_); conv => whnf)))
  refine NewA.mk' fun w1 b hb hs he hB => ?_
  ((conv => whnf); repeat' (first | ((with_reducible first | refine q1 ?_ | refine q2 ?_); conv => whnf) | (with_reducible refine q3 ?_) | ((with_reducible refine q4 (fun _ => ?_) (fun _ => ?_)) <;> first | (exfalso; omega) | (conv => whnf)) | ((with_reducible first | refine q5 ?_ | refine q6 ?_ | refine q7 ?_ | refine q8 ?_ | refine q9 ?_ | refine q10 ?_ | refine q11 ?_ | refine q12 ?_ | refine q13 ?_ | refine q14 ?_ | refine q15 ?_); conv => whnf) | ((refine q16 (fun _ _ _ _ _ => ?_)); conv => whnf) | ((with_reducible first | refine q17 ?_ | refine q18 ?_ | refine q19 ?_ | refine q20 ?_); conv => whnf)))
  refine StoreA.var hB rfl rfl rfl fun w2 hu2 hB2 => ?_
  ((conv => whnf); repeat' (first | ((with_reducible first | refine q1 ?_ | refine q2 ?_); conv => whnf) | (with_reducible refine q3 ?_) | ((with_reducible refine q4 (fun _ => ?_) (fun _ => ?_)) <;> first | (exfalso; omega) | (conv => whnf)) | ((with_reducible first | refine q5 ?_ | refine q6 ?_ | refine q7 ?_ | refine q8 ?_ | refine q9 ?_ | refine q10 ?_ | refine q11 ?_ | refine q12 ?_ | refine q13 ?_ | refine q14 ?_ | refine q15 ?_); conv => whnf) | ((refine q16 (fun _ _ _ _ _ => ?_)); conv => whnf) | ((with_reducible first | refine q17 ?_ | refine q18 ?_ | refine q19 ?_ | refine q20 ?_); conv => whnf)))
  exact ⟨rfl, he.upd hu2 (by omega)⟩
end Go.Proofs
