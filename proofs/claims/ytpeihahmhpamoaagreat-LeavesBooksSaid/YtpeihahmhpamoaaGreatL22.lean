/-
  L22: a part of the proof. By an AI agent.
-/
import Derived.Test.YtpeihahmhpamoaaGreatVQ
import Derived.Test.YtpeihahmhpamoaaGreatV10
import Derived.Test.YtpeihahmhpamoaaGreatL21
set_option linter.all false
namespace Go.Proofs
open Go.V
open Go.RowKit (Below)
def MergeM (a b : List Line) : List Line × Int :=
  if checkLinesM a ≠ 0 then ([], checkLinesM a) else if checkLinesM b ≠ 0 then ([], checkLinesM b)
  else if (forksM a b).length > 0 then ([], 9)
  else if 60 < (dedup (sortLn (a ++ b))).length then ([], 2) else (dedup (sortLn (a ++ b)), 0)
theorem byId_of {a : List Line} (h : OneId a) {x : Line} (hx : x ∈ a) : byId a x.id = some x := by
  unfold byId
  cases hf : a.reverse.find? fun y => decide (y.id = x.id) with
  | none =>
    rw [List.find?_eq_none] at hf
    exact absurd (decide_eq_true rfl) (hf x (by simpa using hx))
  | some y =>
    have h1 := List.find?_some hf
    have h2 := List.mem_of_find?_eq_some hf
    rw [h y (by simpa using h2) x hx (by simpa using h1)]
theorem forksM_nil {a b : List Line} (h : (forksM a b).length = 0) : forksU a b = [] := by
  rw [forksM, sortI_length] at h
  exact List.length_eq_zero_iff.1 h
theorem oneId_append {a b : List Line} (ha : OneId a) (hb : OneId b) (hf : forksU a b = []) : OneId (a ++ b) := by
  have key : ∀ x ∈ a, ∀ y ∈ b, x.id = y.id → x = y := by
    intro x hx y hy he
    have h1 := byId_of ha hx
    rw [he] at h1
    by_cases h : y = x
    · exact h.symm
    · exfalso
      have : y.id ∈ forksU a b := by
        unfold forksU
        rw [List.mem_filterMap]
        exact ⟨y, hy, by rw [h1]; simp [h]⟩
      rw [hf] at this; simp at this
  intro x hx y hy he
  rcases List.mem_append.1 hx with hx | hx <;> rcases List.mem_append.1 hy with hy | hy
  · exact ha x hx y hy he
  · exact key x hx y hy he
  · exact (key y hy x hx he.symm).symm
  · exact hb x hx y hy he
theorem Tryz.Merge (ba bb : Option Addr) (ca cb : Nat) (a b : List Line) (w : World) (hra : Row w ba (rowC lineC a)) (hrb : Row w bb (rowC lineC b)) (hla : a.length ≤ ca ∧ a.length < 140737488355328) (hlb : b.length ≤ cb ∧ b.length < 140737488355328) :
    CallA Tryz.prog 14 [.slice ba a.length ca, .slice bb b.length cb] w (RetLE w (MergeM a b)) := by
  refine callA_intro Tryz.tbOk Tryz.func14 rfl Tryz.ntmps14 Tryz.results14 (by decide) (by simp) ?_
  ((conv => whnf); repeat' (first | ((with_reducible first | refine q1 ?_ | refine q2 ?_); conv => whnf) | (with_reducible refine q3 ?_) | ((with_reducible refine q4 (fun _ => ?_) (fun _ => ?_)) <;> first | (exfalso; omega) | (conv => whnf)) | ((with_reducible first | refine q5 ?_ | refine q6 ?_ | refine q7 ?_ | refine q8 ?_ | refine q9 ?_ | refine q10 ?_ | refine q11 ?_ | refine q12 ?_ | refine q13 ?_ | refine q14 ?_ | refine q15 ?_); conv => whnf) | ((refine q16 (fun _ _ _ _ _ => ?_)); conv => whnf) | ((with_reducible first | refine q17 ?_ | refine q18 ?_ | refine q19 ?_ | refine q20 ?_); conv => whnf)))
  refine CallA.mono (Tryz.lined ba bb ca cb a b w hra hrb hla hlb) ?_
  rintro v w1 ⟨rfl, he1⟩
  by_cases hca : checkLinesM a ≠ 0
  · rw [if_pos hca]
    have hM : MergeM a b = ([], checkLinesM a) := by rw [MergeM, if_pos hca]
    ((conv => whnf); repeat' (first | ((with_reducible first | refine q1 ?_ | refine q2 ?_); conv => whnf) | (with_reducible refine q3 ?_) | ((with_reducible refine q4 (fun _ => ?_) (fun _ => ?_)) <;> first | (exfalso; omega) | (conv => whnf)) | ((with_reducible first | refine q5 ?_ | refine q6 ?_ | refine q7 ?_ | refine q8 ?_ | refine q9 ?_ | refine q10 ?_ | refine q11 ?_ | refine q12 ?_ | refine q13 ?_ | refine q14 ?_ | refine q15 ?_); conv => whnf) | ((refine q16 (fun _ _ _ _ _ => ?_)); conv => whnf) | ((with_reducible first | refine q17 ?_ | refine q18 ?_ | refine q19 ?_ | refine q20 ?_); conv => whnf)))
    rw [hM]; exact RetLE.nil he1
  rw [if_neg hca]
  by_cases hcb : checkLinesM b ≠ 0
  · have hM : MergeM a b = ([], checkLinesM b) := by rw [MergeM, if_neg hca, if_pos hcb]
    ((conv => whnf); repeat' (first | ((with_reducible first | refine q1 ?_ | refine q2 ?_); conv => whnf) | (with_reducible refine q3 ?_) | ((with_reducible refine q4 (fun _ => ?_) (fun _ => ?_)) <;> first | (exfalso; omega) | (conv => whnf)) | ((with_reducible first | refine q5 ?_ | refine q6 ?_ | refine q7 ?_ | refine q8 ?_ | refine q9 ?_ | refine q10 ?_ | refine q11 ?_ | refine q12 ?_ | refine q13 ?_ | refine q14 ?_ | refine q15 ?_); conv => whnf) | ((refine q16 (fun _ _ _ _ _ => ?_)); conv => whnf) | ((with_reducible first | refine q17 ?_ | refine q18 ?_ | refine q19 ?_ | refine q20 ?_); conv => whnf)))
    rw [hM]; exact RetLE.nil he1
  have hca' : checkLinesM a = 0 := Decidable.not_not.1 hca
  have hcb' : checkLinesM b = 0 := Decidable.not_not.1 hcb
  obtain ⟨hla6, hva⟩ := checkLinesM_ok hca'
  obtain ⟨hlb6, hvb⟩ := checkLinesM_ok hcb'
  ((conv => whnf); repeat' (first | ((with_reducible first | refine q1 ?_ | refine q2 ?_); conv => whnf) | (with_reducible refine q3 ?_) | ((with_reducible refine q4 (fun _ => ?_) (fun _ => ?_)) <;> first | (exfalso; omega) | (conv => whnf)) | ((with_reducible first | refine q5 ?_ | refine q6 ?_ | refine q7 ?_ | refine q8 ?_ | refine q9 ?_ | refine q10 ?_ | refine q11 ?_ | refine q12 ?_ | refine q13 ?_ | refine q14 ?_ | refine q15 ?_); conv => whnf) | ((refine q16 (fun _ _ _ _ _ => ?_)); conv => whnf) | ((with_reducible first | refine q17 ?_ | refine q18 ?_ | refine q19 ?_ | refine q20 ?_); conv => whnf)))
  refine CallA.mono (Tryz.forks ba bb ca cb a b w1 (hra.ex he1) (hrb.ex he1) (by omega) (by omega)) ?_
  rintro v w2 ⟨bf, cf, rfl, hof, he2⟩
  have hE2 := he1.tr he2
  by_cases hf : (forksM a b).length > 0
  · have hM : MergeM a b = ([], 9) := by rw [MergeM, if_neg hca, if_neg hcb, if_pos hf]
    ((conv => whnf); repeat' (first | ((with_reducible first | refine q1 ?_ | refine q2 ?_); conv => whnf) | (with_reducible refine q3 ?_) | ((with_reducible refine q4 (fun _ => ?_) (fun _ => ?_)) <;> first | (exfalso; omega) | (conv => whnf)) | ((with_reducible first | refine q5 ?_ | refine q6 ?_ | refine q7 ?_ | refine q8 ?_ | refine q9 ?_ | refine q10 ?_ | refine q11 ?_ | refine q12 ?_ | refine q13 ?_ | refine q14 ?_ | refine q15 ?_); conv => whnf) | ((refine q16 (fun _ _ _ _ _ => ?_)); conv => whnf) | ((with_reducible first | refine q17 ?_ | refine q18 ?_ | refine q19 ?_ | refine q20 ?_); conv => whnf)))
    rw [hM]; exact RetLE.nil hE2
  have hone := oneId_append (checkLinesM_one hca') (checkLinesM_one hcb') (forksM_nil (by omega))
  have hM : MergeM a b = if 60 < (dedup (sortLn (a ++ b))).length then ([], 2) else (dedup (sortLn (a ++ b)), 0) := by rw [MergeM, if_neg hca, if_neg hcb, if_neg hf]
  ((conv => whnf); repeat' (first | ((with_reducible first | refine q1 ?_ | refine q2 ?_); conv => whnf) | (with_reducible refine q3 ?_) | ((with_reducible refine q4 (fun _ => ?_) (fun _ => ?_)) <;> first | (exfalso; omega) | (conv => whnf)) | ((with_reducible first | refine q5 ?_ | refine q6 ?_ | refine q7 ?_ | refine q8 ?_ | refine q9 ?_ | refine q10 ?_ | refine q11 ?_ | refine q12 ?_ | refine q13 ?_ | refine q14 ?_ | refine q15 ?_); conv => whnf) | ((refine q16 (fun _ _ _ _ _ => ?_)); conv => whnf) | ((with_reducible first | refine q17 ?_ | refine q18 ?_ | refine q19 ?_ | refine q20 ?_); conv => whnf)))
  refine NewS.mk' (cs := rowC (fun s : SlL => [.slice s.base s.xs.length s.cap]) [⟨ba, ca, a⟩, ⟨bb, cb, b⟩]) fun w3 b3 hb3 hs3 he3 hB3 => ?_
  have hE3 := hE2.tr he3
  ((conv => whnf); repeat' (first | ((with_reducible first | refine q1 ?_ | refine q2 ?_); conv => whnf) | (with_reducible refine q3 ?_) | ((with_reducible refine q4 (fun _ => ?_) (fun _ => ?_)) <;> first | (exfalso; omega) | (conv => whnf)) | ((with_reducible first | refine q5 ?_ | refine q6 ?_ | refine q7 ?_ | refine q8 ?_ | refine q9 ?_ | refine q10 ?_ | refine q11 ?_ | refine q12 ?_ | refine q13 ?_ | refine q14 ?_ | refine q15 ?_); conv => whnf) | ((refine q16 (fun _ _ _ _ _ => ?_)); conv => whnf) | ((with_reducible first | refine q17 ?_ | refine q18 ?_ | refine q19 ?_ | refine q20 ?_); conv => whnf)))
  have hcc := Tryz.concatLines (some ⟨b3, 0, none⟩) 2 [⟨ba, ca, a⟩, ⟨bb, cb, b⟩] w3 hB3.row (by
    intro s hs
    simp only [List.mem_cons, List.not_mem_nil, or_false] at hs
    rcases hs with rfl | rfl
    · exact hra.ex hE3
    · exact hrb.ex hE3) (by simp) (by simp; omega)
  have hfl : ([⟨ba, ca, a⟩, ⟨bb, cb, b⟩] : List SlL).map SlL.xs = [a, b] := rfl
  rw [hfl] at hcc
  have hfl2 : ([a, b] : List (List Line)).flatten = a ++ b := by simp
  rw [hfl2] at hcc
  refine CallA.mono hcc ?_
  rintro v w4 ⟨b4, c4, rfl, ho4, he4⟩
  ((conv => whnf); repeat' (first | ((with_reducible first | refine q1 ?_ | refine q2 ?_); conv => whnf) | (with_reducible refine q3 ?_) | ((with_reducible refine q4 (fun _ => ?_) (fun _ => ?_)) <;> first | (exfalso; omega) | (conv => whnf)) | ((with_reducible first | refine q5 ?_ | refine q6 ?_ | refine q7 ?_ | refine q8 ?_ | refine q9 ?_ | refine q10 ?_ | refine q11 ?_ | refine q12 ?_ | refine q13 ?_ | refine q14 ?_ | refine q15 ?_); conv => whnf) | ((refine q16 (fun _ _ _ _ _ => ?_)); conv => whnf) | ((with_reducible first | refine q17 ?_ | refine q18 ?_ | refine q19 ?_ | refine q20 ?_); conv => whnf)))
  have hlab : (a ++ b).length ≤ 120 := by rw [List.length_append]; omega
  refine CallA.mono (Tryz.sortedL b4 c4 (a ++ b) w4 ho4.row hone (by omega)) ?_
  rintro v w5 ⟨b5, c5, rfl, ho5, he5⟩
  ((conv => whnf); repeat' (first | ((with_reducible first | refine q1 ?_ | refine q2 ?_); conv => whnf) | (with_reducible refine q3 ?_) | ((with_reducible refine q4 (fun _ => ?_) (fun _ => ?_)) <;> first | (exfalso; omega) | (conv => whnf)) | ((with_reducible first | refine q5 ?_ | refine q6 ?_ | refine q7 ?_ | refine q8 ?_ | refine q9 ?_ | refine q10 ?_ | refine q11 ?_ | refine q12 ?_ | refine q13 ?_ | refine q14 ?_ | refine q15 ?_); conv => whnf) | ((refine q16 (fun _ _ _ _ _ => ?_)); conv => whnf) | ((with_reducible first | refine q17 ?_ | refine q18 ?_ | refine q19 ?_ | refine q20 ?_); conv => whnf)))
  refine CallA.mono (Tryz.compact b5 c5 w4.heap.size (sortLn (a ++ b)) w5 ho5 (by rw [sortLn_length]; omega)) ?_
  rintro v w6 ⟨rfl, ho6, hg6⟩
  have hE6 : Ex w w6 := ((hE3.tr he4).tr he5).grow hg6 (fun k hk => by have := (ho5.blk_ge k hk).1; have := (hE3.tr he4).size; omega)
  have hdl := dedup_length (sortLn (a ++ b))
  rw [sortLn_length] at hdl
  by_cases h60 : 60 < (dedup (sortLn (a ++ b))).length
  · rw [if_pos h60] at hM
    ((conv => whnf); repeat' (first | ((with_reducible first | refine q1 ?_ | refine q2 ?_); conv => whnf) | (with_reducible refine q3 ?_) | ((with_reducible refine q4 (fun _ => ?_) (fun _ => ?_)) <;> first | (exfalso; omega) | (conv => whnf)) | ((with_reducible first | refine q5 ?_ | refine q6 ?_ | refine q7 ?_ | refine q8 ?_ | refine q9 ?_ | refine q10 ?_ | refine q11 ?_ | refine q12 ?_ | refine q13 ?_ | refine q14 ?_ | refine q15 ?_); conv => whnf) | ((refine q16 (fun _ _ _ _ _ => ?_)); conv => whnf) | ((with_reducible first | refine q17 ?_ | refine q18 ?_ | refine q19 ?_ | refine q20 ?_); conv => whnf)))
    rw [hM]; exact RetLE.nil hE6
  · rw [if_neg h60] at hM
    ((conv => whnf); repeat' (first | ((with_reducible first | refine q1 ?_ | refine q2 ?_); conv => whnf) | (with_reducible refine q3 ?_) | ((with_reducible refine q4 (fun _ => ?_) (fun _ => ?_)) <;> first | (exfalso; omega) | (conv => whnf)) | ((with_reducible first | refine q5 ?_ | refine q6 ?_ | refine q7 ?_ | refine q8 ?_ | refine q9 ?_ | refine q10 ?_ | refine q11 ?_ | refine q12 ?_ | refine q13 ?_ | refine q14 ?_ | refine q15 ?_); conv => whnf) | ((refine q16 (fun _ _ _ _ _ => ?_)); conv => whnf) | ((with_reducible first | refine q17 ?_ | refine q18 ?_ | refine q19 ?_ | refine q20 ?_); conv => whnf)))
    rw [hM]
    exact ⟨b5, c5, rfl, ho6.mono (hE3.tr he4).size, hE6⟩
end Go.Proofs
