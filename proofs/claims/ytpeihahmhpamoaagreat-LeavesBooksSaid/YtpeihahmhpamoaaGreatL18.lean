/-
  L18: a part of the proof. By an AI agent.
-/
import Derived.Test.YtpeihahmhpamoaaGreatVQ
import Derived.Test.YtpeihahmhpamoaaGreatV10
import Derived.Test.YtpeihahmhpamoaaGreatL17
set_option linter.all false
namespace Go.Proofs
open Go.V
open Go.RowKit (Below)
/-! ### neighbours that are equal -/
def dedupG (p : Line) : List Line → List Line
  | [] => []
  | x :: t => if x = p then dedupG p t else x :: dedupG x t
def dedup : List Line → List Line
  | [] => []
  | x :: t => x :: dedupG x t
def lastL (p : Line) : List Line → Line
  | [] => p
  | x :: t => lastL x t
theorem dedupG_snoc (x : Line) : ∀ (t : List Line) (p : Line), dedupG p (t ++ [x]) = dedupG p t ++ (if x = lastL p t then [] else [x]) := by
  intro t
  induction t with
  | nil => intro p; rfl
  | cons y t ih =>
    intro p
    simp only [List.cons_append, dedupG, lastL]
    by_cases h : y = p
    · subst h
      rw [if_pos rfl, if_pos rfl, ih]
      rfl
    · rw [if_neg h, if_neg h, ih, List.cons_append]
      rfl
theorem lastL_get : ∀ (t : List Line) (a : Line), lastL a t = (a :: t)[t.length]'(by simp)
  | [], _ => rfl
  | x :: t, a => by simp only [lastL, List.length_cons, List.getElem_cons_succ]; exact lastL_get t x
theorem dedup_take {xs : List Line} {j : Nat} (h0 : 1 ≤ j) (hj : j < xs.length) : dedup (xs.take (j + 1)) = if xs[j] = xs[j - 1]'(by omega) then dedup (xs.take j) else dedup (xs.take j) ++ [xs[j]] := by
  rw [List.take_succ_eq_append_getElem hj]
  cases xs with
  | nil => simp at hj
  | cons a r =>
    obtain ⟨i, rfl⟩ : ∃ i, j = i + 1 := ⟨j - 1, by omega⟩
    have hi : i ≤ r.length := by simp at hj; omega
    have hl : lastL a (r.take i) = (a :: r)[i]'(by simp at hj; simp; omega) := by
      rw [lastL_get]
      have e : (r.take i).length = i := by rw [List.length_take]; omega
      simp only [e]
      have e2 : a :: r.take i = (a :: r).take (i + 1) := rfl
      simp only [e2, List.getElem_take]
    simp only [List.take_succ_cons, List.cons_append, dedup, dedupG_snoc, hl, Nat.add_sub_cancel]
    split <;> simp
theorem dedupG_length : ∀ (t : List Line) (p : Line), (dedupG p t).length ≤ t.length := by
  intro t
  induction t with
  | nil => intro p; simp [dedupG]
  | cons y t ih =>
    intro p
    simp only [dedupG]
    split
    · have := ih p; simp; omega
    · have := ih y; simp; omega
theorem dedup_length (xs : List Line) : (dedup xs).length ≤ xs.length := by
  cases xs with
  | nil => simp [dedup]
  | cons x t => have := dedupG_length t x; simp [dedup]; omega
theorem Tryz.compact (base : Option Addr) (cap N : Nat) (xs : List Line) (w : World) (ho : Own w N 79 4 base xs.length cap (rowC lineC xs)) (hl : xs.length < 140737488355328) :
    CallA Tryz.prog 54 [.slice base xs.length cap] w fun v w' => v = .slice base (dedup xs).length cap ∧ Own w' N 79 4 base (dedup xs).length cap (rowC lineC (dedup xs)) ∧ w.grownBy w' (blkOf base) := by
  have hle := ho.le
  refine callA_intro Tryz.tbOk Tryz.func54 rfl Tryz.ntmps54 Tryz.results54 (by decide) (by simp) ?_
  by_cases h2 : xs.length < 2
  · ((conv => whnf); repeat' (first | ((with_reducible first | refine q1 ?_ | refine q2 ?_); conv => whnf) | (with_reducible refine q3 ?_) | ((with_reducible refine q4 (fun _ => ?_) (fun _ => ?_)) <;> first | (exfalso; omega) | (conv => whnf)) | ((with_reducible first | refine q5 ?_ | refine q6 ?_ | refine q7 ?_ | refine q8 ?_ | refine q9 ?_ | refine q10 ?_ | refine q11 ?_ | refine q12 ?_ | refine q13 ?_ | refine q14 ?_ | refine q15 ?_); conv => whnf) | ((refine q16 (fun _ _ _ _ _ => ?_)); conv => whnf) | ((with_reducible first | refine q17 ?_ | refine q18 ?_ | refine q19 ?_ | refine q20 ?_); conv => whnf)))
    have : dedup xs = xs := by
      match xs, h2 with
      | [], _ => rfl
      | [_], _ => rfl
    rw [this]
    exact ⟨rfl, ho, rfl, rfl, rfl, Nat.le_refl _, fun _ _ _ => rfl⟩
  · ((conv => whnf); repeat' (first | ((with_reducible first | refine q1 ?_ | refine q2 ?_); conv => whnf) | (with_reducible refine q3 ?_) | ((with_reducible refine q4 (fun _ => ?_) (fun _ => ?_)) <;> first | (exfalso; omega) | (conv => whnf)) | ((with_reducible first | refine q5 ?_ | refine q6 ?_ | refine q7 ?_ | refine q8 ?_ | refine q9 ?_ | refine q10 ?_ | refine q11 ?_ | refine q12 ?_ | refine q13 ?_ | refine q14 ?_ | refine q15 ?_); conv => whnf) | ((refine q16 (fun _ _ _ _ _ => ?_)); conv => whnf) | ((with_reducible first | refine q17 ?_ | refine q18 ?_ | refine q19 ?_ | refine q20 ?_); conv => whnf)))
    refine loop_rule Tryz.tbOk Nat [3] (fun k => [.int .i64 (k:Int)]) (fun k u => 1 ≤ k ∧ k ≤ xs.length ∧ dedup (xs.take k) = xs.take k ∧ Ex w u) (fun k => xs.length - k) 1 rfl ⟨by omega, by omega, ?_, Ex.refl _⟩ ?_
    · cases xs with
      | nil => rfl
      | cons x t => rfl
    rintro k u ⟨hk1, hk, hd, heu⟩ uu
    have hO := ho.ex heu
    have hrow := hO.row
    by_cases hlt : k < xs.length
    · have hdt := dedup_take hk1 hlt
      ((conv => whnf); repeat' (first | ((with_reducible first | refine q1 ?_ | refine q2 ?_); conv => whnf) | (with_reducible refine q3 ?_) | ((with_reducible refine q4 (fun _ => ?_) (fun _ => ?_)) <;> first | (exfalso; omega) | (conv => whnf)) | ((with_reducible first | refine q5 ?_ | refine q6 ?_ | refine q7 ?_ | refine q8 ?_ | refine q9 ?_ | refine q10 ?_ | refine q11 ?_ | refine q12 ?_ | refine q13 ?_ | refine q14 ?_ | refine q15 ?_); conv => whnf) | ((refine q16 (fun _ _ _ _ _ => ?_)); conv => whnf) | ((with_reducible first | refine q17 ?_ | refine q18 ?_ | refine q19 ?_ | refine q20 ?_); conv => whnf)))
      refine draw_rule Tryz.tbOk Tryz.mix (fun u' => Ex u u') (.take 0 (.take 1 (.take 2 (.take 3 (.take 4 (.take 5 (.take 6 (.take 7 (.take 8 (.take 9 (.done))))))))))) (by kernel_rfl) (by kernel_rfl) ?_
      intro u1 hd1
      refine ⟨hd1.ex, ?_⟩
      ((conv => whnf); repeat' (first | ((with_reducible first | refine q1 ?_ | refine q2 ?_); conv => whnf) | (with_reducible refine q3 ?_) | ((with_reducible refine q4 (fun _ => ?_) (fun _ => ?_)) <;> first | (exfalso; omega) | (conv => whnf)) | ((with_reducible first | refine q5 ?_ | refine q6 ?_ | refine q7 ?_ | refine q8 ?_ | refine q9 ?_ | refine q10 ?_ | refine q11 ?_ | refine q12 ?_ | refine q13 ?_ | refine q14 ?_ | refine q15 ?_); conv => whnf) | ((refine q16 (fun _ _ _ _ _ => ?_)); conv => whnf) | ((with_reducible first | refine q17 ?_ | refine q18 ?_ | refine q19 ?_ | refine q20 ?_); conv => whnf)))
      refine IdxA.elem (sz := 4) hrow (fun _ => rfl) (by decide) rfl k rfl hlt (fun b o hb hc => ?_)
      (conv => whnf)
      refine HoldN.mk' (vs := lineC xs[k]) rfl hc (fun _ h => h) ?_
      ((conv => whnf); repeat' (first | ((with_reducible first | refine q1 ?_ | refine q2 ?_); conv => whnf) | (with_reducible refine q3 ?_) | ((with_reducible refine q4 (fun _ => ?_) (fun _ => ?_)) <;> first | (exfalso; omega) | (conv => whnf)) | ((with_reducible first | refine q5 ?_ | refine q6 ?_ | refine q7 ?_ | refine q8 ?_ | refine q9 ?_ | refine q10 ?_ | refine q11 ?_ | refine q12 ?_ | refine q13 ?_ | refine q14 ?_ | refine q15 ?_); conv => whnf) | ((refine q16 (fun _ _ _ _ _ => ?_)); conv => whnf) | ((with_reducible first | refine q17 ?_ | refine q18 ?_ | refine q19 ?_ | refine q20 ?_); conv => whnf)))
      refine IdxA.elem (sz := 4) hrow (fun _ => rfl) (by decide) rfl (k - 1) (by omega) (by omega) (fun b o hb hc => ?_)
      (conv => whnf)
      refine HoldN.mk' (vs := lineC (xs[k - 1]'(by omega))) rfl hc (fun _ h => h) ?_
      ((conv => whnf); repeat' (first | ((with_reducible first | refine q1 ?_ | refine q2 ?_); conv => whnf) | (with_reducible refine q3 ?_) | ((with_reducible refine q4 (fun _ => ?_) (fun _ => ?_)) <;> first | (exfalso; omega) | (conv => whnf)) | ((with_reducible first | refine q5 ?_ | refine q6 ?_ | refine q7 ?_ | refine q8 ?_ | refine q9 ?_ | refine q10 ?_ | refine q11 ?_ | refine q12 ?_ | refine q13 ?_ | refine q14 ?_ | refine q15 ?_); conv => whnf) | ((refine q16 (fun _ _ _ _ _ => ?_)); conv => whnf) | ((with_reducible first | refine q17 ?_ | refine q18 ?_ | refine q19 ?_ | refine q20 ?_); conv => whnf)))
      rw [lineC_ints, lineC_ints]
      refine HoldV.structEq Tryz.tbOk rfl rfl rfl rfl rfl Tryz.stood79 Tryz.guard79 ?_
      rw [show decide (([xs[k].id, xs[k].day, xs[k].what, xs[k].worth] : List Int) = [(xs[k-1]'(by omega)).id, (xs[k-1]'(by omega)).day, (xs[k-1]'(by omega)).what, (xs[k-1]'(by omega)).worth]) = decide (xs[k] = xs[k-1]'(by omega)) from decide_eq_decide.2 line_eq]
      ((conv => whnf); repeat' (first | ((with_reducible first | refine q1 ?_ | refine q2 ?_); conv => whnf) | (with_reducible refine q3 ?_) | ((with_reducible refine q4 (fun _ => ?_) (fun _ => ?_)) <;> first | (exfalso; omega) | (conv => whnf)) | ((with_reducible first | refine q5 ?_ | refine q6 ?_ | refine q7 ?_ | refine q8 ?_ | refine q9 ?_ | refine q10 ?_ | refine q11 ?_ | refine q12 ?_ | refine q13 ?_ | refine q14 ?_ | refine q15 ?_); conv => whnf) | ((refine q16 (fun _ _ _ _ _ => ?_)); conv => whnf) | ((with_reducible first | refine q17 ?_ | refine q18 ?_ | refine q19 ?_ | refine q20 ?_); conv => whnf)))
      · rename_i heq
        have hO1 := hO.ex hd1.ex
        refine RunV.slice (e := 79) (sz := 4) (by_ := 32) Tryz.tbOk rfl k xs.length cap (.inl rfl) (.inr ⟨rfl, rfl⟩) (.inr ⟨rfl, rfl⟩) (by simp) (by omega) (by omega) (by omega) ?_
        ((conv => whnf); repeat' (first | ((with_reducible first | refine q1 ?_ | refine q2 ?_); conv => whnf) | (with_reducible refine q3 ?_) | ((with_reducible refine q4 (fun _ => ?_) (fun _ => ?_)) <;> first | (exfalso; omega) | (conv => whnf)) | ((with_reducible first | refine q5 ?_ | refine q6 ?_ | refine q7 ?_ | refine q8 ?_ | refine q9 ?_ | refine q10 ?_ | refine q11 ?_ | refine q12 ?_ | refine q13 ?_ | refine q14 ?_ | refine q15 ?_); conv => whnf) | ((refine q16 (fun _ _ _ _ _ => ?_)); conv => whnf) | ((with_reducible first | refine q17 ?_ | refine q18 ?_ | refine q19 ?_ | refine q20 ?_); conv => whnf)))
        rw [if_pos heq] at hdt
        have hdl : (dedup (xs.take k)).length = k := by rw [hd, List.length_take]; omega
        refine loop_rule Tryz.tbOk (Nat × Nat × List Line) [5, 3] (fun | (j, i, _) => [.int .i64 (j:Int), .int .i64 (i:Int)])
          (fun | (j, i, L), u => 1 ≤ j ∧ k + j ≤ xs.length ∧ i = (dedup (xs.take (k + j))).length ∧ i ≤ k + j - 1 ∧ L.length = xs.length ∧ L.take i = dedup (xs.take (k + j)) ∧ L.drop (k + j - 1) = xs.drop (k + j - 1) ∧ Own u N 79 4 base xs.length cap (rowC lineC L) ∧ w.grownBy u (blkOf base)) (fun | (j, _, _) => xs.length - j)
          (1, k, xs) rfl ⟨by omega, by omega, by rw [hdt, hdl], by omega, rfl, by rw [hdt, hd], rfl, hO1, (heu.tr hd1.ex).grown _⟩ ?_
        rintro ⟨j, i, L⟩ u2 ⟨hj1, hj, hi, hij, hL, hLt, hLd, hO2, hg2⟩ uy
        have hsub := hO2.row.sub (l := k) (hh := xs.length) (m := cap) (sz := 4) (by omega) (by omega)
        rw [rowC_drop (sz := 4) (fun _ => rfl), List.take_of_length_le (by rw [rowC_length (sz := 4) (fun _ => rfl), List.length_drop, hL]; exact Nat.le_refl _)] at hsub
        have hLlen : (L.drop k).length = xs.length - k := by rw [List.length_drop, hL]
        by_cases hjl : k + j < xs.length
        · have hLj : ∀ q (h1 : k + j - 1 ≤ q) (h2 : q < xs.length), L[q]'(by omega) = xs[q] := by
            intro q h1 h2
            have e1 : (L.drop (k + j - 1))[q - (k + j - 1)]'(by rw [List.length_drop]; omega) = L[q]'(by omega) := by rw [List.getElem_drop]; congr 1; omega
            have e2 : (xs.drop (k + j - 1))[q - (k + j - 1)]'(by rw [List.length_drop]; omega) = xs[q] := by rw [List.getElem_drop]; congr 1; omega
            rw [← e1, ← e2]; simp only [hLd]
          have hA : (L.drop k)[j]'(by omega) = xs[k + j] := by rw [List.getElem_drop]; exact hLj (k + j) (by omega) hjl
          have hB : (L.drop k)[j - 1]'(by omega) = xs[k + j - 1]'(by omega) := by
            rw [List.getElem_drop]
            have e : k + (j - 1) = k + j - 1 := by omega
            simp only [e]
            exact hLj (k + j - 1) (by omega) (by omega)
          have hdt2 := dedup_take (xs := xs) (j := k + j) (by omega) hjl
          ((conv => whnf); repeat' (first | ((with_reducible first | refine q1 ?_ | refine q2 ?_); conv => whnf) | (with_reducible refine q3 ?_) | ((with_reducible refine q4 (fun _ => ?_) (fun _ => ?_)) <;> first | (exfalso; omega) | (conv => whnf)) | ((with_reducible first | refine q5 ?_ | refine q6 ?_ | refine q7 ?_ | refine q8 ?_ | refine q9 ?_ | refine q10 ?_ | refine q11 ?_ | refine q12 ?_ | refine q13 ?_ | refine q14 ?_ | refine q15 ?_); conv => whnf) | ((refine q16 (fun _ _ _ _ _ => ?_)); conv => whnf) | ((with_reducible first | refine q17 ?_ | refine q18 ?_ | refine q19 ?_ | refine q20 ?_); conv => whnf)))
          refine draw_rule Tryz.tbOk Tryz.mix (fun u' => Ex u2 u') (.take 0 (.take 1 (.take 2 (.take 3 (.take 4 (.take 5 (.take 6 (.take 7 (.take 8 (.take 9 (.done))))))))))) (by kernel_rfl) (by kernel_rfl) ?_
          intro u3 hd3
          refine ⟨hd3.ex, ?_⟩
          ((conv => whnf); repeat' (first | ((with_reducible first | refine q1 ?_ | refine q2 ?_); conv => whnf) | (with_reducible refine q3 ?_) | ((with_reducible refine q4 (fun _ => ?_) (fun _ => ?_)) <;> first | (exfalso; omega) | (conv => whnf)) | ((with_reducible first | refine q5 ?_ | refine q6 ?_ | refine q7 ?_ | refine q8 ?_ | refine q9 ?_ | refine q10 ?_ | refine q11 ?_ | refine q12 ?_ | refine q13 ?_ | refine q14 ?_ | refine q15 ?_); conv => whnf) | ((refine q16 (fun _ _ _ _ _ => ?_)); conv => whnf) | ((with_reducible first | refine q17 ?_ | refine q18 ?_ | refine q19 ?_ | refine q20 ?_); conv => whnf)))
          refine IdxA.elem (sz := 4) hsub (fun _ => rfl) (by decide) hLlen.symm j rfl (by omega) (fun b o hb hc => ?_)
          rw [hA] at hc
          (conv => whnf)
          refine HoldN.mk' (vs := lineC xs[k + j]) rfl hc (fun _ h => h) ?_
          ((conv => whnf); repeat' (first | ((with_reducible first | refine q1 ?_ | refine q2 ?_); conv => whnf) | (with_reducible refine q3 ?_) | ((with_reducible refine q4 (fun _ => ?_) (fun _ => ?_)) <;> first | (exfalso; omega) | (conv => whnf)) | ((with_reducible first | refine q5 ?_ | refine q6 ?_ | refine q7 ?_ | refine q8 ?_ | refine q9 ?_ | refine q10 ?_ | refine q11 ?_ | refine q12 ?_ | refine q13 ?_ | refine q14 ?_ | refine q15 ?_); conv => whnf) | ((refine q16 (fun _ _ _ _ _ => ?_)); conv => whnf) | ((with_reducible first | refine q17 ?_ | refine q18 ?_ | refine q19 ?_ | refine q20 ?_); conv => whnf)))
          refine IdxA.elem (sz := 4) hsub (fun _ => rfl) (by decide) hLlen.symm (j - 1) (by omega) (by omega) (fun b o hb hc => ?_)
          rw [hB] at hc
          (conv => whnf)
          refine HoldN.mk' (vs := lineC (xs[k + j - 1]'(by omega))) rfl hc (fun _ h => h) ?_
          ((conv => whnf); repeat' (first | ((with_reducible first | refine q1 ?_ | refine q2 ?_); conv => whnf) | (with_reducible refine q3 ?_) | ((with_reducible refine q4 (fun _ => ?_) (fun _ => ?_)) <;> first | (exfalso; omega) | (conv => whnf)) | ((with_reducible first | refine q5 ?_ | refine q6 ?_ | refine q7 ?_ | refine q8 ?_ | refine q9 ?_ | refine q10 ?_ | refine q11 ?_ | refine q12 ?_ | refine q13 ?_ | refine q14 ?_ | refine q15 ?_); conv => whnf) | ((refine q16 (fun _ _ _ _ _ => ?_)); conv => whnf) | ((with_reducible first | refine q17 ?_ | refine q18 ?_ | refine q19 ?_ | refine q20 ?_); conv => whnf)))
          rw [lineC_ints, lineC_ints]
          refine HoldV.structNe Tryz.tbOk rfl rfl rfl rfl rfl Tryz.stood79 Tryz.guard79 ?_
          rw [show decide (([xs[k+j].id, xs[k+j].day, xs[k+j].what, xs[k+j].worth] : List Int) = [(xs[k+j-1]'(by omega)).id, (xs[k+j-1]'(by omega)).day, (xs[k+j-1]'(by omega)).what, (xs[k+j-1]'(by omega)).worth]) = decide (xs[k+j] = xs[k+j-1]'(by omega)) from decide_eq_decide.2 line_eq]
          ((conv => whnf); repeat' (first | ((with_reducible first | refine q1 ?_ | refine q2 ?_); conv => whnf) | (with_reducible refine q3 ?_) | ((with_reducible refine q4 (fun _ => ?_) (fun _ => ?_)) <;> first | (exfalso; omega) | (conv => whnf)) | ((with_reducible first | refine q5 ?_ | refine q6 ?_ | refine q7 ?_ | refine q8 ?_ | refine q9 ?_ | refine q10 ?_ | refine q11 ?_ | refine q12 ?_ | refine q13 ?_ | refine q14 ?_ | refine q15 ?_); conv => whnf) | ((refine q16 (fun _ _ _ _ _ => ?_)); conv => whnf) | ((with_reducible first | refine q17 ?_ | refine q18 ?_ | refine q19 ?_ | refine q20 ?_); conv => whnf)))
          · rename_i hne
            rw [if_pos hne] at hdt2
            refine ⟨(j + 1, i, L), rfl, ⟨by omega, by omega, by rw [show k + (j + 1) = k + j + 1 by omega, hdt2]; exact hi, by omega, hL, by rw [show k + (j + 1) = k + j + 1 by omega, hdt2]; exact hLt, ?_, hO2.ex hd3.ex, hg2.trans (hd3.ex.grown _)⟩, by simp only []; omega⟩
            rw [show k + (j + 1) - 1 = k + j - 1 + 1 by omega, ← List.drop_drop, ← List.drop_drop, hLd]
          · rename_i hne
            rw [if_neg hne] at hdt2
            have hO3 := hO2.ex hd3.ex
            have hsub3 := hsub.ex hd3.ex
            refine IdxA.elem (sz := 4) hsub3 (fun _ => rfl) (by decide) hLlen.symm j rfl (by omega) (fun b o hb hc => ?_)
            rw [hA] at hc
            (conv => whnf)
            refine LoadN.mk' (vs := lineC xs[k + j]) rfl hc ?_
            ((conv => whnf); repeat' (first | ((with_reducible first | refine q1 ?_ | refine q2 ?_); conv => whnf) | (with_reducible refine q3 ?_) | ((with_reducible refine q4 (fun _ => ?_) (fun _ => ?_)) <;> first | (exfalso; omega) | (conv => whnf)) | ((with_reducible first | refine q5 ?_ | refine q6 ?_ | refine q7 ?_ | refine q8 ?_ | refine q9 ?_ | refine q10 ?_ | refine q11 ?_ | refine q12 ?_ | refine q13 ?_ | refine q14 ?_ | refine q15 ?_); conv => whnf) | ((refine q16 (fun _ _ _ _ _ => ?_)); conv => whnf) | ((with_reducible first | refine q17 ?_ | refine q18 ?_ | refine q19 ?_ | refine q20 ?_); conv => whnf)))
            refine IdxA.own hO3 i rfl (by omega) (by decide) fun bq hbq hNq => ?_
            ((conv => whnf); repeat' (first | ((with_reducible first | refine q1 ?_ | refine q2 ?_); conv => whnf) | (with_reducible refine q3 ?_) | ((with_reducible refine q4 (fun _ => ?_) (fun _ => ?_)) <;> first | (exfalso; omega) | (conv => whnf)) | ((with_reducible first | refine q5 ?_ | refine q6 ?_ | refine q7 ?_ | refine q8 ?_ | refine q9 ?_ | refine q10 ?_ | refine q11 ?_ | refine q12 ?_ | refine q13 ?_ | refine q14 ?_ | refine q15 ?_); conv => whnf) | ((refine q16 (fun _ _ _ _ _ => ?_)); conv => whnf) | ((with_reducible first | refine q17 ?_ | refine q18 ?_ | refine q19 ?_ | refine q20 ?_); conv => whnf)))
            refine StoreA.own (o := i * 4) (vs := lineC xs[k + j]) hO3 hbq (by have : (lineC xs[k + j]).length = 4 := rfl; omega) rfl (all_one rfl) fun u4 hu4 ho4 => ?_
            rw [rowC_set (sz := 4) (fun _ => rfl) L i _ (by omega)] at ho4
            have hgr : u3.grownBy u4 (blkOf base) := by rw [hbq]; exact hu4.grown
            ((conv => whnf); repeat' (first | ((with_reducible first | refine q1 ?_ | refine q2 ?_); conv => whnf) | (with_reducible refine q3 ?_) | ((with_reducible refine q4 (fun _ => ?_) (fun _ => ?_)) <;> first | (exfalso; omega) | (conv => whnf)) | ((with_reducible first | refine q5 ?_ | refine q6 ?_ | refine q7 ?_ | refine q8 ?_ | refine q9 ?_ | refine q10 ?_ | refine q11 ?_ | refine q12 ?_ | refine q13 ?_ | refine q14 ?_ | refine q15 ?_); conv => whnf) | ((refine q16 (fun _ _ _ _ _ => ?_)); conv => whnf) | ((with_reducible first | refine q17 ?_ | refine q18 ?_ | refine q19 ?_ | refine q20 ?_); conv => whnf)))
            refine ⟨(j + 1, i + 1, L.set i xs[k + j]), rfl, ⟨by omega, by omega, by rw [show k + (j + 1) = k + j + 1 by omega, hdt2, List.length_append]; simp; omega, by omega, by simp [hL], ?_, ?_, ho4, (hg2.trans (hd3.ex.grown _)).trans hgr⟩, by simp only []; omega⟩
            · rw [show k + (j + 1) = k + j + 1 by omega, hdt2, ← hLt, List.take_succ_eq_append_getElem (by simp; omega)]
              simp [List.take_set_of_le]
            · rw [List.drop_set_of_lt (by omega), show k + (j + 1) - 1 = k + j - 1 + 1 by omega, ← List.drop_drop, ← List.drop_drop, hLd]
        · have hkj : k + j = xs.length := by omega
          rw [hkj, List.take_length] at hi hLt
          ((conv => whnf); repeat' (first | ((with_reducible first | refine q1 ?_ | refine q2 ?_); conv => whnf) | (with_reducible refine q3 ?_) | ((with_reducible refine q4 (fun _ => ?_) (fun _ => ?_)) <;> first | (exfalso; omega) | (conv => whnf)) | ((with_reducible first | refine q5 ?_ | refine q6 ?_ | refine q7 ?_ | refine q8 ?_ | refine q9 ?_ | refine q10 ?_ | refine q11 ?_ | refine q12 ?_ | refine q13 ?_ | refine q14 ?_ | refine q15 ?_); conv => whnf) | ((refine q16 (fun _ _ _ _ _ => ?_)); conv => whnf) | ((with_reducible first | refine q17 ?_ | refine q18 ?_ | refine q19 ?_ | refine q20 ?_); conv => whnf)))
          refine RunV.slice (e := 79) (sz := 4) (by_ := 32) Tryz.tbOk rfl i xs.length cap (.inl rfl) (.inr ⟨rfl, rfl⟩) (.inr ⟨rfl, rfl⟩) (by simp) (by omega) (by omega) (by omega) ?_
          ((conv => whnf); repeat' (first | ((with_reducible first | refine q1 ?_ | refine q2 ?_); conv => whnf) | (with_reducible refine q3 ?_) | ((with_reducible refine q4 (fun _ => ?_) (fun _ => ?_)) <;> first | (exfalso; omega) | (conv => whnf)) | ((with_reducible first | refine q5 ?_ | refine q6 ?_ | refine q7 ?_ | refine q8 ?_ | refine q9 ?_ | refine q10 ?_ | refine q11 ?_ | refine q12 ?_ | refine q13 ?_ | refine q14 ?_ | refine q15 ?_); conv => whnf) | ((refine q16 (fun _ _ _ _ _ => ?_)); conv => whnf) | ((with_reducible first | refine q17 ?_ | refine q18 ?_ | refine q19 ?_ | refine q20 ?_); conv => whnf)))
          refine RunV.clearTail (e := 79) (sz := 4) (by_ := 32) Tryz.tbOk i rfl hO2 (by omega) (by omega) rfl (by decide) rfl fun u3 ho3 hg3 => ?_
          ((conv => whnf); repeat' (first | ((with_reducible first | refine q1 ?_ | refine q2 ?_); conv => whnf) | (with_reducible refine q3 ?_) | ((with_reducible refine q4 (fun _ => ?_) (fun _ => ?_)) <;> first | (exfalso; omega) | (conv => whnf)) | ((with_reducible first | refine q5 ?_ | refine q6 ?_ | refine q7 ?_ | refine q8 ?_ | refine q9 ?_ | refine q10 ?_ | refine q11 ?_ | refine q12 ?_ | refine q13 ?_ | refine q14 ?_ | refine q15 ?_); conv => whnf) | ((refine q16 (fun _ _ _ _ _ => ?_)); conv => whnf) | ((with_reducible first | refine q17 ?_ | refine q18 ?_ | refine q19 ?_ | refine q20 ?_); conv => whnf)))
          refine RunV.sliceOwn (e := 79) (sz := 4) (by_ := 32) Tryz.tbOk rfl ho3 i (.inr rfl) (.inl rfl) rfl (by omega) fun ho4 => ?_
          have hcut : (List.take (i * 4) (rowC lineC L) ++ reps (xs.length - i) (cellsOf (.agg #[.int .i64 0, .int .i64 0, .int .i64 0, .int .i64 0]))).take (i * 4) = rowC lineC (dedup xs) := by
            rw [rowC_take (sz := 4) (fun _ => rfl), hLt, List.take_append_of_le_length (by rw [rowC_length (sz := 4) (fun _ => rfl)]; omega), List.take_of_length_le (by rw [rowC_length (sz := 4) (fun _ => rfl)]; omega)]
          rw [hcut] at ho4
          ((conv => whnf); repeat' (first | ((with_reducible first | refine q1 ?_ | refine q2 ?_); conv => whnf) | (with_reducible refine q3 ?_) | ((with_reducible refine q4 (fun _ => ?_) (fun _ => ?_)) <;> first | (exfalso; omega) | (conv => whnf)) | ((with_reducible first | refine q5 ?_ | refine q6 ?_ | refine q7 ?_ | refine q8 ?_ | refine q9 ?_ | refine q10 ?_ | refine q11 ?_ | refine q12 ?_ | refine q13 ?_ | refine q14 ?_ | refine q15 ?_); conv => whnf) | ((refine q16 (fun _ _ _ _ _ => ?_)); conv => whnf) | ((with_reducible first | refine q17 ?_ | refine q18 ?_ | refine q19 ?_ | refine q20 ?_); conv => whnf)))
          rw [← hi]
          exact ⟨rfl, ho4, hg2.trans hg3⟩
      · rename_i hne
        rw [if_neg hne, hd] at hdt
        exact ⟨k + 1, rfl, ⟨by omega, by omega, by rw [hdt, List.take_succ_eq_append_getElem hlt], heu.tr hd1.ex⟩, by omega⟩
    · have : k = xs.length := by omega
      subst this
      rw [List.take_length] at hd
      ((conv => whnf); repeat' (first | ((with_reducible first | refine q1 ?_ | refine q2 ?_); conv => whnf) | (with_reducible refine q3 ?_) | ((with_reducible refine q4 (fun _ => ?_) (fun _ => ?_)) <;> first | (exfalso; omega) | (conv => whnf)) | ((with_reducible first | refine q5 ?_ | refine q6 ?_ | refine q7 ?_ | refine q8 ?_ | refine q9 ?_ | refine q10 ?_ | refine q11 ?_ | refine q12 ?_ | refine q13 ?_ | refine q14 ?_ | refine q15 ?_); conv => whnf) | ((refine q16 (fun _ _ _ _ _ => ?_)); conv => whnf) | ((with_reducible first | refine q17 ?_ | refine q18 ?_ | refine q19 ?_ | refine q20 ?_); conv => whnf)))
      rw [hd]
      exact ⟨rfl, hO, heu.grown _⟩
end Go.Proofs
