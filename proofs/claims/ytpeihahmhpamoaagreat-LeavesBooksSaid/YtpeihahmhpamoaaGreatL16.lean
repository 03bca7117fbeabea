/-
  L16: a part of the proof. By an AI agent.
-/
import Derived.Test.YtpeihahmhpamoaaGreatVQ
import Derived.Test.YtpeihahmhpamoaaGreatV10
import Derived.Test.YtpeihahmhpamoaaGreatL15
set_option linter.all false
namespace Go.Proofs
open Go.V
open Go.RowKit (Below)
theorem filter_take_le {α : Type} (p : α → Bool) (xs : List α) (j : Nat) : ((xs.take j).filter p).length ≤ j := by
  have := List.length_filter_le p (xs.take j)
  rw [List.length_take] at this; omega
theorem Tryz.deleteLines (base : Option Addr) (cap N : Nat) (xs : List Line) (f : FuncId) (capv : Array Value) (p : Line → Bool) (I : World → Prop) (w : World) (ho : Own w N 79 4 base xs.length cap (rowC lineC xs)) (hN : N ≤ w.heap.size)
    (hp : PredA Tryz.prog f capv.toList (fun x => Value.agg (lineC x).toArray) xs p I) (hI : ExK I) (hIr : ∀ u u', I u → u.grownBy u' (blkOf base) → I u') (h0 : I w) (hl : xs.length < 140737488355328) :
    CallA Tryz.prog 46 [.slice base xs.length cap, .func (.func f) #[] capv] w fun v w' => v = .slice base (xs.filter (fun x => !p x)).length cap ∧ Own w' N 79 4 base (xs.filter (fun x => !p x)).length cap (rowC lineC (xs.filter (fun x => !p x))) ∧ w.grownBy w' (blkOf base) := by
  have hgt : ∀ {a b c : World}, a.grownBy b (blkOf base) → b.grownBy c (blkOf base) → a.grownBy c (blkOf base) := fun h k => h.trans k
  refine callA_intro Tryz.tbOk Tryz.func46 rfl Tryz.ntmps46 Tryz.results46 (by decide) (by simp) ?_
  ((conv => whnf); repeat' (first | ((with_reducible first | refine q1 ?_ | refine q2 ?_); conv => whnf) | (with_reducible refine q3 ?_) | ((with_reducible refine q4 (fun _ => ?_) (fun _ => ?_)) <;> first | (exfalso; omega) | (conv => whnf)) | ((with_reducible first | refine q5 ?_ | refine q6 ?_ | refine q7 ?_ | refine q8 ?_ | refine q9 ?_ | refine q10 ?_ | refine q11 ?_ | refine q12 ?_ | refine q13 ?_ | refine q14 ?_ | refine q15 ?_); conv => whnf) | ((refine q16 (fun _ _ _ _ _ => ?_)); conv => whnf) | ((with_reducible first | refine q17 ?_ | refine q18 ?_ | refine q19 ?_ | refine q20 ?_); conv => whnf)))
  refine CallA.mono (Tryz.indexLines base cap xs f capv p I w hp hI h0 ho.row hl) ?_
  rintro v w1 ⟨rfl, he1⟩
  cases hf : xs.findIdx? p with
  | none =>
    rw [show idxI none = -1 from rfl]
    ((conv => whnf); repeat' (first | ((with_reducible first | refine q1 ?_ | refine q2 ?_); conv => whnf) | (with_reducible refine q3 ?_) | ((with_reducible refine q4 (fun _ => ?_) (fun _ => ?_)) <;> first | (exfalso; omega) | (conv => whnf)) | ((with_reducible first | refine q5 ?_ | refine q6 ?_ | refine q7 ?_ | refine q8 ?_ | refine q9 ?_ | refine q10 ?_ | refine q11 ?_ | refine q12 ?_ | refine q13 ?_ | refine q14 ?_ | refine q15 ?_); conv => whnf) | ((refine q16 (fun _ _ _ _ _ => ?_)); conv => whnf) | ((with_reducible first | refine q17 ?_ | refine q18 ?_ | refine q19 ?_ | refine q20 ?_); conv => whnf)))
    have hall : xs.filter (fun x => !p x) = xs := by
      rw [List.findIdx?_eq_none_iff] at hf
      exact List.filter_eq_self.2 (fun x hx => by simp [hf x hx])
    rw [hall]
    exact ⟨rfl, ho.ex he1, he1.grown _⟩
  | some i0 =>
    obtain ⟨hi0, hpi, hlt0⟩ := List.findIdx?_eq_some_iff_getElem.1 hf
    have hT0 : (xs.take (i0 + 1)).filter (fun x => !p x) = xs.take i0 := by
      rw [List.take_succ_eq_append_getElem hi0, List.filter_append]
      have h1 : [xs[i0]].filter (fun x => !p x) = [] := by simp [hpi]
      rw [h1, List.append_nil]
      refine List.filter_eq_self.2 fun x hx => ?_
      obtain ⟨j, hj, rfl⟩ := List.mem_take_iff_getElem.1 hx
      have := hlt0 j (by omega)
      simpa using this
    rw [show idxI (some i0) = (i0 : Int) from rfl]
    ((conv => whnf); repeat' (first | ((with_reducible first | refine q1 ?_ | refine q2 ?_); conv => whnf) | (with_reducible refine q3 ?_) | ((with_reducible refine q4 (fun _ => ?_) (fun _ => ?_)) <;> first | (exfalso; omega) | (conv => whnf)) | ((with_reducible first | refine q5 ?_ | refine q6 ?_ | refine q7 ?_ | refine q8 ?_ | refine q9 ?_ | refine q10 ?_ | refine q11 ?_ | refine q12 ?_ | refine q13 ?_ | refine q14 ?_ | refine q15 ?_); conv => whnf) | ((refine q16 (fun _ _ _ _ _ => ?_)); conv => whnf) | ((with_reducible first | refine q17 ?_ | refine q18 ?_ | refine q19 ?_ | refine q20 ?_); conv => whnf)))
    refine loop_rule Tryz.tbOk (Nat × Nat × List Line) [6, 5] (fun | (j, i, _) => [.int .i64 (j:Int), .int .i64 (i:Int)])
      (fun | (j, i, L), u => j ≤ xs.length ∧ i = ((xs.take j).filter (fun x => !p x)).length ∧ L.length = xs.length ∧ L.take i = (xs.take j).filter (fun x => !p x) ∧ L.drop j = xs.drop j ∧ Own u N 79 4 base xs.length cap (rowC lineC L) ∧ I u ∧ w.grownBy u (blkOf base)) (fun | (j, _, _) => xs.length - j)
      (i0 + 1, i0, xs) rfl ⟨by omega, by rw [hT0]; simp; omega, rfl, by rw [hT0], rfl, ho.ex he1, hI _ _ h0 he1, he1.grown _⟩ ?_
    rintro ⟨j, i, L⟩ u ⟨hj, hi, hL, hLt, hLd, hO, hIu, hgu⟩ uu
    have hrow := hO.row
    have hfl := filter_take_le (fun x => !p x) xs j
    by_cases hlt : j < xs.length
    · have hLj : L[j]'(by omega) = xs[j] := by
        have h1 := List.drop_eq_getElem_cons (show j < L.length by omega)
        have h2 := List.drop_eq_getElem_cons hlt
        rw [hLd, h2] at h1
        exact (List.cons.inj h1).1.symm
      ((conv => whnf); repeat' (first | ((with_reducible first | refine q1 ?_ | refine q2 ?_); conv => whnf) | (with_reducible refine q3 ?_) | ((with_reducible refine q4 (fun _ => ?_) (fun _ => ?_)) <;> first | (exfalso; omega) | (conv => whnf)) | ((with_reducible first | refine q5 ?_ | refine q6 ?_ | refine q7 ?_ | refine q8 ?_ | refine q9 ?_ | refine q10 ?_ | refine q11 ?_ | refine q12 ?_ | refine q13 ?_ | refine q14 ?_ | refine q15 ?_); conv => whnf) | ((refine q16 (fun _ _ _ _ _ => ?_)); conv => whnf) | ((with_reducible first | refine q17 ?_ | refine q18 ?_ | refine q19 ?_ | refine q20 ?_); conv => whnf)))
      refine IdxA.elem (sz := 4) hrow (fun _ => rfl) (by decide) hL.symm j rfl (by omega) (fun b o hb hc => ?_)
      rw [hLj] at hc
      (conv => whnf)
      refine LoadN.mk' (vs := lineC xs[j]) rfl hc ?_
      ((conv => whnf); repeat' (first | ((with_reducible first | refine q1 ?_ | refine q2 ?_); conv => whnf) | (with_reducible refine q3 ?_) | ((with_reducible refine q4 (fun _ => ?_) (fun _ => ?_)) <;> first | (exfalso; omega) | (conv => whnf)) | ((with_reducible first | refine q5 ?_ | refine q6 ?_ | refine q7 ?_ | refine q8 ?_ | refine q9 ?_ | refine q10 ?_ | refine q11 ?_ | refine q12 ?_ | refine q13 ?_ | refine q14 ?_ | refine q15 ?_); conv => whnf) | ((refine q16 (fun _ _ _ _ _ => ?_)); conv => whnf) | ((with_reducible first | refine q17 ?_ | refine q18 ?_ | refine q19 ?_ | refine q20 ?_); conv => whnf)))
      refine NewA.mk' fun u1 b7 hb7 hs7 he7 hB7 => ?_; ((conv => whnf); repeat' (first | ((with_reducible first | refine q1 ?_ | refine q2 ?_); conv => whnf) | (with_reducible refine q3 ?_) | ((with_reducible refine q4 (fun _ => ?_) (fun _ => ?_)) <;> first | (exfalso; omega) | (conv => whnf)) | ((with_reducible first | refine q5 ?_ | refine q6 ?_ | refine q7 ?_ | refine q8 ?_ | refine q9 ?_ | refine q10 ?_ | refine q11 ?_ | refine q12 ?_ | refine q13 ?_ | refine q14 ?_ | refine q15 ?_); conv => whnf) | ((refine q16 (fun _ _ _ _ _ => ?_)); conv => whnf) | ((with_reducible first | refine q17 ?_ | refine q18 ?_ | refine q19 ?_ | refine q20 ?_); conv => whnf)))
      refine StoreA.var hB7 rfl rfl rfl fun u2 hu2 hB2 => ?_
      have he2 : Ex u u2 := ((Ex.refl _).tr he7).upd hu2 (by omega)
      ((conv => whnf); repeat' (first | ((with_reducible first | refine q1 ?_ | refine q2 ?_); conv => whnf) | (with_reducible refine q3 ?_) | ((with_reducible refine q4 (fun _ => ?_) (fun _ => ?_)) <;> first | (exfalso; omega) | (conv => whnf)) | ((with_reducible first | refine q5 ?_ | refine q6 ?_ | refine q7 ?_ | refine q8 ?_ | refine q9 ?_ | refine q10 ?_ | refine q11 ?_ | refine q12 ?_ | refine q13 ?_ | refine q14 ?_ | refine q15 ?_); conv => whnf) | ((refine q16 (fun _ _ _ _ _ => ?_)); conv => whnf) | ((with_reducible first | refine q17 ?_ | refine q18 ?_ | refine q19 ?_ | refine q20 ?_); conv => whnf)))
      refine CallA.mono (hp _ (List.getElem_mem hlt) _ (hI _ _ hIu he2)) ?_
      rintro v u3 ⟨rfl, he3⟩
      have hB3 := Blk.ex hB2 he3
      have hO3 := hO.ex (he2.tr he3)
      ((conv => whnf); repeat' (first | ((with_reducible first | refine q1 ?_ | refine q2 ?_); conv => whnf) | (with_reducible refine q3 ?_) | ((with_reducible refine q4 (fun _ => ?_) (fun _ => ?_)) <;> first | (exfalso; omega) | (conv => whnf)) | ((with_reducible first | refine q5 ?_ | refine q6 ?_ | refine q7 ?_ | refine q8 ?_ | refine q9 ?_ | refine q10 ?_ | refine q11 ?_ | refine q12 ?_ | refine q13 ?_ | refine q14 ?_ | refine q15 ?_); conv => whnf) | ((refine q16 (fun _ _ _ _ _ => ?_)); conv => whnf) | ((with_reducible first | refine q17 ?_ | refine q18 ?_ | refine q19 ?_ | refine q20 ?_); conv => whnf)))
      refine Br.var (fun h => ?_) (fun h => ?_)
      · -- it goes
        have hT : (xs.take (j + 1)).filter (fun x => !p x) = (xs.take j).filter (fun x => !p x) := by
          rw [List.take_succ_eq_append_getElem hlt, List.filter_append]; simp [h]
        ((conv => whnf); repeat' (first | ((with_reducible first | refine q1 ?_ | refine q2 ?_); conv => whnf) | (with_reducible refine q3 ?_) | ((with_reducible refine q4 (fun _ => ?_) (fun _ => ?_)) <;> first | (exfalso; omega) | (conv => whnf)) | ((with_reducible first | refine q5 ?_ | refine q6 ?_ | refine q7 ?_ | refine q8 ?_ | refine q9 ?_ | refine q10 ?_ | refine q11 ?_ | refine q12 ?_ | refine q13 ?_ | refine q14 ?_ | refine q15 ?_); conv => whnf) | ((refine q16 (fun _ _ _ _ _ => ?_)); conv => whnf) | ((with_reducible first | refine q17 ?_ | refine q18 ?_ | refine q19 ?_ | refine q20 ?_); conv => whnf)))
        refine ⟨(j + 1, i, L), rfl, ⟨by omega, by rw [hT]; exact hi, hL, by rw [hT]; exact hLt, ?_, hO3, hI _ _ hIu (he2.tr he3), hgu.trans ((he2.tr he3).grown _)⟩, by simp only []; omega⟩
        rw [← List.drop_drop, ← List.drop_drop, hLd]
      · -- it stays
        have hT : (xs.take (j + 1)).filter (fun x => !p x) = (xs.take j).filter (fun x => !p x) ++ [xs[j]] := by
          rw [List.take_succ_eq_append_getElem hlt, List.filter_append]; simp [h]
        ((conv => whnf); repeat' (first | ((with_reducible first | refine q1 ?_ | refine q2 ?_); conv => whnf) | (with_reducible refine q3 ?_) | ((with_reducible refine q4 (fun _ => ?_) (fun _ => ?_)) <;> first | (exfalso; omega) | (conv => whnf)) | ((with_reducible first | refine q5 ?_ | refine q6 ?_ | refine q7 ?_ | refine q8 ?_ | refine q9 ?_ | refine q10 ?_ | refine q11 ?_ | refine q12 ?_ | refine q13 ?_ | refine q14 ?_ | refine q15 ?_); conv => whnf) | ((refine q16 (fun _ _ _ _ _ => ?_)); conv => whnf) | ((with_reducible first | refine q17 ?_ | refine q18 ?_ | refine q19 ?_ | refine q20 ?_); conv => whnf)))
        refine IdxA.own hO3 i rfl (by omega) (by decide) fun bq hbq hNq => ?_
        ((conv => whnf); repeat' (first | ((with_reducible first | refine q1 ?_ | refine q2 ?_); conv => whnf) | (with_reducible refine q3 ?_) | ((with_reducible refine q4 (fun _ => ?_) (fun _ => ?_)) <;> first | (exfalso; omega) | (conv => whnf)) | ((with_reducible first | refine q5 ?_ | refine q6 ?_ | refine q7 ?_ | refine q8 ?_ | refine q9 ?_ | refine q10 ?_ | refine q11 ?_ | refine q12 ?_ | refine q13 ?_ | refine q14 ?_ | refine q15 ?_); conv => whnf) | ((refine q16 (fun _ _ _ _ _ => ?_)); conv => whnf) | ((with_reducible first | refine q17 ?_ | refine q18 ?_ | refine q19 ?_ | refine q20 ?_); conv => whnf)))
        refine StoreA.own (o := i * 4) (vs := lineC xs[j]) hO3 hbq (by have : (lineC xs[j]).length = 4 := rfl; omega) rfl (all_one rfl) fun u4 hu4 ho4 => ?_
        rw [rowC_set (sz := 4) (fun _ => rfl) L i _ (by omega)] at ho4
        have hgr : u3.grownBy u4 (blkOf base) := by rw [hbq]; exact hu4.grown
        ((conv => whnf); repeat' (first | ((with_reducible first | refine q1 ?_ | refine q2 ?_); conv => whnf) | (with_reducible refine q3 ?_) | ((with_reducible refine q4 (fun _ => ?_) (fun _ => ?_)) <;> first | (exfalso; omega) | (conv => whnf)) | ((with_reducible first | refine q5 ?_ | refine q6 ?_ | refine q7 ?_ | refine q8 ?_ | refine q9 ?_ | refine q10 ?_ | refine q11 ?_ | refine q12 ?_ | refine q13 ?_ | refine q14 ?_ | refine q15 ?_); conv => whnf) | ((refine q16 (fun _ _ _ _ _ => ?_)); conv => whnf) | ((with_reducible first | refine q17 ?_ | refine q18 ?_ | refine q19 ?_ | refine q20 ?_); conv => whnf)))
        refine ⟨(j + 1, i + 1, L.set i xs[j]), rfl, ⟨by omega, by rw [hT, List.length_append]; simp; omega, by simp [hL], ?_, ?_, ho4, hIr _ _ (hI _ _ hIu (he2.tr he3)) hgr, (hgu.trans ((he2.tr he3).grown _)).trans hgr⟩, by simp only []; omega⟩
        · rw [hT, ← hLt, List.take_succ_eq_append_getElem (by simp; omega)]
          simp [List.take_set_of_le]
        · rw [List.drop_set_of_lt (by omega), ← List.drop_drop, ← List.drop_drop, hLd]
    · have : j = xs.length := by omega
      subst this
      rw [List.take_length] at hi hLt hfl
      have hcp := hO.le
      ((conv => whnf); repeat' (first | ((with_reducible first | refine q1 ?_ | refine q2 ?_); conv => whnf) | (with_reducible refine q3 ?_) | ((with_reducible refine q4 (fun _ => ?_) (fun _ => ?_)) <;> first | (exfalso; omega) | (conv => whnf)) | ((with_reducible first | refine q5 ?_ | refine q6 ?_ | refine q7 ?_ | refine q8 ?_ | refine q9 ?_ | refine q10 ?_ | refine q11 ?_ | refine q12 ?_ | refine q13 ?_ | refine q14 ?_ | refine q15 ?_); conv => whnf) | ((refine q16 (fun _ _ _ _ _ => ?_)); conv => whnf) | ((with_reducible first | refine q17 ?_ | refine q18 ?_ | refine q19 ?_ | refine q20 ?_); conv => whnf)))
      refine RunV.slice (e := 79) (sz := 4) (by_ := 32) Tryz.tbOk rfl i xs.length cap (.inl rfl) (.inr ⟨rfl, rfl⟩) (.inr ⟨rfl, rfl⟩) (by simp) (by omega) (by omega) (by omega) ?_
      ((conv => whnf); repeat' (first | ((with_reducible first | refine q1 ?_ | refine q2 ?_); conv => whnf) | (with_reducible refine q3 ?_) | ((with_reducible refine q4 (fun _ => ?_) (fun _ => ?_)) <;> first | (exfalso; omega) | (conv => whnf)) | ((with_reducible first | refine q5 ?_ | refine q6 ?_ | refine q7 ?_ | refine q8 ?_ | refine q9 ?_ | refine q10 ?_ | refine q11 ?_ | refine q12 ?_ | refine q13 ?_ | refine q14 ?_ | refine q15 ?_); conv => whnf) | ((refine q16 (fun _ _ _ _ _ => ?_)); conv => whnf) | ((with_reducible first | refine q17 ?_ | refine q18 ?_ | refine q19 ?_ | refine q20 ?_); conv => whnf)))
      refine RunV.clearTail (e := 79) (sz := 4) (by_ := 32) Tryz.tbOk i rfl hO (by omega) (by omega) rfl (by decide) rfl fun u1 ho1 hg1 => ?_
      ((conv => whnf); repeat' (first | ((with_reducible first | refine q1 ?_ | refine q2 ?_); conv => whnf) | (with_reducible refine q3 ?_) | ((with_reducible refine q4 (fun _ => ?_) (fun _ => ?_)) <;> first | (exfalso; omega) | (conv => whnf)) | ((with_reducible first | refine q5 ?_ | refine q6 ?_ | refine q7 ?_ | refine q8 ?_ | refine q9 ?_ | refine q10 ?_ | refine q11 ?_ | refine q12 ?_ | refine q13 ?_ | refine q14 ?_ | refine q15 ?_); conv => whnf) | ((refine q16 (fun _ _ _ _ _ => ?_)); conv => whnf) | ((with_reducible first | refine q17 ?_ | refine q18 ?_ | refine q19 ?_ | refine q20 ?_); conv => whnf)))
      refine RunV.sliceOwn (e := 79) (sz := 4) (by_ := 32) Tryz.tbOk rfl ho1 i (.inr rfl) (.inl rfl) rfl (by omega) fun ho2 => ?_
      have hcut : (List.take (i * 4) (rowC lineC L) ++ reps (xs.length - i) (cellsOf (.agg #[.int .i64 0, .int .i64 0, .int .i64 0, .int .i64 0]))).take (i * 4) = rowC lineC (xs.filter (fun x => !p x)) := by
        rw [rowC_take (sz := 4) (fun _ => rfl), hLt, List.take_append_of_le_length (by rw [rowC_length (sz := 4) (fun _ => rfl)]; omega), List.take_of_length_le (by rw [rowC_length (sz := 4) (fun _ => rfl)]; omega)]
      rw [hcut] at ho2
      ((conv => whnf); repeat' (first | ((with_reducible first | refine q1 ?_ | refine q2 ?_); conv => whnf) | (with_reducible refine q3 ?_) | ((with_reducible refine q4 (fun _ => ?_) (fun _ => ?_)) <;> first | (exfalso; omega) | (conv => whnf)) | ((with_reducible first | refine q5 ?_ | refine q6 ?_ | refine q7 ?_ | refine q8 ?_ | refine q9 ?_ | refine q10 ?_ | refine q11 ?_ | refine q12 ?_ | refine q13 ?_ | refine q14 ?_ | refine q15 ?_); conv => whnf) | ((refine q16 (fun _ _ _ _ _ => ?_)); conv => whnf) | ((with_reducible first | refine q17 ?_ | refine q18 ?_ | refine q19 ?_ | refine q20 ?_); conv => whnf)))
      rw [← hi]
      exact ⟨rfl, ho2, hgu.trans hg1⟩
end Go.Proofs
