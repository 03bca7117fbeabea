/-
  L6: a part of the proof. By an AI agent.
-/
import Derived.Test.YtpeihahmhpamoaaGreatVQ
import Derived.Test.YtpeihahmhpamoaaGreatV9
import Derived.Test.YtpeihahmhpamoaaGreatL5
set_option linter.all false
namespace Go.Proofs
open Go.V
open Go.RowKit (Below)
/-! ### the polynomial through points -/
def partG (i : Nat) (px : Int) : List (Int × Int) → Nat → List Int → Int → List Int × Int
  | [], _, part, by_ => (part, by_)
  | q :: t, k, part, by_ => if k = i then partG i px t (k + 1) part by_ else partG i px t (k + 1) (timesM part q.1) (by_ * ((px - q.1) % 65521) % 65521)
def addM (by_ : Int) (out part : List Int) : List Int := List.zipWith (fun o n => (o + by_ * n) % 65521) out part
def thrStep (l : List (Int × Int)) (i : Nat) (p : Int × Int) (out : List Int) : List Int :=
  let r := partG i p.1 l 0 [1] 1
  addM (p.2 * powM r.2 65519 % 65521) out r.1
def thrG (l : List (Int × Int)) : List (Int × Int) → Nat → List Int → List Int
  | [], _, out => out
  | p :: t, i, out => thrG l t (i + 1) (thrStep l i p out)
def throughM (l : List (Int × Int)) : List Int := thrG l l 0 (List.replicate l.length 0)
def dotB (p : Int × Int) : Bool := wordB p.1 && wordB p.2
theorem dotB_spec {p : Int × Int} (h : dotB p = true) : (0 ≤ p.1 ∧ p.1 ≤ 65520) ∧ (0 ≤ p.2 ∧ p.2 ≤ 65520) := by simpa [dotB, wordB] using h
def isW (xs : List Int) : Prop := ∀ n ∈ xs, 0 ≤ n ∧ n ≤ 65520
theorem partG_spec (i : Nat) (px : Int) : ∀ (t : List (Int × Int)) (k : Nat) (part : List Int) (by_ : Int), isW part → (0 ≤ by_ ∧ by_ < 65521) →
    isW (partG i px t k part by_).1 ∧ (0 ≤ (partG i px t k part by_).2 ∧ (partG i px t k part by_).2 < 65521) ∧ (partG i px t k part by_).1.length = part.length + (if k ≤ i ∧ i < k + t.length then t.length - 1 else t.length) := by
  intro t
  induction t with
  | nil => intro k part by_ hp hb; simp only [partG]; exact ⟨hp, hb, by simp⟩
  | cons q t ih =>
    intro k part by_ hp hb
    simp only [partG]
    by_cases hki : k = i
    · rw [if_pos hki]
      obtain ⟨h1, h2, h3⟩ := ih (k + 1) part by_ hp hb
      refine ⟨h1, h2, ?_⟩
      rw [h3, if_neg (by omega), if_pos (by simp; omega)]; simp
    · rw [if_neg hki]
      obtain ⟨h1, h2, h3⟩ := ih (k + 1) (timesM part q.1) (by_ * ((px - q.1) % 65521) % 65521) (timesM_range _ hp) (by omega)
      refine ⟨h1, h2, ?_⟩
      rw [h3, timesM_length]
      simp only [List.length_cons]
      split <;> split <;> omega
def addAt (by_ : Int) (out part : List Int) (k : Nat) : List Int := addM by_ (out.take k) (part.take k) ++ out.drop k
theorem addAt_next {by_ : Int} {out part : List Int} {k : Nat} (hl : part.length = out.length) (hk : k < out.length) :
    (addAt by_ out part k)[k]? = some out[k] ∧ (addAt by_ out part k).set k ((out[k] + by_ * part[k]) % 65521) = addAt by_ out part (k + 1) := by
  have hA : (addM by_ (out.take k) (part.take k)).length = k := by simp [addM]; omega
  have e : addM by_ (out.take (k + 1)) (part.take (k + 1)) = addM by_ (out.take k) (part.take k) ++ [(out[k] + by_ * part[k]) % 65521] := by
    rw [List.take_succ_eq_append_getElem hk, List.take_succ_eq_append_getElem (by omega)]
    unfold addM
    rw [List.zipWith_append (by simp; omega)]
    rfl
  unfold addAt
  rw [e, List.drop_eq_getElem_cons hk]
  exact mid_get _ _ _ _ _ hA
theorem addAt_length {by_ : Int} {out part : List Int} {k : Nat} (hl : part.length = out.length) (hk : k ≤ out.length) : (addAt by_ out part k).length = out.length := by simp [addAt, addM]; omega
theorem addM_range (by_ : Int) (out part : List Int) : isW (addM by_ out part) := by
  intro n hn
  unfold addM at hn
  rw [List.mem_iff_getElem] at hn
  obtain ⟨i, hi, rfl⟩ := hn
  simp
  omega
theorem Tryz.Through1 (ps : List (Int × Int)) : PredA Tryz.prog 75 [] (fun x => Value.agg (dotC x).toArray) ps dotB fun _ => True := by
  intro p hm w _
  show CallA Tryz.prog 75 [Value.agg (dotC p).toArray] w _
  refine callA_intro Tryz.tbOk Tryz.func75 rfl Tryz.ntmps75 Tryz.results75 (by decide) (by simp) ?_
  ((conv => whnf); repeat' (first | ((with_reducible first | refine q1 ?_ | refine q2 ?_); conv => whnf) | (with_reducible refine q3 ?_) | ((with_reducible refine q4 (fun _ => ?_) (fun _ => ?_)) <;> first | (exfalso; omega) | (conv => whnf)) | ((with_reducible first | refine q5 ?_ | refine q6 ?_ | refine q7 ?_ | refine q8 ?_ | refine q9 ?_ | refine q10 ?_ | refine q11 ?_ | refine q12 ?_ | refine q13 ?_ | refine q14 ?_ | refine q15 ?_); conv => whnf) | ((refine q16 (fun _ _ _ _ _ => ?_)); conv => whnf) | ((with_reducible first | refine q17 ?_ | refine q18 ?_ | refine q19 ?_ | refine q20 ?_); conv => whnf)))
  refine NewA.mk' fun w1 b hb hs he hB => ?_; ((conv => whnf); repeat' (first | ((with_reducible first | refine q1 ?_ | refine q2 ?_); conv => whnf) | (with_reducible refine q3 ?_) | ((with_reducible refine q4 (fun _ => ?_) (fun _ => ?_)) <;> first | (exfalso; omega) | (conv => whnf)) | ((with_reducible first | refine q5 ?_ | refine q6 ?_ | refine q7 ?_ | refine q8 ?_ | refine q9 ?_ | refine q10 ?_ | refine q11 ?_ | refine q12 ?_ | refine q13 ?_ | refine q14 ?_ | refine q15 ?_); conv => whnf) | ((refine q16 (fun _ _ _ _ _ => ?_)); conv => whnf) | ((with_reducible first | refine q17 ?_ | refine q18 ?_ | refine q19 ?_ | refine q20 ?_); conv => whnf)))
  refine CallA.mono (Tryz.word _ _) ?_; rintro v w2 ⟨rfl, rfl⟩; ((conv => whnf); repeat' (first | ((with_reducible first | refine q1 ?_ | refine q2 ?_); conv => whnf) | (with_reducible refine q3 ?_) | ((with_reducible refine q4 (fun _ => ?_) (fun _ => ?_)) <;> first | (exfalso; omega) | (conv => whnf)) | ((with_reducible first | refine q5 ?_ | refine q6 ?_ | refine q7 ?_ | refine q8 ?_ | refine q9 ?_ | refine q10 ?_ | refine q11 ?_ | refine q12 ?_ | refine q13 ?_ | refine q14 ?_ | refine q15 ?_); conv => whnf) | ((refine q16 (fun _ _ _ _ _ => ?_)); conv => whnf) | ((with_reducible first | refine q17 ?_ | refine q18 ?_ | refine q19 ?_ | refine q20 ?_); conv => whnf)))
  · rename_i h
    refine CallA.mono (Tryz.word _ _) ?_; rintro v w2 ⟨rfl, rfl⟩; ((conv => whnf); repeat' (first | ((with_reducible first | refine q1 ?_ | refine q2 ?_); conv => whnf) | (with_reducible refine q3 ?_) | ((with_reducible refine q4 (fun _ => ?_) (fun _ => ?_)) <;> first | (exfalso; omega) | (conv => whnf)) | ((with_reducible first | refine q5 ?_ | refine q6 ?_ | refine q7 ?_ | refine q8 ?_ | refine q9 ?_ | refine q10 ?_ | refine q11 ?_ | refine q12 ?_ | refine q13 ?_ | refine q14 ?_ | refine q15 ?_); conv => whnf) | ((refine q16 (fun _ _ _ _ _ => ?_)); conv => whnf) | ((with_reducible first | refine q17 ?_ | refine q18 ?_ | refine q19 ?_ | refine q20 ?_); conv => whnf)))
    exact ⟨by simp only [dotB, wordB, h]; simp, he⟩
  · rename_i h
    exact ⟨by simp only [dotB, wordB, h]; simp, he⟩
theorem Tryz.Through2 (p : Int × Int) (b T : Nat) (ps : List (Int × Int)) : PredA Tryz.prog 77 [.pointer (some ⟨b, 0, none⟩)] (fun x => Value.agg (dotC x).toArray) ps (fun q => decide (q.1 = p.1)) fun w => Blk w b (dotC p) T := by
  intro q hm w hB
  show CallA Tryz.prog 77 [Value.agg (dotC q).toArray, .pointer (some ⟨b, 0, none⟩)] w _
  refine callA_intro Tryz.tbOk Tryz.func77 rfl Tryz.ntmps77 Tryz.results77 (by decide) (by simp) ?_
  ((conv => whnf); repeat' (first | ((with_reducible first | refine q1 ?_ | refine q2 ?_); conv => whnf) | (with_reducible refine q3 ?_) | ((with_reducible refine q4 (fun _ => ?_) (fun _ => ?_)) <;> first | (exfalso; omega) | (conv => whnf)) | ((with_reducible first | refine q5 ?_ | refine q6 ?_ | refine q7 ?_ | refine q8 ?_ | refine q9 ?_ | refine q10 ?_ | refine q11 ?_ | refine q12 ?_ | refine q13 ?_ | refine q14 ?_ | refine q15 ?_); conv => whnf) | ((refine q16 (fun _ _ _ _ _ => ?_)); conv => whnf) | ((with_reducible first | refine q17 ?_ | refine q18 ?_ | refine q19 ?_ | refine q20 ?_); conv => whnf)))
  refine NewA.mk' fun w1 b2 hb hs he hB2 => ?_; ((conv => whnf); repeat' (first | ((with_reducible first | refine q1 ?_ | refine q2 ?_); conv => whnf) | (with_reducible refine q3 ?_) | ((with_reducible refine q4 (fun _ => ?_) (fun _ => ?_)) <;> first | (exfalso; omega) | (conv => whnf)) | ((with_reducible first | refine q5 ?_ | refine q6 ?_ | refine q7 ?_ | refine q8 ?_ | refine q9 ?_ | refine q10 ?_ | refine q11 ?_ | refine q12 ?_ | refine q13 ?_ | refine q14 ?_ | refine q15 ?_); conv => whnf) | ((refine q16 (fun _ _ _ _ _ => ?_)); conv => whnf) | ((with_reducible first | refine q17 ?_ | refine q18 ?_ | refine q19 ?_ | refine q20 ?_); conv => whnf)))
  have hB' := hB.ex he
  ((conv => whnf); repeat' (first | ((with_reducible first | refine q1 ?_ | refine q2 ?_); conv => whnf) | (with_reducible refine q3 ?_) | ((with_reducible refine q4 (fun _ => ?_) (fun _ => ?_)) <;> first | (exfalso; omega) | (conv => whnf)) | ((with_reducible first | refine q5 ?_ | refine q6 ?_ | refine q7 ?_ | refine q8 ?_ | refine q9 ?_ | refine q10 ?_ | refine q11 ?_ | refine q12 ?_ | refine q13 ?_ | refine q14 ?_ | refine q15 ?_); conv => whnf) | ((refine q16 (fun _ _ _ _ _ => ?_)); conv => whnf) | ((with_reducible first | refine q17 ?_ | refine q18 ?_ | refine q19 ?_ | refine q20 ?_); conv => whnf)))
  exact ⟨rfl, he⟩
theorem Tryz.through (base : Option Addr) (cap : Nat) (ps : List (Int × Int)) (w : World) (hr : Row w base (rowC dotC ps)) (hl : ps.length < 1073741824) (hw : ∀ p ∈ ps, dotB p = true) :
    CallA Tryz.prog 78 [.slice base ps.length cap] w (RetI w (throughM ps)) := by
  refine callA_intro Tryz.tbOk Tryz.func78 rfl Tryz.ntmps78 Tryz.results78 (by decide) (by simp) ?_
  ((conv => whnf); repeat' (first | ((with_reducible first | refine q1 ?_ | refine q2 ?_); conv => whnf) | (with_reducible refine q3 ?_) | ((with_reducible refine q4 (fun _ => ?_) (fun _ => ?_)) <;> first | (exfalso; omega) | (conv => whnf)) | ((with_reducible first | refine q5 ?_ | refine q6 ?_ | refine q7 ?_ | refine q8 ?_ | refine q9 ?_ | refine q10 ?_ | refine q11 ?_ | refine q12 ?_ | refine q13 ?_ | refine q14 ?_ | refine q15 ?_); conv => whnf) | ((refine q16 (fun _ _ _ _ _ => ?_)); conv => whnf) | ((with_reducible first | refine q17 ?_ | refine q18 ?_ | refine q19 ?_ | refine q20 ?_); conv => whnf)))
  refine RunV.make (e := 3) (sz := 1) (by_ := 8) Tryz.tbOk w.heap.size ps.length ps.length rfl (by simp) (by simp) (by omega) (by omega) (by omega) rfl (by decide) (by omega) fun w1 b hb hs he ho => ?_
  ((conv => whnf); repeat' (first | ((with_reducible first | refine q1 ?_ | refine q2 ?_); conv => whnf) | (with_reducible refine q3 ?_) | ((with_reducible refine q4 (fun _ => ?_) (fun _ => ?_)) <;> first | (exfalso; omega) | (conv => whnf)) | ((with_reducible first | refine q5 ?_ | refine q6 ?_ | refine q7 ?_ | refine q8 ?_ | refine q9 ?_ | refine q10 ?_ | refine q11 ?_ | refine q12 ?_ | refine q13 ?_ | refine q14 ?_ | refine q15 ?_); conv => whnf) | ((refine q16 (fun _ _ _ _ _ => ?_)); conv => whnf) | ((with_reducible first | refine q17 ?_ | refine q18 ?_ | refine q19 ?_ | refine q20 ?_); conv => whnf)))
  refine loop_rule Tryz.tbOk (Nat × List Int) [17] (fun | (i, _) => [.int .i64 (i:Int)]) (fun | (i, out), w' => i ≤ ps.length ∧ out.length = ps.length ∧ isW out ∧ Own w' w.heap.size 3 1 (some ⟨b, 0, none⟩) ps.length ps.length (ints out) ∧ Ex w w' ∧ thrG ps (ps.drop i) i out = throughM ps) (fun | (i, _) => ps.length - i)
    (0, List.replicate ps.length 0) rfl ⟨by omega, by simp, ?_, ?_, he, rfl⟩ ?_
  · intro n hn; have := (List.mem_replicate.1 hn).2; omega
  · rw [← ints_rep]; exact ho
  rintro ⟨i, out⟩ w' ⟨hi, hol, hoW, ho', he', hG⟩ u
  have hr' := hr.ex he'
  by_cases hlt : i < ps.length
  · ((conv => whnf); repeat' (first | ((with_reducible first | refine q1 ?_ | refine q2 ?_); conv => whnf) | (with_reducible refine q3 ?_) | ((with_reducible refine q4 (fun _ => ?_) (fun _ => ?_)) <;> first | (exfalso; omega) | (conv => whnf)) | ((with_reducible first | refine q5 ?_ | refine q6 ?_ | refine q7 ?_ | refine q8 ?_ | refine q9 ?_ | refine q10 ?_ | refine q11 ?_ | refine q12 ?_ | refine q13 ?_ | refine q14 ?_ | refine q15 ?_); conv => whnf) | ((refine q16 (fun _ _ _ _ _ => ?_)); conv => whnf) | ((with_reducible first | refine q17 ?_ | refine q18 ?_ | refine q19 ?_ | refine q20 ?_); conv => whnf)))
    refine IdxA.elem (sz := 2) hr' (fun _ => rfl) (by decide) rfl i rfl hlt fun b1 o1 hb1 hc1 => ?_
    (conv => whnf)
    refine LoadN.mk' (vs := dotC ps[i]) rfl hc1 ?_
    ((conv => whnf); repeat' (first | ((with_reducible first | refine q1 ?_ | refine q2 ?_); conv => whnf) | (with_reducible refine q3 ?_) | ((with_reducible refine q4 (fun _ => ?_) (fun _ => ?_)) <;> first | (exfalso; omega) | (conv => whnf)) | ((with_reducible first | refine q5 ?_ | refine q6 ?_ | refine q7 ?_ | refine q8 ?_ | refine q9 ?_ | refine q10 ?_ | refine q11 ?_ | refine q12 ?_ | refine q13 ?_ | refine q14 ?_ | refine q15 ?_); conv => whnf) | ((refine q16 (fun _ _ _ _ _ => ?_)); conv => whnf) | ((with_reducible first | refine q17 ?_ | refine q18 ?_ | refine q19 ?_ | refine q20 ?_); conv => whnf)))
    refine NewA.mk' fun w2 b5 hb5 hs5 he5 hB5 => ?_; ((conv => whnf); repeat' (first | ((with_reducible first | refine q1 ?_ | refine q2 ?_); conv => whnf) | (with_reducible refine q3 ?_) | ((with_reducible refine q4 (fun _ => ?_) (fun _ => ?_)) <;> first | (exfalso; omega) | (conv => whnf)) | ((with_reducible first | refine q5 ?_ | refine q6 ?_ | refine q7 ?_ | refine q8 ?_ | refine q9 ?_ | refine q10 ?_ | refine q11 ?_ | refine q12 ?_ | refine q13 ?_ | refine q14 ?_ | refine q15 ?_); conv => whnf) | ((refine q16 (fun _ _ _ _ _ => ?_)); conv => whnf) | ((with_reducible first | refine q17 ?_ | refine q18 ?_ | refine q19 ?_ | refine q20 ?_); conv => whnf)))
    refine StoreA.var hB5 rfl rfl rfl fun w3 hu3 hB3 => ?_
    ((conv => whnf); repeat' (first | ((with_reducible first | refine q1 ?_ | refine q2 ?_); conv => whnf) | (with_reducible refine q3 ?_) | ((with_reducible refine q4 (fun _ => ?_) (fun _ => ?_)) <;> first | (exfalso; omega) | (conv => whnf)) | ((with_reducible first | refine q5 ?_ | refine q6 ?_ | refine q7 ?_ | refine q8 ?_ | refine q9 ?_ | refine q10 ?_ | refine q11 ?_ | refine q12 ?_ | refine q13 ?_ | refine q14 ?_ | refine q15 ?_); conv => whnf) | ((refine q16 (fun _ _ _ _ _ => ?_)); conv => whnf) | ((with_reducible first | refine q17 ?_ | refine q18 ?_ | refine q19 ?_ | refine q20 ?_); conv => whnf)))
    refine NewS.mk' (cs := [.int .i64 1]) fun w4 b6 hb6 hs6 he6 hB6 => ?_
    ((conv => whnf); repeat' (first | ((with_reducible first | refine q1 ?_ | refine q2 ?_); conv => whnf) | (with_reducible refine q3 ?_) | ((with_reducible refine q4 (fun _ => ?_) (fun _ => ?_)) <;> first | (exfalso; omega) | (conv => whnf)) | ((with_reducible first | refine q5 ?_ | refine q6 ?_ | refine q7 ?_ | refine q8 ?_ | refine q9 ?_ | refine q10 ?_ | refine q11 ?_ | refine q12 ?_ | refine q13 ?_ | refine q14 ?_ | refine q15 ?_); conv => whnf) | ((refine q16 (fun _ _ _ _ _ => ?_)); conv => whnf) | ((with_reducible first | refine q17 ?_ | refine q18 ?_ | refine q19 ?_ | refine q20 ?_); conv => whnf)))
    have hs3 := hu3.size
    have heA : Ex w w4 := ((he'.tr he5).upd hu3 (by have := he'.size; omega)).tr he6
    have hoA := ((ho'.ex he5).upd hu3 (by simp [blkOf]; have := (ho'.at_ rfl).2; simp at this; omega)).ex he6
    have hB5A := hB3.ex he6
    have hwi := dotB_spec (hw _ (List.getElem_mem hlt))
    have hprod : ∀ x y : Int, (0 ≤ x ∧ x < 65521) → (0 ≤ y ∧ y < 65521) → 0 ≤ x * y ∧ x * y ≤ 4292870400 := fun x y => mul_word
    refine loop_rule Tryz.tbOk (Nat × List Int × Int × Option Addr × Nat) [25, 6, 7] (fun | (k, part, by_, bp, cp) => [.int .i64 (k:Int), .slice bp part.length cp, .int .i64 by_])
      (fun | (k, part, by_, bp, cp), w' => k ≤ ps.length ∧ isW part ∧ part.length ≤ k + 1 ∧ (0 ≤ by_ ∧ by_ < 65521) ∧ Row w' bp (ints part) ∧ (∀ a, bp = some a → b < a.block) ∧ Ex w4 w' ∧ partG i ps[i].1 (ps.drop k) k part by_ = partG i ps[i].1 ps 0 [1] 1) (fun | (k, _, _, _, _) => ps.length - k)
      (0, [1], 1, some ⟨b6, 0, none⟩, 1) rfl ⟨by omega, by intro n hn; simp at hn; omega, by simp, by omega, hB6.row, by rintro a ⟨⟩; have := (ho'.at_ rfl).2; simp at this; simp only []; omega, Ex.refl _, rfl⟩ ?_
    rintro ⟨k, part, by_, bp, cp⟩ w5 ⟨hk, hpW, hpl, hby, hpo, hbb, he4, hpG⟩ u2
    have hr5 := hr.ex (heA.tr he4)
    have hB55 := hB5A.ex he4
    by_cases hkl : k < ps.length
    · ((conv => whnf); repeat' (first | ((with_reducible first | refine q1 ?_ | refine q2 ?_); conv => whnf) | (with_reducible refine q3 ?_) | ((with_reducible refine q4 (fun _ => ?_) (fun _ => ?_)) <;> first | (exfalso; omega) | (conv => whnf)) | ((with_reducible first | refine q5 ?_ | refine q6 ?_ | refine q7 ?_ | refine q8 ?_ | refine q9 ?_ | refine q10 ?_ | refine q11 ?_ | refine q12 ?_ | refine q13 ?_ | refine q14 ?_ | refine q15 ?_); conv => whnf) | ((refine q16 (fun _ _ _ _ _ => ?_)); conv => whnf) | ((with_reducible first | refine q17 ?_ | refine q18 ?_ | refine q19 ?_ | refine q20 ?_); conv => whnf)))
      refine IdxA.elem (sz := 2) hr5 (fun _ => rfl) (by decide) rfl k rfl hkl fun b7 o7 hb7 hc7 => ?_
      (conv => whnf)
      refine LoadN.mk' (vs := dotC ps[k]) rfl hc7 ?_
      ((conv => whnf); repeat' (first | ((with_reducible first | refine q1 ?_ | refine q2 ?_); conv => whnf) | (with_reducible refine q3 ?_) | ((with_reducible refine q4 (fun _ => ?_) (fun _ => ?_)) <;> first | (exfalso; omega) | (conv => whnf)) | ((with_reducible first | refine q5 ?_ | refine q6 ?_ | refine q7 ?_ | refine q8 ?_ | refine q9 ?_ | refine q10 ?_ | refine q11 ?_ | refine q12 ?_ | refine q13 ?_ | refine q14 ?_ | refine q15 ?_); conv => whnf) | ((refine q16 (fun _ _ _ _ _ => ?_)); conv => whnf) | ((with_reducible first | refine q17 ?_ | refine q18 ?_ | refine q19 ?_ | refine q20 ?_); conv => whnf)))
      refine NewA.mk' fun w6 b9 hb9 hs9 he9 hB9 => ?_; ((conv => whnf); repeat' (first | ((with_reducible first | refine q1 ?_ | refine q2 ?_); conv => whnf) | (with_reducible refine q3 ?_) | ((with_reducible refine q4 (fun _ => ?_) (fun _ => ?_)) <;> first | (exfalso; omega) | (conv => whnf)) | ((with_reducible first | refine q5 ?_ | refine q6 ?_ | refine q7 ?_ | refine q8 ?_ | refine q9 ?_ | refine q10 ?_ | refine q11 ?_ | refine q12 ?_ | refine q13 ?_ | refine q14 ?_ | refine q15 ?_); conv => whnf) | ((refine q16 (fun _ _ _ _ _ => ?_)); conv => whnf) | ((with_reducible first | refine q17 ?_ | refine q18 ?_ | refine q19 ?_ | refine q20 ?_); conv => whnf)))
      refine StoreA.var hB9 rfl rfl rfl fun w7 hu7 hB7 => ?_
      have hB57 := hu7.blk (hB55.ex he9) (by have := hB55.lt; omega)
      have hEA : Ex w4 w7 := (he4.tr he9).upd hu7 (by have := he4.size; omega)
      have hpo7 : Row w7 bp (ints part) := hpo.ex ((Ex.refl _).tr he9 |>.upd hu7 (by omega))
      have hwk := dotB_spec (hw _ (List.getElem_mem hkl))
      have hmul := mul_word hby (show 0 ≤ (ps[i].1 - ps[k].1) % 65521 ∧ (ps[i].1 - ps[k].1) % 65521 < 65521 by omega)
      ((conv => whnf); repeat' (first | ((with_reducible first | refine q1 ?_ | refine q2 ?_); conv => whnf) | (with_reducible refine q3 ?_) | ((with_reducible refine q4 (fun _ => ?_) (fun _ => ?_)) <;> first | (exfalso; omega) | (conv => whnf)) | ((with_reducible first | refine q5 ?_ | refine q6 ?_ | refine q7 ?_ | refine q8 ?_ | refine q9 ?_ | refine q10 ?_ | refine q11 ?_ | refine q12 ?_ | refine q13 ?_ | refine q14 ?_ | refine q15 ?_); conv => whnf) | ((refine q16 (fun _ _ _ _ _ => ?_)); conv => whnf) | ((with_reducible first | refine q17 ?_ | refine q18 ?_ | refine q19 ?_ | refine q20 ?_); conv => whnf)))
      · refine draw_rule Tryz.tbOk Tryz.mix (fun u => Ex w7 u) (.take 0 (.take 1 (.take 2 (.take 4 (.take 5 (.take 6 (.take 7 (.take 8 (.take 9 (.one 3 (.one 10 (.take 11 (.one 12 (.take 13 (.take 14 (.done)))))))))))))))) (by kernel_rfl) (by kernel_rfl) ?_
        intro w8 hd8
        refine ⟨hd8.ex, ?_⟩
        ((conv => whnf); repeat' (first | ((with_reducible first | refine q1 ?_ | refine q2 ?_); conv => whnf) | (with_reducible refine q3 ?_) | ((with_reducible refine q4 (fun _ => ?_) (fun _ => ?_)) <;> first | (exfalso; omega) | (conv => whnf)) | ((with_reducible first | refine q5 ?_ | refine q6 ?_ | refine q7 ?_ | refine q8 ?_ | refine q9 ?_ | refine q10 ?_ | refine q11 ?_ | refine q12 ?_ | refine q13 ?_ | refine q14 ?_ | refine q15 ?_); conv => whnf) | ((refine q16 (fun _ _ _ _ _ => ?_)); conv => whnf) | ((with_reducible first | refine q17 ?_ | refine q18 ?_ | refine q19 ?_ | refine q20 ?_); conv => whnf)))
        refine CallA.mono (Tryz.times _ _ _ _ _ (hpo7.ex hd8.ex) (by omega) hpW hwk.1) ?_; rintro v w9 ⟨b10, c10, rfl, ho10, he10⟩; ((conv => whnf); repeat' (first | ((with_reducible first | refine q1 ?_ | refine q2 ?_); conv => whnf) | (with_reducible refine q3 ?_) | ((with_reducible refine q4 (fun _ => ?_) (fun _ => ?_)) <;> first | (exfalso; omega) | (conv => whnf)) | ((with_reducible first | refine q5 ?_ | refine q6 ?_ | refine q7 ?_ | refine q8 ?_ | refine q9 ?_ | refine q10 ?_ | refine q11 ?_ | refine q12 ?_ | refine q13 ?_ | refine q14 ?_ | refine q15 ?_); conv => whnf) | ((refine q16 (fun _ _ _ _ _ => ?_)); conv => whnf) | ((with_reducible first | refine q17 ?_ | refine q18 ?_ | refine q19 ?_ | refine q20 ?_); conv => whnf)))
        refine ⟨hd8.ex.tr he10, ?_⟩
        ((conv => whnf); repeat' (first | ((with_reducible first | refine q1 ?_ | refine q2 ?_); conv => whnf) | (with_reducible refine q3 ?_) | ((with_reducible refine q4 (fun _ => ?_) (fun _ => ?_)) <;> first | (exfalso; omega) | (conv => whnf)) | ((with_reducible first | refine q5 ?_ | refine q6 ?_ | refine q7 ?_ | refine q8 ?_ | refine q9 ?_ | refine q10 ?_ | refine q11 ?_ | refine q12 ?_ | refine q13 ?_ | refine q14 ?_ | refine q15 ?_); conv => whnf) | ((refine q16 (fun _ _ _ _ _ => ?_)); conv => whnf) | ((with_reducible first | refine q17 ?_ | refine q18 ?_ | refine q19 ?_ | refine q20 ?_); conv => whnf)))
        refine CallA.mono (Tryz.mod _ _ (by omega)) ?_; rintro v w10 ⟨rfl, rfl⟩; ((conv => whnf); repeat' (first | ((with_reducible first | refine q1 ?_ | refine q2 ?_); conv => whnf) | (with_reducible refine q3 ?_) | ((with_reducible refine q4 (fun _ => ?_) (fun _ => ?_)) <;> first | (exfalso; omega) | (conv => whnf)) | ((with_reducible first | refine q5 ?_ | refine q6 ?_ | refine q7 ?_ | refine q8 ?_ | refine q9 ?_ | refine q10 ?_ | refine q11 ?_ | refine q12 ?_ | refine q13 ?_ | refine q14 ?_ | refine q15 ?_); conv => whnf) | ((refine q16 (fun _ _ _ _ _ => ?_)); conv => whnf) | ((with_reducible first | refine q17 ?_ | refine q18 ?_ | refine q19 ?_ | refine q20 ?_); conv => whnf)))
        refine ⟨hd8.ex.tr he10, ?_⟩
        ((conv => whnf); repeat' (first | ((with_reducible first | refine q1 ?_ | refine q2 ?_); conv => whnf) | (with_reducible refine q3 ?_) | ((with_reducible refine q4 (fun _ => ?_) (fun _ => ?_)) <;> first | (exfalso; omega) | (conv => whnf)) | ((with_reducible first | refine q5 ?_ | refine q6 ?_ | refine q7 ?_ | refine q8 ?_ | refine q9 ?_ | refine q10 ?_ | refine q11 ?_ | refine q12 ?_ | refine q13 ?_ | refine q14 ?_ | refine q15 ?_); conv => whnf) | ((refine q16 (fun _ _ _ _ _ => ?_)); conv => whnf) | ((with_reducible first | refine q17 ?_ | refine q18 ?_ | refine q19 ?_ | refine q20 ?_); conv => whnf)))
        refine CallA.mono (Tryz.mod _ _ (by omega)) ?_; rintro v w10 ⟨rfl, rfl⟩; ((conv => whnf); repeat' (first | ((with_reducible first | refine q1 ?_ | refine q2 ?_); conv => whnf) | (with_reducible refine q3 ?_) | ((with_reducible refine q4 (fun _ => ?_) (fun _ => ?_)) <;> first | (exfalso; omega) | (conv => whnf)) | ((with_reducible first | refine q5 ?_ | refine q6 ?_ | refine q7 ?_ | refine q8 ?_ | refine q9 ?_ | refine q10 ?_ | refine q11 ?_ | refine q12 ?_ | refine q13 ?_ | refine q14 ?_ | refine q15 ?_); conv => whnf) | ((refine q16 (fun _ _ _ _ _ => ?_)); conv => whnf) | ((with_reducible first | refine q17 ?_ | refine q18 ?_ | refine q19 ?_ | refine q20 ?_); conv => whnf)))
        refine ⟨hd8.ex.tr he10, ?_⟩
        ((conv => whnf); repeat' (first | ((with_reducible first | refine q1 ?_ | refine q2 ?_); conv => whnf) | (with_reducible refine q3 ?_) | ((with_reducible refine q4 (fun _ => ?_) (fun _ => ?_)) <;> first | (exfalso; omega) | (conv => whnf)) | ((with_reducible first | refine q5 ?_ | refine q6 ?_ | refine q7 ?_ | refine q8 ?_ | refine q9 ?_ | refine q10 ?_ | refine q11 ?_ | refine q12 ?_ | refine q13 ?_ | refine q14 ?_ | refine q15 ?_); conv => whnf) | ((refine q16 (fun _ _ _ _ _ => ?_)); conv => whnf) | ((with_reducible first | refine q17 ?_ | refine q18 ?_ | refine q19 ?_ | refine q20 ?_); conv => whnf)))
        refine ⟨(k + 1, timesM part ps[k].1, by_ * ((ps[i].1 - ps[k].1) % 65521) % 65521, b10, c10), rfl, ⟨by omega, timesM_range _ hpW, by rw [timesM_length]; omega, by omega, ho10.row, fun a ha => by have h1 := (ho10.at_ ha).1; have h2 := hoA.at_ rfl; have h3 := hEA.size; have h4 := hd8.size; simp at h2; omega, hEA.tr (hd8.ex.tr he10), ?_⟩, by simp only []; omega⟩
        rw [← hpG, List.drop_eq_getElem_cons hkl]
        simp only [partG]
        rw [if_neg (by omega)]
      · rename_i hki
        refine ⟨(k + 1, part, by_, bp, cp), rfl, ⟨by omega, hpW, by omega, hby, hpo7, hbb, hEA, ?_⟩, by simp only []; omega⟩
        rw [← hpG, List.drop_eq_getElem_cons hkl]
        simp only [partG]
        rw [if_pos (by omega)]
    · have : k = ps.length := by omega
      subst this
      rw [List.drop_length] at hpG
      simp only [partG] at hpG
      ((conv => whnf); repeat' (first | ((with_reducible first | refine q1 ?_ | refine q2 ?_); conv => whnf) | (with_reducible refine q3 ?_) | ((with_reducible refine q4 (fun _ => ?_) (fun _ => ?_)) <;> first | (exfalso; omega) | (conv => whnf)) | ((with_reducible first | refine q5 ?_ | refine q6 ?_ | refine q7 ?_ | refine q8 ?_ | refine q9 ?_ | refine q10 ?_ | refine q11 ?_ | refine q12 ?_ | refine q13 ?_ | refine q14 ?_ | refine q15 ?_); conv => whnf) | ((refine q16 (fun _ _ _ _ _ => ?_)); conv => whnf) | ((with_reducible first | refine q17 ?_ | refine q18 ?_ | refine q19 ?_ | refine q20 ?_); conv => whnf)))
      refine draw_rule Tryz.tbOk Tryz.mix (fun u => Ex w5 u) (.take 0 (.take 1 (.take 2 (.one 3 (.take 4 (.one 5 (.take 6 (.done)))))))) (by kernel_rfl) (by kernel_rfl) ?_
      intro w8 hd8
      refine ⟨hd8.ex, ?_⟩
      have hB58 := hB55.ex hd8.ex
      ((conv => whnf); repeat' (first | ((with_reducible first | refine q1 ?_ | refine q2 ?_); conv => whnf) | (with_reducible refine q3 ?_) | ((with_reducible refine q4 (fun _ => ?_) (fun _ => ?_)) <;> first | (exfalso; omega) | (conv => whnf)) | ((with_reducible first | refine q5 ?_ | refine q6 ?_ | refine q7 ?_ | refine q8 ?_ | refine q9 ?_ | refine q10 ?_ | refine q11 ?_ | refine q12 ?_ | refine q13 ?_ | refine q14 ?_ | refine q15 ?_); conv => whnf) | ((refine q16 (fun _ _ _ _ _ => ?_)); conv => whnf) | ((with_reducible first | refine q17 ?_ | refine q18 ?_ | refine q19 ?_ | refine q20 ?_); conv => whnf)))
      refine CallA.mono (Tryz.inverse _ _ hby) ?_; rintro v w9 ⟨rfl, he9⟩; ((conv => whnf); repeat' (first | ((with_reducible first | refine q1 ?_ | refine q2 ?_); conv => whnf) | (with_reducible refine q3 ?_) | ((with_reducible refine q4 (fun _ => ?_) (fun _ => ?_)) <;> first | (exfalso; omega) | (conv => whnf)) | ((with_reducible first | refine q5 ?_ | refine q6 ?_ | refine q7 ?_ | refine q8 ?_ | refine q9 ?_ | refine q10 ?_ | refine q11 ?_ | refine q12 ?_ | refine q13 ?_ | refine q14 ?_ | refine q15 ?_); conv => whnf) | ((refine q16 (fun _ _ _ _ _ => ?_)); conv => whnf) | ((with_reducible first | refine q17 ?_ | refine q18 ?_ | refine q19 ?_ | refine q20 ?_); conv => whnf)))
      refine ⟨hd8.ex.tr he9, ?_⟩
      have hpw := powM_range by_ 65519
      have hmul := mul_word (show 0 ≤ ps[i].2 ∧ ps[i].2 < 65521 by omega) hpw
      ((conv => whnf); repeat' (first | ((with_reducible first | refine q1 ?_ | refine q2 ?_); conv => whnf) | (with_reducible refine q3 ?_) | ((with_reducible refine q4 (fun _ => ?_) (fun _ => ?_)) <;> first | (exfalso; omega) | (conv => whnf)) | ((with_reducible first | refine q5 ?_ | refine q6 ?_ | refine q7 ?_ | refine q8 ?_ | refine q9 ?_ | refine q10 ?_ | refine q11 ?_ | refine q12 ?_ | refine q13 ?_ | refine q14 ?_ | refine q15 ?_); conv => whnf) | ((refine q16 (fun _ _ _ _ _ => ?_)); conv => whnf) | ((with_reducible first | refine q17 ?_ | refine q18 ?_ | refine q19 ?_ | refine q20 ?_); conv => whnf)))
      refine CallA.mono (Tryz.mod _ _ (by omega)) ?_; rintro v w10 ⟨rfl, rfl⟩; ((conv => whnf); repeat' (first | ((with_reducible first | refine q1 ?_ | refine q2 ?_); conv => whnf) | (with_reducible refine q3 ?_) | ((with_reducible refine q4 (fun _ => ?_) (fun _ => ?_)) <;> first | (exfalso; omega) | (conv => whnf)) | ((with_reducible first | refine q5 ?_ | refine q6 ?_ | refine q7 ?_ | refine q8 ?_ | refine q9 ?_ | refine q10 ?_ | refine q11 ?_ | refine q12 ?_ | refine q13 ?_ | refine q14 ?_ | refine q15 ?_); conv => whnf) | ((refine q16 (fun _ _ _ _ _ => ?_)); conv => whnf) | ((with_reducible first | refine q17 ?_ | refine q18 ?_ | refine q19 ?_ | refine q20 ?_); conv => whnf)))
      refine ⟨hd8.ex.tr he9, ?_⟩
      obtain ⟨hs1, hs2, hs3⟩ := partG_spec i ps[i].1 ps 0 [1] 1 (by intro n hn; simp at hn; omega) (by omega)
      rw [← hpG] at hs1 hs2 hs3
      simp only [List.length_singleton] at hs3
      rw [if_pos (by omega)] at hs3
      have hpl : part.length = out.length := by omega
      have heB : Ex w4 w10 := he4.tr (hd8.ex.tr he9)
      have hpoB : Row w10 bp (ints part) := hpo.ex (hd8.ex.tr he9)
      have hoB := hoA.ex heB
      have hbyR : 0 ≤ ps[i].2 * powM by_ 65519 % 65521 ∧ ps[i].2 * powM by_ 65519 % 65521 < 65521 := by omega
      have hst : thrStep ps i ps[i] out = addM (ps[i].2 * powM by_ 65519 % 65521) out part := by simp only [thrStep, ← hpG]
      generalize ps[i].2 * powM by_ 65519 % 65521 = by' at *
      ((conv => whnf); repeat' (first | ((with_reducible first | refine q1 ?_ | refine q2 ?_); conv => whnf) | (with_reducible refine q3 ?_) | ((with_reducible refine q4 (fun _ => ?_) (fun _ => ?_)) <;> first | (exfalso; omega) | (conv => whnf)) | ((with_reducible first | refine q5 ?_ | refine q6 ?_ | refine q7 ?_ | refine q8 ?_ | refine q9 ?_ | refine q10 ?_ | refine q11 ?_ | refine q12 ?_ | refine q13 ?_ | refine q14 ?_ | refine q15 ?_); conv => whnf) | ((refine q16 (fun _ _ _ _ _ => ?_)); conv => whnf) | ((with_reducible first | refine q17 ?_ | refine q18 ?_ | refine q19 ?_ | refine q20 ?_); conv => whnf)))
      refine loop_rule Tryz.tbOk Nat [55] (fun k => [.int .i64 (k:Int)]) (fun k w' => k ≤ part.length ∧ Own w' w.heap.size 3 1 (some ⟨b, 0, none⟩) ps.length ps.length (ints (addAt by' out part k)) ∧ Below b w10 w' ∧ Row w' bp (ints part)) (fun k => part.length - k) 0 rfl ⟨by omega, by simpa [addAt, addM] using hoB, Below.refl _ _, hpoB⟩ ?_
      rintro k w11 ⟨hk, hoC, heC, hpoC⟩ u3
      by_cases hkp : k < part.length
      · obtain ⟨h1, h2⟩ := addAt_next (by_ := by') (k := k) hpl (by omega)
        have hm1 := hs1 _ (List.getElem_mem hkp)
        have hm2 := hoW _ (List.getElem_mem (show k < out.length by omega))
        have hm := mul_word hbyR (show 0 ≤ part[k] ∧ part[k] < 65521 by omega)
        ((conv => whnf); repeat' (first | ((with_reducible first | refine q1 ?_ | refine q2 ?_); conv => whnf) | (with_reducible refine q3 ?_) | ((with_reducible refine q4 (fun _ => ?_) (fun _ => ?_)) <;> first | (exfalso; omega) | (conv => whnf)) | ((with_reducible first | refine q5 ?_ | refine q6 ?_ | refine q7 ?_ | refine q8 ?_ | refine q9 ?_ | refine q10 ?_ | refine q11 ?_ | refine q12 ?_ | refine q13 ?_ | refine q14 ?_ | refine q15 ?_); conv => whnf) | ((refine q16 (fun _ _ _ _ _ => ?_)); conv => whnf) | ((with_reducible first | refine q17 ?_ | refine q18 ?_ | refine q19 ?_ | refine q20 ?_); conv => whnf)))
        refine IdxA.at_ hoC.row (by rw [addAt_length hpl (by omega), hol]) k h1 rfl fun _ _ _ hc11 => ?_
        ((conv => whnf); repeat' (first | ((with_reducible first | refine q1 ?_ | refine q2 ?_); conv => whnf) | (with_reducible refine q3 ?_) | ((with_reducible refine q4 (fun _ => ?_) (fun _ => ?_)) <;> first | (exfalso; omega) | (conv => whnf)) | ((with_reducible first | refine q5 ?_ | refine q6 ?_ | refine q7 ?_ | refine q8 ?_ | refine q9 ?_ | refine q10 ?_ | refine q11 ?_ | refine q12 ?_ | refine q13 ?_ | refine q14 ?_ | refine q15 ?_); conv => whnf) | ((refine q16 (fun _ _ _ _ _ => ?_)); conv => whnf) | ((with_reducible first | refine q17 ?_ | refine q18 ?_ | refine q19 ?_ | refine q20 ?_); conv => whnf)))
        refine CallA.mono (Tryz.mod _ _ (by omega)) ?_; rintro v w12 ⟨rfl, rfl⟩; ((conv => whnf); repeat' (first | ((with_reducible first | refine q1 ?_ | refine q2 ?_); conv => whnf) | (with_reducible refine q3 ?_) | ((with_reducible refine q4 (fun _ => ?_) (fun _ => ?_)) <;> first | (exfalso; omega) | (conv => whnf)) | ((with_reducible first | refine q5 ?_ | refine q6 ?_ | refine q7 ?_ | refine q8 ?_ | refine q9 ?_ | refine q10 ?_ | refine q11 ?_ | refine q12 ?_ | refine q13 ?_ | refine q14 ?_ | refine q15 ?_); conv => whnf) | ((refine q16 (fun _ _ _ _ _ => ?_)); conv => whnf) | ((with_reducible first | refine q17 ?_ | refine q18 ?_ | refine q19 ?_ | refine q20 ?_); conv => whnf)))
        refine IdxA.own1 hoC k rfl (by omega) fun b' hb' _ => ?_
        ((conv => whnf); repeat' (first | ((with_reducible first | refine q1 ?_ | refine q2 ?_); conv => whnf) | (with_reducible refine q3 ?_) | ((with_reducible refine q4 (fun _ => ?_) (fun _ => ?_)) <;> first | (exfalso; omega) | (conv => whnf)) | ((with_reducible first | refine q5 ?_ | refine q6 ?_ | refine q7 ?_ | refine q8 ?_ | refine q9 ?_ | refine q10 ?_ | refine q11 ?_ | refine q12 ?_ | refine q13 ?_ | refine q14 ?_ | refine q15 ?_); conv => whnf) | ((refine q16 (fun _ _ _ _ _ => ?_)); conv => whnf) | ((with_reducible first | refine q17 ?_ | refine q18 ?_ | refine q19 ?_ | refine q20 ?_); conv => whnf)))
        refine StoreA.own1 hoC hb' (by omega) rfl fun w12 hu12 ho12 => ?_
        rw [ints_set, h2] at ho12
        obtain rfl : b = b' := by simpa using hb'
        ((conv => whnf); repeat' (first | ((with_reducible first | refine q1 ?_ | refine q2 ?_); conv => whnf) | (with_reducible refine q3 ?_) | ((with_reducible refine q4 (fun _ => ?_) (fun _ => ?_)) <;> first | (exfalso; omega) | (conv => whnf)) | ((with_reducible first | refine q5 ?_ | refine q6 ?_ | refine q7 ?_ | refine q8 ?_ | refine q9 ?_ | refine q10 ?_ | refine q11 ?_ | refine q12 ?_ | refine q13 ?_ | refine q14 ?_ | refine q15 ?_); conv => whnf) | ((refine q16 (fun _ _ _ _ _ => ?_)); conv => whnf) | ((with_reducible first | refine q17 ?_ | refine q18 ?_ | refine q19 ?_ | refine q20 ?_); conv => whnf)))
        exact ⟨k + 1, rfl, ⟨by omega, ho12, Below.trans heC (hu12.below (Nat.le_refl _)), hpoC.upd hu12 (fun a ha => by have := hbb a ha; omega)⟩, by omega⟩
      · have : k = part.length := by omega
        subst this
        have hfin : addAt by' out part part.length = addM by' out part := by
          unfold addAt; rw [List.take_of_length_le (by omega), List.take_length, List.drop_of_length_le (by omega), List.append_nil]
        rw [hfin] at hoC
        ((conv => whnf); repeat' (first | ((with_reducible first | refine q1 ?_ | refine q2 ?_); conv => whnf) | (with_reducible refine q3 ?_) | ((with_reducible refine q4 (fun _ => ?_) (fun _ => ?_)) <;> first | (exfalso; omega) | (conv => whnf)) | ((with_reducible first | refine q5 ?_ | refine q6 ?_ | refine q7 ?_ | refine q8 ?_ | refine q9 ?_ | refine q10 ?_ | refine q11 ?_ | refine q12 ?_ | refine q13 ?_ | refine q14 ?_ | refine q15 ?_); conv => whnf) | ((refine q16 (fun _ _ _ _ _ => ?_)); conv => whnf) | ((with_reducible first | refine q17 ?_ | refine q18 ?_ | refine q19 ?_ | refine q20 ?_); conv => whnf)))
        refine ⟨(i + 1, addM by' out part), rfl, ⟨by omega, by simp [addM]; omega, addM_range _ _ _, hoC, Below.trans (heA.tr heB) (Below.mono heC (by omega)), ?_⟩, by simp only []; omega⟩
        rw [← hG, List.drop_eq_getElem_cons hlt]
        simp only [thrG, hst]
  · ((conv => whnf); repeat' (first | ((with_reducible first | refine q1 ?_ | refine q2 ?_); conv => whnf) | (with_reducible refine q3 ?_) | ((with_reducible refine q4 (fun _ => ?_) (fun _ => ?_)) <;> first | (exfalso; omega) | (conv => whnf)) | ((with_reducible first | refine q5 ?_ | refine q6 ?_ | refine q7 ?_ | refine q8 ?_ | refine q9 ?_ | refine q10 ?_ | refine q11 ?_ | refine q12 ?_ | refine q13 ?_ | refine q14 ?_ | refine q15 ?_); conv => whnf) | ((refine q16 (fun _ _ _ _ _ => ?_)); conv => whnf) | ((with_reducible first | refine q17 ?_ | refine q18 ?_ | refine q19 ?_ | refine q20 ?_); conv => whnf)))
    have : i = ps.length := by omega
    subst this
    rw [List.drop_length] at hG
    simp only [thrG] at hG
    refine ⟨_, _, by rw [← hG, hol], ?_, he'⟩
    rw [← hG, hol]; exact ho'
end Go.Proofs
