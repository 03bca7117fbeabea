/-
  L26: a part of the proof. By an AI agent.
-/
import Derived.Test.YtpeihahmhpamoaaGreatVQ
import Derived.Test.YtpeihahmhpamoaaGreatV10
import Derived.Test.YtpeihahmhpamoaaGreatL25
set_option linter.all false
namespace Go.Proofs
open Go.V
open Go.RowKit (Below)
/-! ### a polynomial divided by another one -/
def subAt (a : List Int) (i : Nat) (f : Int) (b : List Int) : List Int := a.take i ++ elimM f ((a.drop i).take b.length) b ++ a.drop (i + b.length)
def overG (b : List Int) : Nat → List Int → List Int → List Int × List Int
  | 0, a, out => (out, a)
  | i + 1, a, out => overG b i (subAt a i (a.getD (i + b.length - 1) 0) b) (a.getD (i + b.length - 1) 0 :: out)
def overM (a b : List Int) : List Int × Bool :=
  let r := overG b (a.length + 1 - b.length) a []
  (r.1, r.2.all fun n => decide (n = 0))
def subPart (a : List Int) (i : Nat) (f : Int) (b : List Int) (k : Nat) : List Int := a.take i ++ part2 f ((a.drop i).take b.length) b k ++ a.drop (i + b.length)
theorem subPart_zero (a : List Int) (i : Nat) (f : Int) (b : List Int) : subPart a i f b 0 = a := by
  unfold subPart; rw [part2_zero, List.append_assoc, ← List.drop_drop, List.take_append_drop, List.take_append_drop]
theorem subPart_all {a : List Int} {i : Nat} (f : Int) {b : List Int} (h : i + b.length ≤ a.length) : subPart a i f b b.length = subAt a i f b := by
  have hl : ((a.drop i).take b.length).length = b.length := by simp; omega
  have := part2_all (f := f) (r := (a.drop i).take b.length) (p := b) hl.symm
  rw [hl] at this
  unfold subPart subAt; rw [this]
theorem subPart_length {a : List Int} {i : Nat} (f : Int) {b : List Int} (h : i + b.length ≤ a.length) {k : Nat} (hk : k ≤ b.length) : (subPart a i f b k).length = a.length := by
  have hl : ((a.drop i).take b.length).length = b.length := by simp; omega
  unfold subPart
  rw [List.length_append, List.length_append, part2_length hl.symm (by omega), hl]
  simp; omega
theorem subAt_length {a : List Int} {i : Nat} (f : Int) {b : List Int} (h : i + b.length ≤ a.length) : (subAt a i f b).length = a.length := by
  rw [← subPart_all f h, subPart_length f h (Nat.le_refl _)]
theorem subPart_next {a : List Int} {i : Nat} (f : Int) {b : List Int} (h : i + b.length ≤ a.length) {k : Nat} (hk : k < b.length) : (subPart a i f b k)[i + k]? = some (a[i + k]'(by omega)) ∧ (subPart a i f b k).set (i + k) (((a[i + k]'(by omega)) - f * b[k]) % 65521) = subPart a i f b (k + 1) := by
  have hl : ((a.drop i).take b.length).length = b.length := by simp; omega
  obtain ⟨h1, h2⟩ := part2_next (f := f) (r := (a.drop i).take b.length) (p := b) (k := k) hl.symm (by omega)
  have e : ((a.drop i).take b.length)[k]'(by omega) = a[i + k]'(by omega) := by simp
  rw [e] at h1 h2
  have hpl : (part2 f ((a.drop i).take b.length) b k).length = b.length := by rw [part2_length hl.symm (by omega), hl]
  unfold subPart
  have hi : (a.take i).length = i := by simp; omega
  constructor
  · rw [List.append_assoc, List.getElem?_append_right (by omega), hi, show i + k - i = k by omega, List.getElem?_append_left (by omega)]; exact h1
  · rw [List.append_assoc, List.set_append_right _ _ (by omega), hi, show i + k - i = k by omega, List.set_append_left _ _ (by omega), h2, ← List.append_assoc]
theorem isW_take {a : List Int} (h : isW a) (k : Nat) : isW (a.take k) := fun n hn => h n (List.mem_of_mem_take hn)
theorem isW_drop {a : List Int} (h : isW a) (k : Nat) : isW (a.drop k) := fun n hn => h n (List.mem_of_mem_drop hn)
theorem subAt_isW {a : List Int} {i : Nat} (f : Int) {b : List Int} (h : i + b.length ≤ a.length) (ha : isW a) : isW (subAt a i f b) :=
  isW_append (isW_append (isW_take ha _) (elimM_ok (n := b.length) f (by simp; omega) rfl).2) (isW_drop ha _)
theorem Own.some_ {w : World} {N T sz : Nat} {base : Option Addr} {n cap : Nat} {cs : List Value} (h : Own w N T sz base n cap cs) (hn : 0 < n) : ∃ b, base = some ⟨b, 0, none⟩ ∧ N ≤ b ∧ b < w.heap.size := by
  rcases h.2 with ⟨hv, h0⟩ | ⟨b, cap', cur, hv, hN, hh, _⟩
  · omega
  · injection hv with h1
    exact ⟨b, h1, hN, (Array.getElem?_eq_some_iff.1 hh).1⟩
theorem Tryz.over1 (xs : List Int) : PredA Tryz.prog 180 [] (Value.int .i64) xs (fun n => decide (n = 0)) fun _ => True := by
  intro x _ w _
  refine callA_intro Tryz.tbOk Tryz.func180 rfl Tryz.ntmps180 Tryz.results180 (by decide) (by simp) ?_
  ((conv => whnf); repeat' (first | ((with_reducible first | refine q1 ?_ | refine q2 ?_); conv => whnf) | (with_reducible refine q3 ?_) | ((with_reducible refine q4 (fun _ => ?_) (fun _ => ?_)) <;> first | (exfalso; omega) | (conv => whnf)) | ((with_reducible first | refine q5 ?_ | refine q6 ?_ | refine q7 ?_ | refine q8 ?_ | refine q9 ?_ | refine q10 ?_ | refine q11 ?_ | refine q12 ?_ | refine q13 ?_ | refine q14 ?_ | refine q15 ?_); conv => whnf) | ((refine q16 (fun _ _ _ _ _ => ?_)); conv => whnf) | ((with_reducible first | refine q17 ?_ | refine q18 ?_ | refine q19 ?_ | refine q20 ?_); conv => whnf)))
  exact ⟨rfl, Ex.refl _⟩
set_option maxHeartbeats 1000000 in
theorem Tryz.over (ba bb : Option Addr) (ca cb : Nat) (xs ys : List Int) (w : World) (ha : Row w ba (ints xs)) (hb : Row w bb (ints ys)) (hx : isW xs) (hy : isW ys) (hxl : 0 < xs.length ∧ xs.length ≤ 1000000) (hyl : 0 < ys.length ∧ ys.length ≤ 1000000) :
    CallA Tryz.prog 143 [.slice ba xs.length ca, .slice bb ys.length cb] w fun v w' => ∃ b c, v = .tuple #[.slice b (overM xs ys).1.length c, .bool (overM xs ys).2] ∧ Own w' w.heap.size 3 1 b (overM xs ys).1.length c (ints (overM xs ys).1) ∧ Ex w w' := by
  refine callA_intro Tryz.tbOk Tryz.func143 rfl Tryz.ntmps143 Tryz.results143 (by decide) (by simp) ?_
  ((conv => whnf); repeat' (first | ((with_reducible first | refine q1 ?_ | refine q2 ?_); conv => whnf) | (with_reducible refine q3 ?_) | ((with_reducible refine q4 (fun _ => ?_) (fun _ => ?_)) <;> first | (exfalso; omega) | (conv => whnf)) | ((with_reducible first | refine q5 ?_ | refine q6 ?_ | refine q7 ?_ | refine q8 ?_ | refine q9 ?_ | refine q10 ?_ | refine q11 ?_ | refine q12 ?_ | refine q13 ?_ | refine q14 ?_ | refine q15 ?_); conv => whnf) | ((refine q16 (fun _ _ _ _ _ => ?_)); conv => whnf) | ((with_reducible first | refine q17 ?_ | refine q18 ?_ | refine q19 ?_ | refine q20 ?_); conv => whnf)))
  refine CallA.mono (Tryz.cloneInts ba ca xs w ha (by omega)) ?_
  rintro v w1 ⟨b1, c1, rfl, ho1, he1⟩
  have hb1 := hb.ex he1
  obtain ⟨n, hn⟩ : ∃ n, n = xs.length + 1 - ys.length := ⟨_, rfl⟩
  ((conv => whnf); repeat' (first | ((with_reducible first | refine q1 ?_ | refine q2 ?_); conv => whnf) | (with_reducible refine q3 ?_) | ((with_reducible refine q4 (fun _ => ?_) (fun _ => ?_)) <;> first | (exfalso; omega) | (conv => whnf)) | ((with_reducible first | refine q5 ?_ | refine q6 ?_ | refine q7 ?_ | refine q8 ?_ | refine q9 ?_ | refine q10 ?_ | refine q11 ?_ | refine q12 ?_ | refine q13 ?_ | refine q14 ?_ | refine q15 ?_); conv => whnf) | ((refine q16 (fun _ _ _ _ _ => ?_)); conv => whnf) | ((with_reducible first | refine q17 ?_ | refine q18 ?_ | refine q19 ?_ | refine q20 ?_); conv => whnf)))
  refine RunV.max ?_
  have hmx : (if (xs.length : Int) - ys.length + 1 > 0 then (xs.length : Int) - ys.length + 1 else 0) = (n : Int) := by split <;> omega
  rw [hmx]
  ((conv => whnf); repeat' (first | ((with_reducible first | refine q1 ?_ | refine q2 ?_); conv => whnf) | (with_reducible refine q3 ?_) | ((with_reducible refine q4 (fun _ => ?_) (fun _ => ?_)) <;> first | (exfalso; omega) | (conv => whnf)) | ((with_reducible first | refine q5 ?_ | refine q6 ?_ | refine q7 ?_ | refine q8 ?_ | refine q9 ?_ | refine q10 ?_ | refine q11 ?_ | refine q12 ?_ | refine q13 ?_ | refine q14 ?_ | refine q15 ?_); conv => whnf) | ((refine q16 (fun _ _ _ _ _ => ?_)); conv => whnf) | ((with_reducible first | refine q17 ?_ | refine q18 ?_ | refine q19 ?_ | refine q20 ?_); conv => whnf)))
  obtain ⟨b1, rfl, hb1N, hb1s⟩ := ho1.some_ hxl.1
  refine RunV.make (e := 3) (sz := 1) (by_ := 8) Tryz.tbOk w.heap.size n n rfl rfl rfl (by omega) (by omega) (by omega) rfl (by decide) (by have := he1.size; omega) fun w2 bo hbo hso he2 hoo => ?_
  rw [show reps n (cellsOf (Value.int IntKind.i64 0)) = ints (List.replicate n 0) from ints_rep _ _] at hoo
  ((conv => whnf); repeat' (first | ((with_reducible first | refine q1 ?_ | refine q2 ?_); conv => whnf) | (with_reducible refine q3 ?_) | ((with_reducible refine q4 (fun _ => ?_) (fun _ => ?_)) <;> first | (exfalso; omega) | (conv => whnf)) | ((with_reducible first | refine q5 ?_ | refine q6 ?_ | refine q7 ?_ | refine q8 ?_ | refine q9 ?_ | refine q10 ?_ | refine q11 ?_ | refine q12 ?_ | refine q13 ?_ | refine q14 ?_ | refine q15 ?_); conv => whnf) | ((refine q16 (fun _ _ _ _ _ => ?_)); conv => whnf) | ((with_reducible first | refine q17 ?_ | refine q18 ?_ | refine q19 ?_ | refine q20 ?_); conv => whnf)))
  refine loop_rule Tryz.tbOk (Nat × List Int × List Int) [7] (fun | (r, _, _) => [.int .i64 ((r : Int) - 1)])
    (fun | (r, a, out), u => r + out.length = n ∧ a.length = xs.length ∧ isW a ∧ isW out ∧ Own u w.heap.size 3 1 (some ⟨b1, 0, none⟩) xs.length c1 (ints a) ∧ Own u w.heap.size 3 1 (some ⟨bo, 0, none⟩) n n (ints (List.replicate r 0 ++ out)) ∧ Ex w u ∧ overG ys r a out = overG ys n xs []) (fun | (r, _, _) => r)
    (n, xs, []) rfl ⟨by simp, rfl, hx, by intro x hx; simp at hx, ho1.ex he2, by simpa using hoo, he1.tr he2, rfl⟩ ?_
  rintro ⟨r, a, out⟩ u ⟨hrn, hal, haw, how, hoa, hoo3, he3, hG⟩ ux
  by_cases hr : 0 < r
  · obtain ⟨i, rfl⟩ : ∃ i, r = i + 1 := ⟨r - 1, by omega⟩
    have hil : i + ys.length ≤ a.length := by omega
    have e1 : ((i + 1 : Nat) : Int) - 1 = (i : Int) := by omega
    rw [overG] at hG
    have hfi : i + ys.length - 1 < a.length := by omega
    have hce := Own.cell1 hoa (ints_get hfi)
    ((conv => whnf); repeat' (first | ((with_reducible first | refine q1 ?_ | refine q2 ?_); conv => whnf) | (with_reducible refine q3 ?_) | ((with_reducible refine q4 (fun _ => ?_) (fun _ => ?_)) <;> first | (exfalso; omega) | (conv => whnf)) | ((with_reducible first | refine q5 ?_ | refine q6 ?_ | refine q7 ?_ | refine q8 ?_ | refine q9 ?_ | refine q10 ?_ | refine q11 ?_ | refine q12 ?_ | refine q13 ?_ | refine q14 ?_ | refine q15 ?_); conv => whnf) | ((refine q16 (fun _ _ _ _ _ => ?_)); conv => whnf) | ((with_reducible first | refine q17 ?_ | refine q18 ?_ | refine q19 ?_ | refine q20 ?_); conv => whnf)))
    refine IdxA.at0' (k := i + ys.length - 1) (by omega) (by omega) ?_
    ((conv => whnf); repeat' (first | ((with_reducible first | refine q1 ?_ | refine q2 ?_); conv => whnf) | (with_reducible refine q3 ?_) | ((with_reducible refine q4 (fun _ => ?_) (fun _ => ?_)) <;> first | (exfalso; omega) | (conv => whnf)) | ((with_reducible first | refine q5 ?_ | refine q6 ?_ | refine q7 ?_ | refine q8 ?_ | refine q9 ?_ | refine q10 ?_ | refine q11 ?_ | refine q12 ?_ | refine q13 ?_ | refine q14 ?_ | refine q15 ?_); conv => whnf) | ((refine q16 (fun _ _ _ _ _ => ?_)); conv => whnf) | ((with_reducible first | refine q17 ?_ | refine q18 ?_ | refine q19 ?_ | refine q20 ?_); conv => whnf)))
    refine IdxA.at0' (k := i) (by omega) (by omega) ?_
    ((conv => whnf); repeat' (first | ((with_reducible first | refine q1 ?_ | refine q2 ?_); conv => whnf) | (with_reducible refine q3 ?_) | ((with_reducible refine q4 (fun _ => ?_) (fun _ => ?_)) <;> first | (exfalso; omega) | (conv => whnf)) | ((with_reducible first | refine q5 ?_ | refine q6 ?_ | refine q7 ?_ | refine q8 ?_ | refine q9 ?_ | refine q10 ?_ | refine q11 ?_ | refine q12 ?_ | refine q13 ?_ | refine q14 ?_ | refine q15 ?_); conv => whnf) | ((refine q16 (fun _ _ _ _ _ => ?_)); conv => whnf) | ((with_reducible first | refine q17 ?_ | refine q18 ?_ | refine q19 ?_ | refine q20 ?_); conv => whnf)))
    refine StoreA.own1 hoo3 rfl (by omega) rfl fun w4 hu4 ho4 => ?_
    rw [ints_set] at ho4
    obtain ⟨f, hf⟩ : ∃ f, f = a[i + ys.length - 1] := ⟨_, rfl⟩
    have hfr := haw _ (List.getElem_mem hfi)
    rw [getD_get hfi, ← hf] at hG
    rw [← hf] at ho4 hfr
    have e2 : (List.replicate (i + 1) (0 : Int) ++ out).set i f = List.replicate i 0 ++ f :: out := by
      rw [List.replicate_succ', List.append_assoc]
      have := (mid_get (List.replicate i (0 : Int)) 0 out i f (by simp)).2
      simpa using this
    rw [e2] at ho4
    have hoa4 := hoa.upd hu4 (by simp [blkOf]; omega)
    have he4 := he3.upd hu4 (by have := he1.size; omega)
    ((conv => whnf); repeat' (first | ((with_reducible first | refine q1 ?_ | refine q2 ?_); conv => whnf) | (with_reducible refine q3 ?_) | ((with_reducible refine q4 (fun _ => ?_) (fun _ => ?_)) <;> first | (exfalso; omega) | (conv => whnf)) | ((with_reducible first | refine q5 ?_ | refine q6 ?_ | refine q7 ?_ | refine q8 ?_ | refine q9 ?_ | refine q10 ?_ | refine q11 ?_ | refine q12 ?_ | refine q13 ?_ | refine q14 ?_ | refine q15 ?_); conv => whnf) | ((refine q16 (fun _ _ _ _ _ => ?_)); conv => whnf) | ((with_reducible first | refine q17 ?_ | refine q18 ?_ | refine q19 ?_ | refine q20 ?_); conv => whnf)))
    refine loop_rule Tryz.tbOk Nat [40] (fun k => [.int .i64 (k:Int)]) (fun k u => k ≤ ys.length ∧ Own u w.heap.size 3 1 (some ⟨b1, 0, none⟩) xs.length c1 (ints (subPart a i f ys k)) ∧ Own u w.heap.size 3 1 (some ⟨bo, 0, none⟩) n n (ints (List.replicate i 0 ++ f :: out)) ∧ Ex w u) (fun k => ys.length - k)
      0 rfl ⟨by omega, by rw [subPart_zero]; exact hoa4, ho4, he4⟩ ?_
    rintro k u5 ⟨hk, hoa5, hoo5, he5⟩ ux5
    by_cases hky : k < ys.length
    · have hb5 := hb.ex he5
      ((conv => whnf); repeat' (first | ((with_reducible first | refine q1 ?_ | refine q2 ?_); conv => whnf) | (with_reducible refine q3 ?_) | ((with_reducible refine q4 (fun _ => ?_) (fun _ => ?_)) <;> first | (exfalso; omega) | (conv => whnf)) | ((with_reducible first | refine q5 ?_ | refine q6 ?_ | refine q7 ?_ | refine q8 ?_ | refine q9 ?_ | refine q10 ?_ | refine q11 ?_ | refine q12 ?_ | refine q13 ?_ | refine q14 ?_ | refine q15 ?_); conv => whnf) | ((refine q16 (fun _ _ _ _ _ => ?_)); conv => whnf) | ((with_reducible first | refine q17 ?_ | refine q18 ?_ | refine q19 ?_ | refine q20 ?_); conv => whnf)))
      refine draw_rule Tryz.tbOk Tryz.mix (fun u2 => Ex u5 u2) (.take 0 (.take 1 (.take 2 (.take 3 (.take 4 (.take 5 (.take 6 (.take 7 (.take 8 (.take 9 (.take 10 (.take 11 (.take 12 (.take 13 (.take 14 (.take 15 (.take 16 (.one 17 (.take 18 (.fin 19)))))))))))))))))))) (by kernel_rfl) (by kernel_rfl) ?_
      intro u6 hd6
      refine ⟨hd6.ex, ?_⟩
      have hyk := hy _ (List.getElem_mem hky)
      obtain ⟨hp1, hp2⟩ := subPart_next f hil hky
      have hca := Own.cell1 hoa5 (k := i + k) (v := .int .i64 (a[i + k]'(by omega))) (by simp [ints, hp1])
      have hco := Own.cell1 hoo5 (k := i) (v := .int .i64 f) (by simp [ints])
      have hak := haw _ (List.getElem_mem (show i + k < a.length by omega))
      have hmul := mul_word (a := f) (b := ys[k]) (by omega) (by omega)
      ((conv => whnf); repeat' (first | ((with_reducible first | refine q1 ?_ | refine q2 ?_); conv => whnf) | (with_reducible refine q3 ?_) | ((with_reducible refine q4 (fun _ => ?_) (fun _ => ?_)) <;> first | (exfalso; omega) | (conv => whnf)) | ((with_reducible first | refine q5 ?_ | refine q6 ?_ | refine q7 ?_ | refine q8 ?_ | refine q9 ?_ | refine q10 ?_ | refine q11 ?_ | refine q12 ?_ | refine q13 ?_ | refine q14 ?_ | refine q15 ?_); conv => whnf) | ((refine q16 (fun _ _ _ _ _ => ?_)); conv => whnf) | ((with_reducible first | refine q17 ?_ | refine q18 ?_ | refine q19 ?_ | refine q20 ?_); conv => whnf)))
      refine IdxA.at0' (k := i + k) (by omega) (by omega) ?_
      ((conv => whnf); repeat' (first | ((with_reducible first | refine q1 ?_ | refine q2 ?_); conv => whnf) | (with_reducible refine q3 ?_) | ((with_reducible refine q4 (fun _ => ?_) (fun _ => ?_)) <;> first | (exfalso; omega) | (conv => whnf)) | ((with_reducible first | refine q5 ?_ | refine q6 ?_ | refine q7 ?_ | refine q8 ?_ | refine q9 ?_ | refine q10 ?_ | refine q11 ?_ | refine q12 ?_ | refine q13 ?_ | refine q14 ?_ | refine q15 ?_); conv => whnf) | ((refine q16 (fun _ _ _ _ _ => ?_)); conv => whnf) | ((with_reducible first | refine q17 ?_ | refine q18 ?_ | refine q19 ?_ | refine q20 ?_); conv => whnf)))
      refine IdxA.at0' (k := i) (by omega) (by omega) ?_
      ((conv => whnf); repeat' (first | ((with_reducible first | refine q1 ?_ | refine q2 ?_); conv => whnf) | (with_reducible refine q3 ?_) | ((with_reducible refine q4 (fun _ => ?_) (fun _ => ?_)) <;> first | (exfalso; omega) | (conv => whnf)) | ((with_reducible first | refine q5 ?_ | refine q6 ?_ | refine q7 ?_ | refine q8 ?_ | refine q9 ?_ | refine q10 ?_ | refine q11 ?_ | refine q12 ?_ | refine q13 ?_ | refine q14 ?_ | refine q15 ?_); conv => whnf) | ((refine q16 (fun _ _ _ _ _ => ?_)); conv => whnf) | ((with_reducible first | refine q17 ?_ | refine q18 ?_ | refine q19 ?_ | refine q20 ?_); conv => whnf)))
      refine CallA.mono (Tryz.mod _ _ (by omega)) ?_; rintro v w8 ⟨rfl, rfl⟩; ((conv => whnf); repeat' (first | ((with_reducible first | refine q1 ?_ | refine q2 ?_); conv => whnf) | (with_reducible refine q3 ?_) | ((with_reducible refine q4 (fun _ => ?_) (fun _ => ?_)) <;> first | (exfalso; omega) | (conv => whnf)) | ((with_reducible first | refine q5 ?_ | refine q6 ?_ | refine q7 ?_ | refine q8 ?_ | refine q9 ?_ | refine q10 ?_ | refine q11 ?_ | refine q12 ?_ | refine q13 ?_ | refine q14 ?_ | refine q15 ?_); conv => whnf) | ((refine q16 (fun _ _ _ _ _ => ?_)); conv => whnf) | ((with_reducible first | refine q17 ?_ | refine q18 ?_ | refine q19 ?_ | refine q20 ?_); conv => whnf)))
      refine Anew.mk hd6.ex ?_
      ((conv => whnf); repeat' (first | ((with_reducible first | refine q1 ?_ | refine q2 ?_); conv => whnf) | (with_reducible refine q3 ?_) | ((with_reducible refine q4 (fun _ => ?_) (fun _ => ?_)) <;> first | (exfalso; omega) | (conv => whnf)) | ((with_reducible first | refine q5 ?_ | refine q6 ?_ | refine q7 ?_ | refine q8 ?_ | refine q9 ?_ | refine q10 ?_ | refine q11 ?_ | refine q12 ?_ | refine q13 ?_ | refine q14 ?_ | refine q15 ?_); conv => whnf) | ((refine q16 (fun _ _ _ _ _ => ?_)); conv => whnf) | ((with_reducible first | refine q17 ?_ | refine q18 ?_ | refine q19 ?_ | refine q20 ?_); conv => whnf)))
      refine IdxA.at0' (k := i + k) (by omega) (by omega) ?_
      ((conv => whnf); repeat' (first | ((with_reducible first | refine q1 ?_ | refine q2 ?_); conv => whnf) | (with_reducible refine q3 ?_) | ((with_reducible refine q4 (fun _ => ?_) (fun _ => ?_)) <;> first | (exfalso; omega) | (conv => whnf)) | ((with_reducible first | refine q5 ?_ | refine q6 ?_ | refine q7 ?_ | refine q8 ?_ | refine q9 ?_ | refine q10 ?_ | refine q11 ?_ | refine q12 ?_ | refine q13 ?_ | refine q14 ?_ | refine q15 ?_); conv => whnf) | ((refine q16 (fun _ _ _ _ _ => ?_)); conv => whnf) | ((with_reducible first | refine q17 ?_ | refine q18 ?_ | refine q19 ?_ | refine q20 ?_); conv => whnf)))
      refine StoreA.own1 (hoa5.ex hd6.ex) rfl (by omega) rfl fun w8 hu8 ho8 => ?_
      ((conv => whnf); repeat' (first | ((with_reducible first | refine q1 ?_ | refine q2 ?_); conv => whnf) | (with_reducible refine q3 ?_) | ((with_reducible refine q4 (fun _ => ?_) (fun _ => ?_)) <;> first | (exfalso; omega) | (conv => whnf)) | ((with_reducible first | refine q5 ?_ | refine q6 ?_ | refine q7 ?_ | refine q8 ?_ | refine q9 ?_ | refine q10 ?_ | refine q11 ?_ | refine q12 ?_ | refine q13 ?_ | refine q14 ?_ | refine q15 ?_); conv => whnf) | ((refine q16 (fun _ _ _ _ _ => ?_)); conv => whnf) | ((with_reducible first | refine q17 ?_ | refine q18 ?_ | refine q19 ?_ | refine q20 ?_); conv => whnf)))
      rw [ints_set, hp2] at ho8
      exact ⟨k + 1, rfl, ⟨by omega, ho8, (hoo5.ex hd6.ex).upd hu8 (by simp [blkOf]; omega), (he5.tr hd6.ex).upd hu8 hb1N⟩, by omega⟩
    · obtain rfl : k = ys.length := by omega
      rw [subPart_all f hil] at hoa5
      ((conv => whnf); repeat' (first | ((with_reducible first | refine q1 ?_ | refine q2 ?_); conv => whnf) | (with_reducible refine q3 ?_) | ((with_reducible refine q4 (fun _ => ?_) (fun _ => ?_)) <;> first | (exfalso; omega) | (conv => whnf)) | ((with_reducible first | refine q5 ?_ | refine q6 ?_ | refine q7 ?_ | refine q8 ?_ | refine q9 ?_ | refine q10 ?_ | refine q11 ?_ | refine q12 ?_ | refine q13 ?_ | refine q14 ?_ | refine q15 ?_); conv => whnf) | ((refine q16 (fun _ _ _ _ _ => ?_)); conv => whnf) | ((with_reducible first | refine q17 ?_ | refine q18 ?_ | refine q19 ?_ | refine q20 ?_); conv => whnf)))
      refine ⟨(i, subAt a i f ys, f :: out), congrArg (fun z => [Value.int .i64 z]) (by omega), ⟨?_, by rw [subAt_length f hil, hal], subAt_isW f hil haw, ?_, hoa5, hoo5, he5, hG⟩, by simp only []; omega⟩
      · rw [← hrn]; simp only [List.length_cons]; omega
      · intro x hx
        rcases List.mem_cons.1 hx with h | h
        · rw [h]; exact hfr
        · exact how x h
  · obtain rfl : r = 0 := by omega
    rw [overG] at hG
    ((conv => whnf); repeat' (first | ((with_reducible first | refine q1 ?_ | refine q2 ?_); conv => whnf) | (with_reducible refine q3 ?_) | ((with_reducible refine q4 (fun _ => ?_) (fun _ => ?_)) <;> first | (exfalso; omega) | (conv => whnf)) | ((with_reducible first | refine q5 ?_ | refine q6 ?_ | refine q7 ?_ | refine q8 ?_ | refine q9 ?_ | refine q10 ?_ | refine q11 ?_ | refine q12 ?_ | refine q13 ?_ | refine q14 ?_ | refine q15 ?_); conv => whnf) | ((refine q16 (fun _ _ _ _ _ => ?_)); conv => whnf) | ((with_reducible first | refine q17 ?_ | refine q18 ?_ | refine q19 ?_ | refine q20 ?_); conv => whnf)))
    have hall := Tryz.allInts (some ⟨b1, 0, none⟩) c1 a 180 (fun n => decide (n = 0)) u (Tryz.over1 a) hoa.row (by omega)
    rw [hal] at hall
    refine CallA.mono hall ?_
    rintro v w4 ⟨rfl, he4⟩
    ((conv => whnf); repeat' (first | ((with_reducible first | refine q1 ?_ | refine q2 ?_); conv => whnf) | (with_reducible refine q3 ?_) | ((with_reducible refine q4 (fun _ => ?_) (fun _ => ?_)) <;> first | (exfalso; omega) | (conv => whnf)) | ((with_reducible first | refine q5 ?_ | refine q6 ?_ | refine q7 ?_ | refine q8 ?_ | refine q9 ?_ | refine q10 ?_ | refine q11 ?_ | refine q12 ?_ | refine q13 ?_ | refine q14 ?_ | refine q15 ?_); conv => whnf) | ((refine q16 (fun _ _ _ _ _ => ?_)); conv => whnf) | ((with_reducible first | refine q17 ?_ | refine q18 ?_ | refine q19 ?_ | refine q20 ?_); conv => whnf)))
    have hM : overM xs ys = (out, a.all fun n => decide (n = 0)) := by
      unfold overM; rw [← hn, ← hG]
    rw [hM]
    have hol : out.length = n := by omega
    refine ⟨some ⟨bo, 0, none⟩, n, by rw [hol], ?_, he3.tr he4⟩
    simp only [hol]
    exact hoo3.ex he4
end Go.Proofs
