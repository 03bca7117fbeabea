/-
  L14: a part of the proof. By an AI agent.
-/
import Derived.Test.YtpeihahmhpamoaaGreatVQ
import Derived.Test.YtpeihahmhpamoaaGreatV9
import Derived.Test.YtpeihahmhpamoaaGreatL13
set_option linter.all false
namespace Go.Proofs
open Go.V
open Go.RowKit (Below)
theorem Tryz.chunk1 (base : Option Addr) (cap m : Nat) (xs : List Int) (b1 b2 : Nat) (I : World → Prop) (hI : ∀ u, I u → u.cell? ⟨b1, 0, none⟩ = some (.slice base xs.length cap) ∧ u.cell? ⟨b2, 0, none⟩ = some (.int .i64 7) ∧ Row u base (ints xs)) (hE : ExK I) (hm : xs.length = 7 * m) (hc : xs.length ≤ cap) (hl : xs.length ≤ 1000000000) :
    IterG Tryz.prog 85 (fun y => [y, .pointer (some ⟨b1, 0, none⟩), .pointer (some ⟨b2, 0, none⟩)]) m (fun i vs u => ∃ b c, vs = [.slice b 7 c] ∧ Row u b (ints ((xs.drop (i * 7)).take 7)) ∧ blkOf b = blkOf base) I := by
  intro l J Jx hJ hJx hy u0 h0 hI0
  refine callA_intro Tryz.tbOk Tryz.func85 rfl Tryz.ntmps85 Tryz.results85 (by decide) (by simp) ?_
  ((conv => whnf); repeat' (first | ((with_reducible first | refine q1 ?_ | refine q2 ?_); conv => whnf) | (with_reducible refine q3 ?_) | ((with_reducible refine q4 (fun _ => ?_) (fun _ => ?_)) <;> first | (exfalso; omega) | (conv => whnf)) | ((with_reducible first | refine q5 ?_ | refine q6 ?_ | refine q7 ?_ | refine q8 ?_ | refine q9 ?_ | refine q10 ?_ | refine q11 ?_ | refine q12 ?_ | refine q13 ?_ | refine q14 ?_ | refine q15 ?_); conv => whnf) | ((refine q16 (fun _ _ _ _ _ => ?_)); conv => whnf) | ((with_reducible first | refine q17 ?_ | refine q18 ?_ | refine q19 ?_ | refine q20 ?_); conv => whnf)))
  refine loop_rule Tryz.tbOk Nat [4] (fun k => [.int .i64 ((k * 7 : Nat) : Int)]) (fun k w' => k ≤ m ∧ J k w' ∧ I w') (fun k => m - k) 0 rfl ⟨by omega, h0, hI0⟩ ?_
  rintro k w' ⟨hk, hJk, hIk⟩ u
  obtain ⟨hc1, hc2, hr⟩ := hI _ hIk
  by_cases hlt : k < m
  · ((conv => whnf); repeat' (first | ((with_reducible first | refine q1 ?_ | refine q2 ?_); conv => whnf) | (with_reducible refine q3 ?_) | ((with_reducible refine q4 (fun _ => ?_) (fun _ => ?_)) <;> first | (exfalso; omega) | (conv => whnf)) | ((with_reducible first | refine q5 ?_ | refine q6 ?_ | refine q7 ?_ | refine q8 ?_ | refine q9 ?_ | refine q10 ?_ | refine q11 ?_ | refine q12 ?_ | refine q13 ?_ | refine q14 ?_ | refine q15 ?_); conv => whnf) | ((refine q16 (fun _ _ _ _ _ => ?_)); conv => whnf) | ((with_reducible first | refine q17 ?_ | refine q18 ?_ | refine q19 ?_ | refine q20 ?_); conv => whnf)))
    refine draw_rule Tryz.tbOk Tryz.mix (fun u => Ex w' u) (.take 0 (.take 1 (.take 2 (.take 3 (.take 4 (.take 5 (.take 6 (.done)))))))) (by kernel_rfl) (by kernel_rfl) ?_
    intro w1 hd1
    refine ⟨hd1.ex, ?_⟩
    ((conv => whnf); repeat' (first | ((with_reducible first | refine q1 ?_ | refine q2 ?_); conv => whnf) | (with_reducible refine q3 ?_) | ((with_reducible refine q4 (fun _ => ?_) (fun _ => ?_)) <;> first | (exfalso; omega) | (conv => whnf)) | ((with_reducible first | refine q5 ?_ | refine q6 ?_ | refine q7 ?_ | refine q8 ?_ | refine q9 ?_ | refine q10 ?_ | refine q11 ?_ | refine q12 ?_ | refine q13 ?_ | refine q14 ?_ | refine q15 ?_); conv => whnf) | ((refine q16 (fun _ _ _ _ _ => ?_)); conv => whnf) | ((with_reducible first | refine q17 ?_ | refine q18 ?_ | refine q19 ?_ | refine q20 ?_); conv => whnf)))
    refine HoldV.slice (e := 3) (sz := 1) (by_ := 8) Tryz.tbOk rfl (k * 7) xs.length cap (.inl rfl) (.inr ⟨rfl, rfl⟩) (.inr ⟨rfl, rfl⟩) (by simp) (by omega) (by omega) (by omega) ?_
    ((conv => whnf); repeat' (first | ((with_reducible first | refine q1 ?_ | refine q2 ?_); conv => whnf) | (with_reducible refine q3 ?_) | ((with_reducible refine q4 (fun _ => ?_) (fun _ => ?_)) <;> first | (exfalso; omega) | (conv => whnf)) | ((with_reducible first | refine q5 ?_ | refine q6 ?_ | refine q7 ?_ | refine q8 ?_ | refine q9 ?_ | refine q10 ?_ | refine q11 ?_ | refine q12 ?_ | refine q13 ?_ | refine q14 ?_ | refine q15 ?_); conv => whnf) | ((refine q16 (fun _ _ _ _ _ => ?_)); conv => whnf) | ((with_reducible first | refine q17 ?_ | refine q18 ?_ | refine q19 ?_ | refine q20 ?_); conv => whnf)))
    refine HoldV.min ?_
    rw [if_neg (by omega)]
    have hc1' := hd1.ex.cell hc1
    have hc2' := hd1.ex.cell hc2
    have hr' := hr.ex hd1.ex
    ((conv => whnf); repeat' (first | ((with_reducible first | refine q1 ?_ | refine q2 ?_); conv => whnf) | (with_reducible refine q3 ?_) | ((with_reducible refine q4 (fun _ => ?_) (fun _ => ?_)) <;> first | (exfalso; omega) | (conv => whnf)) | ((with_reducible first | refine q5 ?_ | refine q6 ?_ | refine q7 ?_ | refine q8 ?_ | refine q9 ?_ | refine q10 ?_ | refine q11 ?_ | refine q12 ?_ | refine q13 ?_ | refine q14 ?_ | refine q15 ?_); conv => whnf) | ((refine q16 (fun _ _ _ _ _ => ?_)); conv => whnf) | ((with_reducible first | refine q17 ?_ | refine q18 ?_ | refine q19 ?_ | refine q20 ?_); conv => whnf)))
    refine RunV.sliceRow (e := 3) (sz := 1) (by_ := 8) Tryz.tbOk rfl hr' (k * 7) (k * 7 + 7) (k * 7 + 7) 7 (.inl rfl) (.inl (by simp)) (.inl (by simp)) (by simp) rfl (by omega) (by omega) fun bs cs hcs hbb hrs => ?_
    rw [Nat.mul_one, Nat.mul_one, ints_drop, ints_take] at hrs
    ((conv => whnf); repeat' (first | ((with_reducible first | refine q1 ?_ | refine q2 ?_); conv => whnf) | (with_reducible refine q3 ?_) | ((with_reducible refine q4 (fun _ => ?_) (fun _ => ?_)) <;> first | (exfalso; omega) | (conv => whnf)) | ((with_reducible first | refine q5 ?_ | refine q6 ?_ | refine q7 ?_ | refine q8 ?_ | refine q9 ?_ | refine q10 ?_ | refine q11 ?_ | refine q12 ?_ | refine q13 ?_ | refine q14 ?_ | refine q15 ?_); conv => whnf) | ((refine q16 (fun _ _ _ _ _ => ?_)); conv => whnf) | ((with_reducible first | refine q17 ?_ | refine q18 ?_ | refine q19 ?_ | refine q20 ?_); conv => whnf)))
    refine YieldA.mono (hy k _ hlt w1 ⟨bs, cs, rfl, hrs, hbb⟩ (hJ _ _ _ hJk hd1.ex) (hE _ _ hIk hd1.ex)) ?_
    rintro v w2 (⟨rfl, hJ2, hI2⟩ | ⟨rfl, hJx2⟩)
    · obtain ⟨_, hc2'', _⟩ := hI _ hI2
      ((conv => whnf); repeat' (first | ((with_reducible first | refine q1 ?_ | refine q2 ?_); conv => whnf) | (with_reducible refine q3 ?_) | ((with_reducible refine q4 (fun _ => ?_) (fun _ => ?_)) <;> first | (exfalso; omega) | (conv => whnf)) | ((with_reducible first | refine q5 ?_ | refine q6 ?_ | refine q7 ?_ | refine q8 ?_ | refine q9 ?_ | refine q10 ?_ | refine q11 ?_ | refine q12 ?_ | refine q13 ?_ | refine q14 ?_ | refine q15 ?_); conv => whnf) | ((refine q16 (fun _ _ _ _ _ => ?_)); conv => whnf) | ((with_reducible first | refine q17 ?_ | refine q18 ?_ | refine q19 ?_ | refine q20 ?_); conv => whnf)))
      exact ⟨k + 1, by simp; omega, ⟨by omega, hJ2, hI2⟩, by omega⟩
    · ((conv => whnf); repeat' (first | ((with_reducible first | refine q1 ?_ | refine q2 ?_); conv => whnf) | (with_reducible refine q3 ?_) | ((with_reducible refine q4 (fun _ => ?_) (fun _ => ?_)) <;> first | (exfalso; omega) | (conv => whnf)) | ((with_reducible first | refine q5 ?_ | refine q6 ?_ | refine q7 ?_ | refine q8 ?_ | refine q9 ?_ | refine q10 ?_ | refine q11 ?_ | refine q12 ?_ | refine q13 ?_ | refine q14 ?_ | refine q15 ?_); conv => whnf) | ((refine q16 (fun _ _ _ _ _ => ?_)); conv => whnf) | ((with_reducible first | refine q17 ?_ | refine q18 ?_ | refine q19 ?_ | refine q20 ?_); conv => whnf)))
      exact .inr hJx2
  · have : k = m := by omega
    subst this
    ((conv => whnf); repeat' (first | ((with_reducible first | refine q1 ?_ | refine q2 ?_); conv => whnf) | (with_reducible refine q3 ?_) | ((with_reducible refine q4 (fun _ => ?_) (fun _ => ?_)) <;> first | (exfalso; omega) | (conv => whnf)) | ((with_reducible first | refine q5 ?_ | refine q6 ?_ | refine q7 ?_ | refine q8 ?_ | refine q9 ?_ | refine q10 ?_ | refine q11 ?_ | refine q12 ?_ | refine q13 ?_ | refine q14 ?_ | refine q15 ?_); conv => whnf) | ((refine q16 (fun _ _ _ _ _ => ?_)); conv => whnf) | ((with_reducible first | refine q17 ?_ | refine q18 ?_ | refine q19 ?_ | refine q20 ?_); conv => whnf)))
    exact .inl hJk
theorem Tryz.chunk (v : Value) (hv : one v = true) (w : World) : CallA Tryz.prog 42 [v, .int .i64 7] w fun r w' => ∃ b1 b2, r = .func (.func 85) #[] #[.pointer (some ⟨b1, 0, none⟩), .pointer (some ⟨b2, 0, none⟩)] ∧ w'.cell? ⟨b1, 0, none⟩ = some v ∧ w'.cell? ⟨b2, 0, none⟩ = some (.int .i64 7) ∧ w.heap.size ≤ b1 ∧ w.heap.size ≤ b2 ∧ Ex w w' := by
  refine callA_intro Tryz.tbOk Tryz.func42 rfl Tryz.ntmps42 Tryz.results42 (by decide) (by simp) ?_
  ((conv => whnf); repeat' (first | ((with_reducible first | refine q1 ?_ | refine q2 ?_); conv => whnf) | (with_reducible refine q3 ?_) | ((with_reducible refine q4 (fun _ => ?_) (fun _ => ?_)) <;> first | (exfalso; omega) | (conv => whnf)) | ((with_reducible first | refine q5 ?_ | refine q6 ?_ | refine q7 ?_ | refine q8 ?_ | refine q9 ?_ | refine q10 ?_ | refine q11 ?_ | refine q12 ?_ | refine q13 ?_ | refine q14 ?_ | refine q15 ?_); conv => whnf) | ((refine q16 (fun _ _ _ _ _ => ?_)); conv => whnf) | ((with_reducible first | refine q17 ?_ | refine q18 ?_ | refine q19 ?_ | refine q20 ?_); conv => whnf)))
  refine NewA.mk' fun w1 b1 hb1 hs1 he1 hB1 => ?_; ((conv => whnf); repeat' (first | ((with_reducible first | refine q1 ?_ | refine q2 ?_); conv => whnf) | (with_reducible refine q3 ?_) | ((with_reducible refine q4 (fun _ => ?_) (fun _ => ?_)) <;> first | (exfalso; omega) | (conv => whnf)) | ((with_reducible first | refine q5 ?_ | refine q6 ?_ | refine q7 ?_ | refine q8 ?_ | refine q9 ?_ | refine q10 ?_ | refine q11 ?_ | refine q12 ?_ | refine q13 ?_ | refine q14 ?_ | refine q15 ?_); conv => whnf) | ((refine q16 (fun _ _ _ _ _ => ?_)); conv => whnf) | ((with_reducible first | refine q17 ?_ | refine q18 ?_ | refine q19 ?_ | refine q20 ?_); conv => whnf)))
  refine NewA.mk' fun w2 b2 hb2 hs2 he2 hB2 => ?_; ((conv => whnf); repeat' (first | ((with_reducible first | refine q1 ?_ | refine q2 ?_); conv => whnf) | (with_reducible refine q3 ?_) | ((with_reducible refine q4 (fun _ => ?_) (fun _ => ?_)) <;> first | (exfalso; omega) | (conv => whnf)) | ((with_reducible first | refine q5 ?_ | refine q6 ?_ | refine q7 ?_ | refine q8 ?_ | refine q9 ?_ | refine q10 ?_ | refine q11 ?_ | refine q12 ?_ | refine q13 ?_ | refine q14 ?_ | refine q15 ?_); conv => whnf) | ((refine q16 (fun _ _ _ _ _ => ?_)); conv => whnf) | ((with_reducible first | refine q17 ?_ | refine q18 ?_ | refine q19 ?_ | refine q20 ?_); conv => whnf)))
  refine ⟨b1, b2, rfl, ?_, hB2.cell 0, by omega, by omega, he1.tr he2⟩
  refine he2.cell ?_
  rw [hB1.cell]
  cases v <;> first | rfl | (simp [one] at hv)
/-! ### reading -/
def lineAt (xs : List Int) (i : Nat) : Line := lineOfM (xs.getD (i * 7) 0) (xs.getD (i * 7 + 1) 0) (xs.getD (i * 7 + 2) 0) (xs.getD (i * 7 + 3) 0) (xs.getD (i * 7 + 4) 0) (xs.getD (i * 7 + 5) 0) (xs.getD (i * 7 + 6) 0)
def ReadM (s : Shape) (rows : List (List Int)) : List Line × Int :=
  if shOk s then
    (if dataB s rows then
      let w := rows.flatten
      let n := w.headD 0
      if 60 < n ∨ (w.length : Int) < 1 + 7 * n then ([], 7)
      else
        let out := (List.range n.toNat).map (lineAt (w.drop 1))
        if checkLinesM out = 0 then (if writeM s out = some rows then (out, 0) else ([], 7)) else ([], 7)
    else ([], 1))
  else ([], 1)
/-- lines, and an error -/
def RetLE (w : World) (r : List Line × Int) (v : Value) (w' : World) : Prop := ∃ b c, v = .tuple #[.slice b r.1.length c, .int .i64 r.2] ∧ Own w' w.heap.size 79 4 b r.1.length c (rowC lineC r.1) ∧ Ex w w'
theorem RetLE.nil {w w' : World} {e : Int} (h : Ex w w') : RetLE w ([], e) (.tuple #[.slice none 0 0, .int .i64 e]) w' := ⟨none, 0, rfl, Own.nil _ _ _ _, h⟩
theorem seven : ∀ (l : List Int), l.length = 7 → l = [l.getD 0 0, l.getD 1 0, l.getD 2 0, l.getD 3 0, l.getD 4 0, l.getD 5 0, l.getD 6 0]
  | [_, _, _, _, _, _, _], _ => rfl
theorem chunk_get (xr : List Int) {m i j : Nat} (hi : i < m) (hj : j < 7) : (((xr.take (7 * m)).drop (i * 7)).take 7).getD j 0 = xr.getD (i * 7 + j) 0 := by
  rw [List.getD_eq_getElem?_getD, List.getD_eq_getElem?_getD, List.getElem?_take, if_pos hj, List.getElem?_drop, List.getElem?_take, if_pos (by omega)]
theorem flat_len {W : Nat} : ∀ {R : List (List Int)}, (∀ l ∈ R, l.length = W) → R.flatten.length = R.length * W
  | [], _ => by simp
  | a :: t, h => by
    rw [List.flatten_cons, List.length_append, flat_len (fun l hl => h l (by simp [hl])), h a (by simp), List.length_cons, Nat.add_mul]; omega
theorem defEx {w w' : World} {r : Nat} {o : Obj} (h : w.heap[r]? = some o) (e : Ex w w') : w'.heap[r]? = some o := by rw [e.block r (Array.getElem?_eq_some_iff.1 h).1]; exact h
set_option maxRecDepth 4000 in
theorem Tryz.Read (s : Shape) (base : Option Addr) (cap : Nat) (ss : List Sl) (w : World) (h : Sls w base ss) :
    CallA Tryz.prog 10 [shV s, .slice base ss.length cap] w (RetLE w (ReadM s (rowsOf ss))) := by
  unfold shV
  refine callA_intro Tryz.tbOk Tryz.func10 rfl Tryz.ntmps10 Tryz.results10 (by decide) (by simp) ?_
  ((conv => whnf); repeat' (first | ((with_reducible first | refine q1 ?_ | refine q2 ?_); conv => whnf) | (with_reducible refine q3 ?_) | ((with_reducible refine q4 (fun _ => ?_) (fun _ => ?_)) <;> first | (exfalso; omega) | (conv => whnf)) | ((with_reducible first | refine q5 ?_ | refine q6 ?_ | refine q7 ?_ | refine q8 ?_ | refine q9 ?_ | refine q10 ?_ | refine q11 ?_ | refine q12 ?_ | refine q13 ?_ | refine q14 ?_ | refine q15 ?_); conv => whnf) | ((refine q16 (fun _ _ _ _ _ => ?_)); conv => whnf) | ((with_reducible first | refine q17 ?_ | refine q18 ?_ | refine q19 ?_ | refine q20 ?_); conv => whnf)))
  refine NewA.mk' fun w1 b2 hb2 hs2 he1 hB2 => ?_; ((conv => whnf); repeat' (first | ((with_reducible first | refine q1 ?_ | refine q2 ?_); conv => whnf) | (with_reducible refine q3 ?_) | ((with_reducible refine q4 (fun _ => ?_) (fun _ => ?_)) <;> first | (exfalso; omega) | (conv => whnf)) | ((with_reducible first | refine q5 ?_ | refine q6 ?_ | refine q7 ?_ | refine q8 ?_ | refine q9 ?_ | refine q10 ?_ | refine q11 ?_ | refine q12 ?_ | refine q13 ?_ | refine q14 ?_ | refine q15 ?_); conv => whnf) | ((refine q16 (fun _ _ _ _ _ => ?_)); conv => whnf) | ((with_reducible first | refine q17 ?_ | refine q18 ?_ | refine q19 ?_ | refine q20 ?_); conv => whnf)))
  have hch := Tryz.Check s w1
  unfold shV at hch
  refine CallA.mono hch ?_
  rintro v w2 ⟨rfl, he2⟩
  have hB22 := Blk.ex hB2 he2
  by_cases hs : shOk s = true
  · rw [if_pos hs]
    ((conv => whnf); repeat' (first | ((with_reducible first | refine q1 ?_ | refine q2 ?_); conv => whnf) | (with_reducible refine q3 ?_) | ((with_reducible refine q4 (fun _ => ?_) (fun _ => ?_)) <;> first | (exfalso; omega) | (conv => whnf)) | ((with_reducible first | refine q5 ?_ | refine q6 ?_ | refine q7 ?_ | refine q8 ?_ | refine q9 ?_ | refine q10 ?_ | refine q11 ?_ | refine q12 ?_ | refine q13 ?_ | refine q14 ?_ | refine q15 ?_); conv => whnf) | ((refine q16 (fun _ _ _ _ _ => ?_)); conv => whnf) | ((with_reducible first | refine q17 ?_ | refine q18 ?_ | refine q19 ?_ | refine q20 ?_); conv => whnf)))
    have hdo := Tryz.dataOf s base cap ss w2 (h.ex (he1.tr he2))
    unfold shV at hdo
    refine CallA.mono hdo ?_
    rintro v w3 ⟨rfl, he3⟩
    have hB23 := Blk.ex hB22 he3
    have hE3 := (he1.tr he2).tr he3
    ((conv => whnf); repeat' (first | ((with_reducible first | refine q1 ?_ | refine q2 ?_); conv => whnf) | (with_reducible refine q3 ?_) | ((with_reducible refine q4 (fun _ => ?_) (fun _ => ?_)) <;> first | (exfalso; omega) | (conv => whnf)) | ((with_reducible first | refine q5 ?_ | refine q6 ?_ | refine q7 ?_ | refine q8 ?_ | refine q9 ?_ | refine q10 ?_ | refine q11 ?_ | refine q12 ?_ | refine q13 ?_ | refine q14 ?_ | refine q15 ?_); conv => whnf) | ((refine q16 (fun _ _ _ _ _ => ?_)); conv => whnf) | ((with_reducible first | refine q17 ?_ | refine q18 ?_ | refine q19 ?_ | refine q20 ?_); conv => whnf)))
    refine Br.var (fun hd => ?_) (fun hd => ?_)
    · ((conv => whnf); repeat' (first | ((with_reducible first | refine q1 ?_ | refine q2 ?_); conv => whnf) | (with_reducible refine q3 ?_) | ((with_reducible refine q4 (fun _ => ?_) (fun _ => ?_)) <;> first | (exfalso; omega) | (conv => whnf)) | ((with_reducible first | refine q5 ?_ | refine q6 ?_ | refine q7 ?_ | refine q8 ?_ | refine q9 ?_ | refine q10 ?_ | refine q11 ?_ | refine q12 ?_ | refine q13 ?_ | refine q14 ?_ | refine q15 ?_); conv => whnf) | ((refine q16 (fun _ _ _ _ _ => ?_)); conv => whnf) | ((with_reducible first | refine q17 ?_ | refine q18 ?_ | refine q19 ?_ | refine q20 ?_); conv => whnf)))
      obtain ⟨hd1, hd2⟩ := dataB_spec hd
      obtain ⟨hs1, hs2, hs3, hs4, hs5, hs6⟩ := shOk_spec hs
      have hS3 := h.ex hE3
      rw [rowsOf_length] at hd1
      have hrl : ∀ l ∈ rowsOf ss, l.length = s.width.toNat := fun l hl => by have := (hd2 l hl).1; omega
      have hfl : (rowsOf ss).flatten.length = ss.length * s.width.toNat := by
        rw [flat_len hrl, rowsOf_length]
      have hflb : ss.length * s.width.toNat ≤ 640 := Nat.le_trans (Nat.mul_le_mul (show ss.length ≤ 20 by omega) (show s.width.toNat ≤ 32 by omega)) (by decide)
      have hflp : 0 < ss.length * s.width.toNat := Nat.mul_pos (by omega) (by omega)
      have hiw : isW (rowsOf ss).flatten := by
        intro n hn
        obtain ⟨l, hl, hnl⟩ := List.mem_flatten.1 hn
        exact (hd2 l hl).2 n hnl
      have hcc := Tryz.concatInts base cap ss w3 hS3.1 (fun s hs => (hS3.2.2 s hs).1) hS3.2.1 (by show (rowsOf ss).flatten.length ≤ _; omega)
      refine CallA.mono hcc ?_
      rintro v w4 ⟨bw, cw, rfl, hOw, he4⟩
      change Own w4 w3.heap.size 3 1 bw (rowsOf ss).flatten.length cw (ints (rowsOf ss).flatten) at hOw
      show _
      have hX : (List.map Sl.xs ss).flatten = (rowsOf ss).flatten := rfl
      rw [hX]
      generalize hxs : (rowsOf ss).flatten = xs at *
      have hrm : ReadM s (rowsOf ss) = if 60 < xs.headD 0 ∨ (xs.length : Int) < 1 + 7 * xs.headD 0 then ([], 7)
          else if checkLinesM ((List.range (xs.headD 0).toNat).map (lineAt (xs.drop 1))) = 0 then (if writeM s ((List.range (xs.headD 0).toNat).map (lineAt (xs.drop 1))) = some (rowsOf ss) then ((List.range (xs.headD 0).toNat).map (lineAt (xs.drop 1)), 0) else ([], 7)) else ([], 7) := by
        rw [ReadM, if_pos hs, if_pos hd]
        simp only [hxs]
      cases xs with
      | nil => simp at hfl; omega
      | cons x0 xr =>
        have hx0 := hiw x0 (by simp)
        simp only [List.headD_cons, List.drop_succ_cons, List.drop_zero] at hrm
        have hrow := hOw.row
        have hB24 := Blk.ex hB23 he4
        have hlen : ((x0 :: xr).length : Int) = (xr.length : Int) + 1 := by simp
        by_cases hn1 : 60 < x0
        · ((conv => whnf); repeat' (first | ((with_reducible first | refine q1 ?_ | refine q2 ?_); conv => whnf) | (with_reducible refine q3 ?_) | ((with_reducible refine q4 (fun _ => ?_) (fun _ => ?_)) <;> first | (exfalso; omega) | (conv => whnf)) | ((with_reducible first | refine q5 ?_ | refine q6 ?_ | refine q7 ?_ | refine q8 ?_ | refine q9 ?_ | refine q10 ?_ | refine q11 ?_ | refine q12 ?_ | refine q13 ?_ | refine q14 ?_ | refine q15 ?_); conv => whnf) | ((refine q16 (fun _ _ _ _ _ => ?_)); conv => whnf) | ((with_reducible first | refine q17 ?_ | refine q18 ?_ | refine q19 ?_ | refine q20 ?_); conv => whnf)))
          refine IdxA.at_ hrow rfl 0 rfl rfl fun _ _ _ hc0 => ?_
          ((conv => whnf); repeat' (first | ((with_reducible first | refine q1 ?_ | refine q2 ?_); conv => whnf) | (with_reducible refine q3 ?_) | ((with_reducible refine q4 (fun _ => ?_) (fun _ => ?_)) <;> first | (exfalso; omega) | (conv => whnf)) | ((with_reducible first | refine q5 ?_ | refine q6 ?_ | refine q7 ?_ | refine q8 ?_ | refine q9 ?_ | refine q10 ?_ | refine q11 ?_ | refine q12 ?_ | refine q13 ?_ | refine q14 ?_ | refine q15 ?_); conv => whnf) | ((refine q16 (fun _ _ _ _ _ => ?_)); conv => whnf) | ((with_reducible first | refine q17 ?_ | refine q18 ?_ | refine q19 ?_ | refine q20 ?_); conv => whnf)))
          rw [hrm, if_pos (.inl hn1)]
          exact RetLE.nil (hE3.tr he4)
        by_cases hn2 : ((x0 :: xr).length : Int) < 1 + 7 * x0
        · ((conv => whnf); repeat' (first | ((with_reducible first | refine q1 ?_ | refine q2 ?_); conv => whnf) | (with_reducible refine q3 ?_) | ((with_reducible refine q4 (fun _ => ?_) (fun _ => ?_)) <;> first | (exfalso; omega) | (conv => whnf)) | ((with_reducible first | refine q5 ?_ | refine q6 ?_ | refine q7 ?_ | refine q8 ?_ | refine q9 ?_ | refine q10 ?_ | refine q11 ?_ | refine q12 ?_ | refine q13 ?_ | refine q14 ?_ | refine q15 ?_); conv => whnf) | ((refine q16 (fun _ _ _ _ _ => ?_)); conv => whnf) | ((with_reducible first | refine q17 ?_ | refine q18 ?_ | refine q19 ?_ | refine q20 ?_); conv => whnf)))
          refine IdxA.at_ hrow rfl 0 rfl rfl fun _ _ _ hc0 => ?_
          ((conv => whnf); repeat' (first | ((with_reducible first | refine q1 ?_ | refine q2 ?_); conv => whnf) | (with_reducible refine q3 ?_) | ((with_reducible refine q4 (fun _ => ?_) (fun _ => ?_)) <;> first | (exfalso; omega) | (conv => whnf)) | ((with_reducible first | refine q5 ?_ | refine q6 ?_ | refine q7 ?_ | refine q8 ?_ | refine q9 ?_ | refine q10 ?_ | refine q11 ?_ | refine q12 ?_ | refine q13 ?_ | refine q14 ?_ | refine q15 ?_); conv => whnf) | ((refine q16 (fun _ _ _ _ _ => ?_)); conv => whnf) | ((with_reducible first | refine q17 ?_ | refine q18 ?_ | refine q19 ?_ | refine q20 ?_); conv => whnf)))
          refine IdxA.at_ hrow rfl 0 rfl rfl fun _ _ _ hc0 => ?_
          ((conv => whnf); repeat' (first | ((with_reducible first | refine q1 ?_ | refine q2 ?_); conv => whnf) | (with_reducible refine q3 ?_) | ((with_reducible refine q4 (fun _ => ?_) (fun _ => ?_)) <;> first | (exfalso; omega) | (conv => whnf)) | ((with_reducible first | refine q5 ?_ | refine q6 ?_ | refine q7 ?_ | refine q8 ?_ | refine q9 ?_ | refine q10 ?_ | refine q11 ?_ | refine q12 ?_ | refine q13 ?_ | refine q14 ?_ | refine q15 ?_); conv => whnf) | ((refine q16 (fun _ _ _ _ _ => ?_)); conv => whnf) | ((with_reducible first | refine q17 ?_ | refine q18 ?_ | refine q19 ?_ | refine q20 ?_); conv => whnf)))
          rw [hrm, if_pos (.inr hn2)]
          exact RetLE.nil (hE3.tr he4)
        rw [if_neg (by simp only [not_or]; exact ⟨hn1, hn2⟩)] at hrm
        ((conv => whnf); repeat' (first | ((with_reducible first | refine q1 ?_ | refine q2 ?_); conv => whnf) | (with_reducible refine q3 ?_) | ((with_reducible refine q4 (fun _ => ?_) (fun _ => ?_)) <;> first | (exfalso; omega) | (conv => whnf)) | ((with_reducible first | refine q5 ?_ | refine q6 ?_ | refine q7 ?_ | refine q8 ?_ | refine q9 ?_ | refine q10 ?_ | refine q11 ?_ | refine q12 ?_ | refine q13 ?_ | refine q14 ?_ | refine q15 ?_); conv => whnf) | ((refine q16 (fun _ _ _ _ _ => ?_)); conv => whnf) | ((with_reducible first | refine q17 ?_ | refine q18 ?_ | refine q19 ?_ | refine q20 ?_); conv => whnf)))
        refine IdxA.at_ hrow rfl 0 rfl rfl fun _ _ _ hc0 => ?_
        ((conv => whnf); repeat' (first | ((with_reducible first | refine q1 ?_ | refine q2 ?_); conv => whnf) | (with_reducible refine q3 ?_) | ((with_reducible refine q4 (fun _ => ?_) (fun _ => ?_)) <;> first | (exfalso; omega) | (conv => whnf)) | ((with_reducible first | refine q5 ?_ | refine q6 ?_ | refine q7 ?_ | refine q8 ?_ | refine q9 ?_ | refine q10 ?_ | refine q11 ?_ | refine q12 ?_ | refine q13 ?_ | refine q14 ?_ | refine q15 ?_); conv => whnf) | ((refine q16 (fun _ _ _ _ _ => ?_)); conv => whnf) | ((with_reducible first | refine q17 ?_ | refine q18 ?_ | refine q19 ?_ | refine q20 ?_); conv => whnf)))
        refine IdxA.at_ hrow rfl 0 rfl rfl fun _ _ _ hc0 => ?_
        ((conv => whnf); repeat' (first | ((with_reducible first | refine q1 ?_ | refine q2 ?_); conv => whnf) | (with_reducible refine q3 ?_) | ((with_reducible refine q4 (fun _ => ?_) (fun _ => ?_)) <;> first | (exfalso; omega) | (conv => whnf)) | ((with_reducible first | refine q5 ?_ | refine q6 ?_ | refine q7 ?_ | refine q8 ?_ | refine q9 ?_ | refine q10 ?_ | refine q11 ?_ | refine q12 ?_ | refine q13 ?_ | refine q14 ?_ | refine q15 ?_); conv => whnf) | ((refine q16 (fun _ _ _ _ _ => ?_)); conv => whnf) | ((with_reducible first | refine q17 ?_ | refine q18 ?_ | refine q19 ?_ | refine q20 ?_); conv => whnf)))
        refine NewA.mk' fun w5 b8 hb8 hs8 he8 hB8 => ?_; ((conv => whnf); repeat' (first | ((with_reducible first | refine q1 ?_ | refine q2 ?_); conv => whnf) | (with_reducible refine q3 ?_) | ((with_reducible refine q4 (fun _ => ?_) (fun _ => ?_)) <;> first | (exfalso; omega) | (conv => whnf)) | ((with_reducible first | refine q5 ?_ | refine q6 ?_ | refine q7 ?_ | refine q8 ?_ | refine q9 ?_ | refine q10 ?_ | refine q11 ?_ | refine q12 ?_ | refine q13 ?_ | refine q14 ?_ | refine q15 ?_); conv => whnf) | ((refine q16 (fun _ _ _ _ _ => ?_)); conv => whnf) | ((with_reducible first | refine q17 ?_ | refine q18 ?_ | refine q19 ?_ | refine q20 ?_); conv => whnf)))
        have hrow5 := hrow.ex he8
        refine IdxA.at_ hrow5 rfl 0 rfl rfl fun _ _ _ hc0 => ?_
        ((conv => whnf); repeat' (first | ((with_reducible first | refine q1 ?_ | refine q2 ?_); conv => whnf) | (with_reducible refine q3 ?_) | ((with_reducible refine q4 (fun _ => ?_) (fun _ => ?_)) <;> first | (exfalso; omega) | (conv => whnf)) | ((with_reducible first | refine q5 ?_ | refine q6 ?_ | refine q7 ?_ | refine q8 ?_ | refine q9 ?_ | refine q10 ?_ | refine q11 ?_ | refine q12 ?_ | refine q13 ?_ | refine q14 ?_ | refine q15 ?_); conv => whnf) | ((refine q16 (fun _ _ _ _ _ => ?_)); conv => whnf) | ((with_reducible first | refine q17 ?_ | refine q18 ?_ | refine q19 ?_ | refine q20 ?_); conv => whnf)))
        obtain ⟨m, hm⟩ : ∃ m : Nat, x0 = m := ⟨x0.toNat, by omega⟩
        subst hm
        have hOle := hOw.le
        refine RunV.sliceRow (e := 3) (sz := 1) (by_ := 8) Tryz.tbOk rfl hrow5 1 (1 + 7 * m) cw (7 * m) (.inl rfl) (.inl (by simp)) (.inr ⟨rfl, rfl⟩) (by simp) rfl (by omega) (by omega) fun bs cs hcs hbse hrs => ?_
        rw [Nat.mul_one, Nat.mul_one, ints_drop, ints_take, List.drop_succ_cons, List.drop_zero] at hrs
        have hbsl : ∀ a, bs = some a → a.block < b8 := by
          intro a ha
          rw [ha] at hbse
          have := (hOw.blk_ge a.block hbse.symm).2
          omega
        have hys : (xr.take (7 * m)).length = 7 * m := by rw [List.length_take]; omega
        ((conv => whnf); repeat' (first | ((with_reducible first | refine q1 ?_ | refine q2 ?_); conv => whnf) | (with_reducible refine q3 ?_) | ((with_reducible refine q4 (fun _ => ?_) (fun _ => ?_)) <;> first | (exfalso; omega) | (conv => whnf)) | ((with_reducible first | refine q5 ?_ | refine q6 ?_ | refine q7 ?_ | refine q8 ?_ | refine q9 ?_ | refine q10 ?_ | refine q11 ?_ | refine q12 ?_ | refine q13 ?_ | refine q14 ?_ | refine q15 ?_); conv => whnf) | ((refine q16 (fun _ _ _ _ _ => ?_)); conv => whnf) | ((with_reducible first | refine q17 ?_ | refine q18 ?_ | refine q19 ?_ | refine q20 ?_); conv => whnf)))
        have hck := Tryz.chunk (.slice bs (7 * m) cs) rfl w5
        refine CallA.mono hck ?_
        rintro v w6 ⟨b1, b2', rfl, hc1, hc2, hb1, hb2', he6⟩
        have hB86 := hB8.ex he6
        ((conv => whnf); repeat' (first | ((with_reducible first | refine q1 ?_ | refine q2 ?_); conv => whnf) | (with_reducible refine q3 ?_) | ((with_reducible refine q4 (fun _ => ?_) (fun _ => ?_)) <;> first | (exfalso; omega) | (conv => whnf)) | ((with_reducible first | refine q5 ?_ | refine q6 ?_ | refine q7 ?_ | refine q8 ?_ | refine q9 ?_ | refine q10 ?_ | refine q11 ?_ | refine q12 ?_ | refine q13 ?_ | refine q14 ?_ | refine q15 ?_); conv => whnf) | ((refine q16 (fun _ _ _ _ _ => ?_)); conv => whnf) | ((with_reducible first | refine q17 ?_ | refine q18 ?_ | refine q19 ?_ | refine q20 ?_); conv => whnf)))
        refine range_ruleG Tryz.tbOk (gf := 85) (first := #[]) (cap := #[.pointer (some ⟨b1, 0, none⟩), .pointer (some ⟨b2', 0, none⟩)]) rfl m _
          (fun u => u.cell? ⟨b1, 0, none⟩ = some (.slice bs (xr.take (7 * m)).length cs) ∧ u.cell? ⟨b2', 0, none⟩ = some (.int .i64 7) ∧ Below b8 w5 u)
          (Tryz.chunk1 bs cs m (xr.take (7 * m)) b1 b2' _ (fun u hu => ⟨hu.1, hu.2.1, hrs.below hu.2.2 (fun a ha _ => hbsl a ha)⟩) (fun u1 u2 hu e => ⟨e.cell hu.1, e.cell hu.2.1, Below.trans hu.2.2 (Below.mono e (by have := hu.2.2.size; omega))⟩) hys (by omega) (by omega))
          (fun i u => ∃ bo co, Blk u b8 [.slice bo i co] 24 ∧ Own u w6.heap.size 79 4 bo i co (rowC lineC ((List.range i).map (lineAt xr))) ∧ w6.heap.size ≤ u.heap.size ∧ Below b8 w5 u)
          (fun _ _ => False) ?_ ?_ (fun _ _ _ h _ => h.elim) ?_ ?_ (fun _ _ h => h.elim) ?_ ?_ (fun _ _ _ h => h.elim)
        · rintro u1 u2 ⟨h1, h2, h3⟩ hst
          exact ⟨hst.cell h1, hst.cell h2, Below.trans h3 (Below.mono hst.below (by have := he6.size; omega))⟩
        · rintro i u1 u2 ⟨bo, co, h1, h2, h3, h4⟩ hst
          exact ⟨bo, co, hst.blk h1, hst.owns h2, Nat.le_trans h3 hst.size, Below.trans h4 (Below.mono hst.below (by have := he6.size; omega))⟩
        · exact ⟨⟨none, 0, hB86, Own.nil _ _ _ _, Nat.le_refl _, Below.mono he6 (by omega)⟩, by rw [hys]; exact hc1, hc2, Below.mono he6 (by omega)⟩
        · rintro i u1 ⟨_, _, _, _, h3, _⟩; exact h3
        · rintro i vs hi l u1 ⟨b7, c7, rfl, hr7, hb7⟩ ⟨bo, co, hJ1, hJ2, hJ3, hJ4⟩ ⟨hI1, hI2, hI3⟩
          ((conv => whnf); repeat' (first | ((with_reducible first | refine q1 ?_ | refine q2 ?_); conv => whnf) | (with_reducible refine q3 ?_) | ((with_reducible refine q4 (fun _ => ?_) (fun _ => ?_)) <;> first | (exfalso; omega) | (conv => whnf)) | ((with_reducible first | refine q5 ?_ | refine q6 ?_ | refine q7 ?_ | refine q8 ?_ | refine q9 ?_ | refine q10 ?_ | refine q11 ?_ | refine q12 ?_ | refine q13 ?_ | refine q14 ?_ | refine q15 ?_); conv => whnf) | ((refine q16 (fun _ _ _ _ _ => ?_)); conv => whnf) | ((with_reducible first | refine q17 ?_ | refine q18 ?_ | refine q19 ?_ | refine q20 ?_); conv => whnf)))
          refine ⟨rfl, KO.refl _, hJ3, fun u2 hst => ?_⟩
          have hJ1' := hst.blk hJ1
          have hJ2' := hst.own hJ2
          have hr7' := hst.row hr7
          have hy7 : (((xr.take (7 * m)).drop (i * 7)).take 7).length = 7 := by rw [List.length_take, List.length_drop, hys]; omega
          have hyw : isW (((xr.take (7 * m)).drop (i * 7)).take 7) := fun n hn => hiw n (by simp; exact .inr (List.mem_of_mem_take (List.mem_of_mem_drop (List.mem_of_mem_take hn))))
          have hyl : ((xr.take (7 * m)).drop (i * 7)).take 7 = [xr.getD (i * 7) 0, xr.getD (i * 7 + 1) 0, xr.getD (i * 7 + 2) 0, xr.getD (i * 7 + 3) 0, xr.getD (i * 7 + 4) 0, xr.getD (i * 7 + 5) 0, xr.getD (i * 7 + 6) 0] := by
            rw [seven _ hy7, chunk_get xr hi (by omega), chunk_get xr hi (by omega), chunk_get xr hi (by omega), chunk_get xr hi (by omega), chunk_get xr hi (by omega), chunk_get xr hi (by omega), chunk_get xr hi (by omega)]
            rfl
          rw [hyl] at hr7' hyw
          obtain ⟨c, o, hbc, hcc7⟩ := hr7'.at_ (by simp [ints])
          subst hbc
          have hcb8 : c < b8 := by
            cases hbs0 : bs with
            | none => rw [hbs0] at hb7; simp [blkOf] at hb7
            | some a => rw [hbs0] at hb7; simp [blkOf] at hb7; rw [hb7]; exact hbsl a hbs0
          have hz6 := he6.size
          have hnb8 : some b8 ≠ blkOf bo := fun e => by have := (hJ2'.blk_ge b8 e.symm).1; omega
          have hnc : some c ≠ blkOf bo := fun e => by have := (hJ2'.blk_ge c e.symm).1; omega
          ((conv => whnf); repeat' (first | ((with_reducible first | refine q1 ?_ | refine q2 ?_); conv => whnf) | (with_reducible refine q3 ?_) | ((with_reducible refine q4 (fun _ => ?_) (fun _ => ?_)) <;> first | (exfalso; omega) | (conv => whnf)) | ((with_reducible first | refine q5 ?_ | refine q6 ?_ | refine q7 ?_ | refine q8 ?_ | refine q9 ?_ | refine q10 ?_ | refine q11 ?_ | refine q12 ?_ | refine q13 ?_ | refine q14 ?_ | refine q15 ?_); conv => whnf) | ((refine q16 (fun _ _ _ _ _ => ?_)); conv => whnf) | ((with_reducible first | refine q17 ?_ | refine q18 ?_ | refine q19 ?_ | refine q20 ?_); conv => whnf)))
          refine draw_rule Tryz.tbOk Tryz.mix (fun u' => u2.grownBy u' (blkOf bo)) (.take 0 (.take 1 (.one 2 (.take 3 (.one 4 (.one 5 (.one 6 (.fin 7)))))))) (by kernel_rfl) (by kernel_rfl) ?_
          intro u3 hd3
          refine ⟨hd3.ex.grown _, ?_⟩
          ((conv => whnf); repeat' (first | ((with_reducible first | refine q1 ?_ | refine q2 ?_); conv => whnf) | (with_reducible refine q3 ?_) | ((with_reducible refine q4 (fun _ => ?_) (fun _ => ?_)) <;> first | (exfalso; omega) | (conv => whnf)) | ((with_reducible first | refine q5 ?_ | refine q6 ?_ | refine q7 ?_ | refine q8 ?_ | refine q9 ?_ | refine q10 ?_ | refine q11 ?_ | refine q12 ?_ | refine q13 ?_ | refine q14 ?_ | refine q15 ?_); conv => whnf) | ((refine q16 (fun _ _ _ _ _ => ?_)); conv => whnf) | ((with_reducible first | refine q17 ?_ | refine q18 ?_ | refine q19 ?_ | refine q20 ?_); conv => whnf)))
          refine Hold1.butR hJ1' rfl hnb8 ?_
          ((conv => whnf); repeat' (first | ((with_reducible first | refine q1 ?_ | refine q2 ?_); conv => whnf) | (with_reducible refine q3 ?_) | ((with_reducible refine q4 (fun _ => ?_) (fun _ => ?_)) <;> first | (exfalso; omega) | (conv => whnf)) | ((with_reducible first | refine q5 ?_ | refine q6 ?_ | refine q7 ?_ | refine q8 ?_ | refine q9 ?_ | refine q10 ?_ | refine q11 ?_ | refine q12 ?_ | refine q13 ?_ | refine q14 ?_ | refine q15 ?_); conv => whnf) | ((refine q16 (fun _ _ _ _ _ => ?_)); conv => whnf) | ((with_reducible first | refine q17 ?_ | refine q18 ?_ | refine q19 ?_ | refine q20 ?_); conv => whnf)))
          refine RunV.arrayAt Tryz.tbOk (e := 3) (n := 7) rfl rfl (Nat.le_refl _) ?_
          ((conv => whnf); repeat' (first | ((with_reducible first | refine q1 ?_ | refine q2 ?_); conv => whnf) | (with_reducible refine q3 ?_) | ((with_reducible refine q4 (fun _ => ?_) (fun _ => ?_)) <;> first | (exfalso; omega) | (conv => whnf)) | ((with_reducible first | refine q5 ?_ | refine q6 ?_ | refine q7 ?_ | refine q8 ?_ | refine q9 ?_ | refine q10 ?_ | refine q11 ?_ | refine q12 ?_ | refine q13 ?_ | refine q14 ?_ | refine q15 ?_); conv => whnf) | ((refine q16 (fun _ _ _ _ _ => ?_)); conv => whnf) | ((with_reducible first | refine q17 ?_ | refine q18 ?_ | refine q19 ?_ | refine q20 ?_); conv => whnf)))
          refine ⟨hd3.ex.grown _, ?_⟩
          ((conv => whnf); repeat' (first | ((with_reducible first | refine q1 ?_ | refine q2 ?_); conv => whnf) | (with_reducible refine q3 ?_) | ((with_reducible refine q4 (fun _ => ?_) (fun _ => ?_)) <;> first | (exfalso; omega) | (conv => whnf)) | ((with_reducible first | refine q5 ?_ | refine q6 ?_ | refine q7 ?_ | refine q8 ?_ | refine q9 ?_ | refine q10 ?_ | refine q11 ?_ | refine q12 ?_ | refine q13 ?_ | refine q14 ?_ | refine q15 ?_); conv => whnf) | ((refine q16 (fun _ _ _ _ _ => ?_)); conv => whnf) | ((with_reducible first | refine q17 ?_ | refine q18 ?_ | refine q19 ?_ | refine q20 ?_); conv => whnf)))
          refine HoldN.butR (vs := ints [xr.getD (i * 7) 0, xr.getD (i * 7 + 1) 0, xr.getD (i * 7 + 2) 0, xr.getD (i * 7 + 3) 0, xr.getD (i * 7 + 4) 0, xr.getD (i * 7 + 5) 0, xr.getD (i * 7 + 6) 0]) rfl hcc7 hnc ?_
          ((conv => whnf); repeat' (first | ((with_reducible first | refine q1 ?_ | refine q2 ?_); conv => whnf) | (with_reducible refine q3 ?_) | ((with_reducible refine q4 (fun _ => ?_) (fun _ => ?_)) <;> first | (exfalso; omega) | (conv => whnf)) | ((with_reducible first | refine q5 ?_ | refine q6 ?_ | refine q7 ?_ | refine q8 ?_ | refine q9 ?_ | refine q10 ?_ | refine q11 ?_ | refine q12 ?_ | refine q13 ?_ | refine q14 ?_ | refine q15 ?_); conv => whnf) | ((refine q16 (fun _ _ _ _ _ => ?_)); conv => whnf) | ((with_reducible first | refine q17 ?_ | refine q18 ?_ | refine q19 ?_ | refine q20 ?_); conv => whnf)))
          refine CallA.mono (Tryz.lineOf _ _ _ _ _ _ _ u3 hyw) ?_
          rintro v u4 ⟨rfl, he4'⟩
          ((conv => whnf); repeat' (first | ((with_reducible first | refine q1 ?_ | refine q2 ?_); conv => whnf) | (with_reducible refine q3 ?_) | ((with_reducible refine q4 (fun _ => ?_) (fun _ => ?_)) <;> first | (exfalso; omega) | (conv => whnf)) | ((with_reducible first | refine q5 ?_ | refine q6 ?_ | refine q7 ?_ | refine q8 ?_ | refine q9 ?_ | refine q10 ?_ | refine q11 ?_ | refine q12 ?_ | refine q13 ?_ | refine q14 ?_ | refine q15 ?_); conv => whnf) | ((refine q16 (fun _ _ _ _ _ => ?_)); conv => whnf) | ((with_reducible first | refine q17 ?_ | refine q18 ?_ | refine q19 ?_ | refine q20 ?_); conv => whnf)))
          have heB : Ex u2 u4 := hd3.ex.tr he4'
          refine ⟨heB.grown _, ?_⟩
          ((conv => whnf); repeat' (first | ((with_reducible first | refine q1 ?_ | refine q2 ?_); conv => whnf) | (with_reducible refine q3 ?_) | ((with_reducible refine q4 (fun _ => ?_) (fun _ => ?_)) <;> first | (exfalso; omega) | (conv => whnf)) | ((with_reducible first | refine q5 ?_ | refine q6 ?_ | refine q7 ?_ | refine q8 ?_ | refine q9 ?_ | refine q10 ?_ | refine q11 ?_ | refine q12 ?_ | refine q13 ?_ | refine q14 ?_ | refine q15 ?_); conv => whnf) | ((refine q16 (fun _ _ _ _ _ => ?_)); conv => whnf) | ((with_reducible first | refine q17 ?_ | refine q18 ?_ | refine q19 ?_ | refine q20 ?_); conv => whnf)))
          refine NewS.mk' (cs := lineC (lineAt xr i)) fun u5 b9 hb9 hs9 he9 hB9 => ?_
          ((conv => whnf); repeat' (first | ((with_reducible first | refine q1 ?_ | refine q2 ?_); conv => whnf) | (with_reducible refine q3 ?_) | ((with_reducible refine q4 (fun _ => ?_) (fun _ => ?_)) <;> first | (exfalso; omega) | (conv => whnf)) | ((with_reducible first | refine q5 ?_ | refine q6 ?_ | refine q7 ?_ | refine q8 ?_ | refine q9 ?_ | refine q10 ?_ | refine q11 ?_ | refine q12 ?_ | refine q13 ?_ | refine q14 ?_ | refine q15 ?_); conv => whnf) | ((refine q16 (fun _ _ _ _ _ => ?_)); conv => whnf) | ((with_reducible first | refine q17 ?_ | refine q18 ?_ | refine q19 ?_ | refine q20 ?_); conv => whnf)))
          refine ⟨(heB.tr he9).grown _, ?_⟩
          ((conv => whnf); repeat' (first | ((with_reducible first | refine q1 ?_ | refine q2 ?_); conv => whnf) | (with_reducible refine q3 ?_) | ((with_reducible refine q4 (fun _ => ?_) (fun _ => ?_)) <;> first | (exfalso; omega) | (conv => whnf)) | ((with_reducible first | refine q5 ?_ | refine q6 ?_ | refine q7 ?_ | refine q8 ?_ | refine q9 ?_ | refine q10 ?_ | refine q11 ?_ | refine q12 ?_ | refine q13 ?_ | refine q14 ?_ | refine q15 ?_); conv => whnf) | ((refine q16 (fun _ _ _ _ _ => ?_)); conv => whnf) | ((with_reducible first | refine q17 ?_ | refine q18 ?_ | refine q19 ?_ | refine q20 ?_); conv => whnf)))
          have hz2 : w6.heap.size ≤ u2.heap.size := Nat.le_trans hJ3 hst.size
          refine RunV.append (e := 79) (sz := 4) (by_ := 32) (m := 1) (news := lineC (lineAt xr i)) Tryz.tbOk w6.heap.size (hJ2'.ex (heB.tr he9)) hB9.row rfl rfl (all_one rfl) (by omega) (by omega) rfl (by decide) (by have := (heB.tr he9).size; omega) fun u6 b6 c6 ho6 hg6 hb6 => ?_
          ((conv => whnf); repeat' (first | ((with_reducible first | refine q1 ?_ | refine q2 ?_); conv => whnf) | (with_reducible refine q3 ?_) | ((with_reducible refine q4 (fun _ => ?_) (fun _ => ?_)) <;> first | (exfalso; omega) | (conv => whnf)) | ((with_reducible first | refine q5 ?_ | refine q6 ?_ | refine q7 ?_ | refine q8 ?_ | refine q9 ?_ | refine q10 ?_ | refine q11 ?_ | refine q12 ?_ | refine q13 ?_ | refine q14 ?_ | refine q15 ?_); conv => whnf) | ((refine q16 (fun _ _ _ _ _ => ?_)); conv => whnf) | ((with_reducible first | refine q17 ?_ | refine q18 ?_ | refine q19 ?_ | refine q20 ?_); conv => whnf)))
          refine ⟨((heB.tr he9).grown _).trans hg6, ?_⟩
          ((conv => whnf); repeat' (first | ((with_reducible first | refine q1 ?_ | refine q2 ?_); conv => whnf) | (with_reducible refine q3 ?_) | ((with_reducible refine q4 (fun _ => ?_) (fun _ => ?_)) <;> first | (exfalso; omega) | (conv => whnf)) | ((with_reducible first | refine q5 ?_ | refine q6 ?_ | refine q7 ?_ | refine q8 ?_ | refine q9 ?_ | refine q10 ?_ | refine q11 ?_ | refine q12 ?_ | refine q13 ?_ | refine q14 ?_ | refine q15 ?_); conv => whnf) | ((refine q16 (fun _ _ _ _ _ => ?_)); conv => whnf) | ((with_reducible first | refine q17 ?_ | refine q18 ?_ | refine q19 ?_ | refine q20 ?_); conv => whnf)))
          have hB8' : Blk u6 b8 [.slice bo i co] 24 := (hJ1'.ex (heB.tr he9)).grown hg6 hnb8
          refine StoreA.one hB8' (by simp) rfl fun u7 hu7 hB87 => ?_
          ((conv => whnf); repeat' (first | ((with_reducible first | refine q1 ?_ | refine q2 ?_); conv => whnf) | (with_reducible refine q3 ?_) | ((with_reducible refine q4 (fun _ => ?_) (fun _ => ?_)) <;> first | (exfalso; omega) | (conv => whnf)) | ((with_reducible first | refine q5 ?_ | refine q6 ?_ | refine q7 ?_ | refine q8 ?_ | refine q9 ?_ | refine q10 ?_ | refine q11 ?_ | refine q12 ?_ | refine q13 ?_ | refine q14 ?_ | refine q15 ?_); conv => whnf) | ((refine q16 (fun _ _ _ _ _ => ?_)); conv => whnf) | ((with_reducible first | refine q17 ?_ | refine q18 ?_ | refine q19 ?_ | refine q20 ?_); conv => whnf)))
          have hX := heB.tr he9
          have hc1' := hX.cell (hst.cell hI1)
          have hc2' := hX.cell (hst.cell hI2)
          have hn1 : some b1 ≠ blkOf bo := fun e => by have h1 := (hJ2'.blk_ge b1 e.symm).1; have h2 := World.block_lt_of_cell? _ _ hc1; simp at h2; omega
          have hn2 : some b2' ≠ blkOf bo := fun e => by have h1 := (hJ2'.blk_ge b2' e.symm).1; have h2 := World.block_lt_of_cell? _ _ hc2; simp at h2; omega
          have hk1 : b1 ≠ b8 := by omega
          have hk2 : b2' ≠ b8 := by omega
          have hfin : Below b8 w5 u7 := by
            have h1 : Below b8 w5 u2 := Below.trans hI3 (Below.mono hst.below (by omega))
            have h2 : Below b8 u2 u6 := Below.trans (Below.mono hX (by omega)) (ex_grown hg6 (fun b hb => by have := (hJ2'.blk_ge b hb).1; omega) (by have := hX.size; omega))
            exact Below.trans (Below.trans h1 h2) (hu7.below (Nat.le_refl _))
          refine ⟨((KO.ex hX).trans (KO.grown hg6 (hJ2'.ex hX).cms)).trans (KO.put hu7 hB8'.cm), ⟨b6, c6, hB87, ?_, ?_, hfin⟩, ?_, ?_, hfin⟩
          · rw [List.range_succ, List.map_append, rowC_append]
            refine Own.upd ?_ hu7 (fun e => by have := (ho6.blk_ge b8 e).1; omega)
            simpa [rowC] using ho6
          · have := hX.size; have := hg6.size; have := hu7.size; omega
          · rw [World.cell?_of_block (a := ⟨b1, 0, none⟩) (hu7.other b1 hk1)]; exact hg6.cell hc1' hn1
          · rw [World.cell?_of_block (a := ⟨b2', 0, none⟩) (hu7.other b2' hk2)]; exact hg6.cell hc2' hn2
        · rintro r u1 ⟨bo, co, hJ1, hJ2, hJ3, hJ4⟩ hr1 hr2
          have hlt8 := hB86.lt
          have hE5 : Ex w w5 := (hE3.tr he4).tr he8
          have hE : Ex w u1 := Below.trans hE5 (Below.mono hJ4 (by have := (hE3.tr he4).size; omega))
          have hB2u : Blk u1 b2 (shC s) 23 := Blk.below (Blk.ex hB24 he8) hJ4 (by have := hB24.lt; omega)
          have hlo : ((List.range m).map (lineAt xr)).length = m := by simp
          have hOu : Own u1 w6.heap.size 79 4 bo m co (rowC lineC ((List.range m).map (lineAt xr))) := hJ2
          have hOl := hOu.le
          rw [Int.toNat_natCast] at hrm
          generalize hout : (List.range m).map (lineAt xr) = out at *
          ((conv => whnf); repeat' (first | ((with_reducible first | refine q1 ?_ | refine q2 ?_); conv => whnf) | (with_reducible refine q3 ?_) | ((with_reducible refine q4 (fun _ => ?_) (fun _ => ?_)) <;> first | (exfalso; omega) | (conv => whnf)) | ((with_reducible first | refine q5 ?_ | refine q6 ?_ | refine q7 ?_ | refine q8 ?_ | refine q9 ?_ | refine q10 ?_ | refine q11 ?_ | refine q12 ?_ | refine q13 ?_ | refine q14 ?_ | refine q15 ?_); conv => whnf) | ((refine q16 (fun _ _ _ _ _ => ?_)); conv => whnf) | ((with_reducible first | refine q17 ?_ | refine q18 ?_ | refine q19 ?_ | refine q20 ?_); conv => whnf)))
          have hcl := Tryz.CheckLines bo co out u1 hOu.row (by omega) (by omega)
          rw [hlo] at hcl
          refine CallA.mono hcl ?_
          rintro v u2 ⟨rfl, hx2⟩
          have hJ1' := hJ1.ex hx2
          have hB2' := hB2u.ex hx2
          have hd2' : u2.heap[r]? = some (.deferred (some [])) := by rw [hx2.block r (Array.getElem?_eq_some_iff.1 hr2).1]; exact hr2
          by_cases hc : checkLinesM out = 0
          · rw [if_pos hc] at hrm
            obtain ⟨hc1', hc2'⟩ := checkLinesM_ok hc
            ((conv => whnf); repeat' (first | ((with_reducible first | refine q1 ?_ | refine q2 ?_); conv => whnf) | (with_reducible refine q3 ?_) | ((with_reducible refine q4 (fun _ => ?_) (fun _ => ?_)) <;> first | (exfalso; omega) | (conv => whnf)) | ((with_reducible first | refine q5 ?_ | refine q6 ?_ | refine q7 ?_ | refine q8 ?_ | refine q9 ?_ | refine q10 ?_ | refine q11 ?_ | refine q12 ?_ | refine q13 ?_ | refine q14 ?_ | refine q15 ?_); conv => whnf) | ((refine q16 (fun _ _ _ _ _ => ?_)); conv => whnf) | ((with_reducible first | refine q17 ?_ | refine q18 ?_ | refine q19 ?_ | refine q20 ?_); conv => whnf)))
            have hw := Tryz.write s bo co out u2 hs (hOu.row.ex hx2) hc2' (by omega)
            rw [hlo] at hw
            unfold shV at hw
            refine CallA.mono hw ?_
            cases hm' : writeM s out with
            | none =>
              rw [hm', if_neg (by simp)] at hrm
              rintro v u3 ⟨rfl, hx3⟩
              ((conv => whnf); repeat' (first | ((with_reducible first | refine q1 ?_ | refine q2 ?_); conv => whnf) | (with_reducible refine q3 ?_) | ((with_reducible refine q4 (fun _ => ?_) (fun _ => ?_)) <;> first | (exfalso; omega) | (conv => whnf)) | ((with_reducible first | refine q5 ?_ | refine q6 ?_ | refine q7 ?_ | refine q8 ?_ | refine q9 ?_ | refine q10 ?_ | refine q11 ?_ | refine q12 ?_ | refine q13 ?_ | refine q14 ?_ | refine q15 ?_); conv => whnf) | ((refine q16 (fun _ _ _ _ _ => ?_)); conv => whnf) | ((with_reducible first | refine q17 ?_ | refine q18 ?_ | refine q19 ?_ | refine q20 ?_); conv => whnf)))
              refine TakeA.mk' (defEx hd2' hx3) hr1 fun u' hst => ?_
              ((conv => whnf); repeat' (first | ((with_reducible first | refine q1 ?_ | refine q2 ?_); conv => whnf) | (with_reducible refine q3 ?_) | ((with_reducible refine q4 (fun _ => ?_) (fun _ => ?_)) <;> first | (exfalso; omega) | (conv => whnf)) | ((with_reducible first | refine q5 ?_ | refine q6 ?_ | refine q7 ?_ | refine q8 ?_ | refine q9 ?_ | refine q10 ?_ | refine q11 ?_ | refine q12 ?_ | refine q13 ?_ | refine q14 ?_ | refine q15 ?_); conv => whnf) | ((refine q16 (fun _ _ _ _ _ => ?_)); conv => whnf) | ((with_reducible first | refine q17 ?_ | refine q18 ?_ | refine q19 ?_ | refine q20 ?_); conv => whnf)))
              rw [hrm]
              exact RetLE.nil ((hE.tr (hx2.tr hx3)).st hst (Nat.le_trans hE5.size he6.size))
            | some rows =>
              rw [hm'] at hrm
              rintro v u3 ⟨v1, rfl, b, c, sn, rfl, hS, hrows, hx3⟩
              have hJ1'' := hJ1'.ex hx3
              ((conv => whnf); repeat' (first | ((with_reducible first | refine q1 ?_ | refine q2 ?_); conv => whnf) | (with_reducible refine q3 ?_) | ((with_reducible refine q4 (fun _ => ?_) (fun _ => ?_)) <;> first | (exfalso; omega) | (conv => whnf)) | ((with_reducible first | refine q5 ?_ | refine q6 ?_ | refine q7 ?_ | refine q8 ?_ | refine q9 ?_ | refine q10 ?_ | refine q11 ?_ | refine q12 ?_ | refine q13 ?_ | refine q14 ?_ | refine q15 ?_); conv => whnf) | ((refine q16 (fun _ _ _ _ _ => ?_)); conv => whnf) | ((with_reducible first | refine q17 ?_ | refine q18 ?_ | refine q19 ?_ | refine q20 ?_); conv => whnf)))
              refine CallA.mono (Tryz.sameData b base c cap sn ss u3 hS (h.ex (hE.tr (hx2.tr hx3)))) ?_
              rintro v u4 ⟨rfl, hx4⟩
              have hJ14 := hJ1''.ex hx4
              rw [hrows]
              ((conv => whnf); repeat' (first | ((with_reducible first | refine q1 ?_ | refine q2 ?_); conv => whnf) | (with_reducible refine q3 ?_) | ((with_reducible refine q4 (fun _ => ?_) (fun _ => ?_)) <;> first | (exfalso; omega) | (conv => whnf)) | ((with_reducible first | refine q5 ?_ | refine q6 ?_ | refine q7 ?_ | refine q8 ?_ | refine q9 ?_ | refine q10 ?_ | refine q11 ?_ | refine q12 ?_ | refine q13 ?_ | refine q14 ?_ | refine q15 ?_); conv => whnf) | ((refine q16 (fun _ _ _ _ _ => ?_)); conv => whnf) | ((with_reducible first | refine q17 ?_ | refine q18 ?_ | refine q19 ?_ | refine q20 ?_); conv => whnf)))
              · rename_i hsame
                rw [if_pos (by rw [hsame])] at hrm
                refine TakeA.mk' (defEx (defEx hd2' hx3) hx4) hr1 fun u' hst => ?_
                ((conv => whnf); repeat' (first | ((with_reducible first | refine q1 ?_ | refine q2 ?_); conv => whnf) | (with_reducible refine q3 ?_) | ((with_reducible refine q4 (fun _ => ?_) (fun _ => ?_)) <;> first | (exfalso; omega) | (conv => whnf)) | ((with_reducible first | refine q5 ?_ | refine q6 ?_ | refine q7 ?_ | refine q8 ?_ | refine q9 ?_ | refine q10 ?_ | refine q11 ?_ | refine q12 ?_ | refine q13 ?_ | refine q14 ?_ | refine q15 ?_); conv => whnf) | ((refine q16 (fun _ _ _ _ _ => ?_)); conv => whnf) | ((with_reducible first | refine q17 ?_ | refine q18 ?_ | refine q19 ?_ | refine q20 ?_); conv => whnf)))
                rw [hrm]
                have hx := hx2.tr (hx3.tr hx4)
                refine ⟨bo, co, by rw [hlo], ?_, (hE.tr hx).st hst (Nat.le_trans hE5.size he6.size)⟩
                rw [hlo]
                exact (hst.own (hOu.ex hx)).mono (Nat.le_trans hE5.size he6.size)
              · rename_i hsame
                rw [if_neg (fun e => hsame (Option.some.inj e))] at hrm
                refine TakeA.mk' (defEx (defEx hd2' hx3) hx4) hr1 fun u' hst => ?_
                ((conv => whnf); repeat' (first | ((with_reducible first | refine q1 ?_ | refine q2 ?_); conv => whnf) | (with_reducible refine q3 ?_) | ((with_reducible refine q4 (fun _ => ?_) (fun _ => ?_)) <;> first | (exfalso; omega) | (conv => whnf)) | ((with_reducible first | refine q5 ?_ | refine q6 ?_ | refine q7 ?_ | refine q8 ?_ | refine q9 ?_ | refine q10 ?_ | refine q11 ?_ | refine q12 ?_ | refine q13 ?_ | refine q14 ?_ | refine q15 ?_); conv => whnf) | ((refine q16 (fun _ _ _ _ _ => ?_)); conv => whnf) | ((with_reducible first | refine q17 ?_ | refine q18 ?_ | refine q19 ?_ | refine q20 ?_); conv => whnf)))
                rw [hrm]
                exact RetLE.nil ((hE.tr (hx2.tr (hx3.tr hx4))).st hst (Nat.le_trans hE5.size he6.size))
          · rw [if_neg hc] at hrm
            ((conv => whnf); repeat' (first | ((with_reducible first | refine q1 ?_ | refine q2 ?_); conv => whnf) | (with_reducible refine q3 ?_) | ((with_reducible refine q4 (fun _ => ?_) (fun _ => ?_)) <;> first | (exfalso; omega) | (conv => whnf)) | ((with_reducible first | refine q5 ?_ | refine q6 ?_ | refine q7 ?_ | refine q8 ?_ | refine q9 ?_ | refine q10 ?_ | refine q11 ?_ | refine q12 ?_ | refine q13 ?_ | refine q14 ?_ | refine q15 ?_); conv => whnf) | ((refine q16 (fun _ _ _ _ _ => ?_)); conv => whnf) | ((with_reducible first | refine q17 ?_ | refine q18 ?_ | refine q19 ?_ | refine q20 ?_); conv => whnf)))
            refine TakeA.mk' hd2' hr1 fun u' hst => ?_
            ((conv => whnf); repeat' (first | ((with_reducible first | refine q1 ?_ | refine q2 ?_); conv => whnf) | (with_reducible refine q3 ?_) | ((with_reducible refine q4 (fun _ => ?_) (fun _ => ?_)) <;> first | (exfalso; omega) | (conv => whnf)) | ((with_reducible first | refine q5 ?_ | refine q6 ?_ | refine q7 ?_ | refine q8 ?_ | refine q9 ?_ | refine q10 ?_ | refine q11 ?_ | refine q12 ?_ | refine q13 ?_ | refine q14 ?_ | refine q15 ?_); conv => whnf) | ((refine q16 (fun _ _ _ _ _ => ?_)); conv => whnf) | ((with_reducible first | refine q17 ?_ | refine q18 ?_ | refine q19 ?_ | refine q20 ?_); conv => whnf)))
            rw [hrm]
            exact RetLE.nil ((hE.tr hx2).st hst (Nat.le_trans hE5.size he6.size))
    · ((conv => whnf); repeat' (first | ((with_reducible first | refine q1 ?_ | refine q2 ?_); conv => whnf) | (with_reducible refine q3 ?_) | ((with_reducible refine q4 (fun _ => ?_) (fun _ => ?_)) <;> first | (exfalso; omega) | (conv => whnf)) | ((with_reducible first | refine q5 ?_ | refine q6 ?_ | refine q7 ?_ | refine q8 ?_ | refine q9 ?_ | refine q10 ?_ | refine q11 ?_ | refine q12 ?_ | refine q13 ?_ | refine q14 ?_ | refine q15 ?_); conv => whnf) | ((refine q16 (fun _ _ _ _ _ => ?_)); conv => whnf) | ((with_reducible first | refine q17 ?_ | refine q18 ?_ | refine q19 ?_ | refine q20 ?_); conv => whnf)))
      have : ReadM s (rowsOf ss) = ([], 1) := by rw [ReadM, if_pos hs, if_neg (by rw [hd]; simp)]
      rw [this]; exact RetLE.nil hE3
  · rw [if_neg hs]
    ((conv => whnf); repeat' (first | ((with_reducible first | refine q1 ?_ | refine q2 ?_); conv => whnf) | (with_reducible refine q3 ?_) | ((with_reducible refine q4 (fun _ => ?_) (fun _ => ?_)) <;> first | (exfalso; omega) | (conv => whnf)) | ((with_reducible first | refine q5 ?_ | refine q6 ?_ | refine q7 ?_ | refine q8 ?_ | refine q9 ?_ | refine q10 ?_ | refine q11 ?_ | refine q12 ?_ | refine q13 ?_ | refine q14 ?_ | refine q15 ?_); conv => whnf) | ((refine q16 (fun _ _ _ _ _ => ?_)); conv => whnf) | ((with_reducible first | refine q17 ?_ | refine q18 ?_ | refine q19 ?_ | refine q20 ?_); conv => whnf)))
    have : ReadM s (rowsOf ss) = ([], 1) := by rw [ReadM, if_neg hs]
    rw [this]; exact RetLE.nil (he1.tr he2)
end Go.Proofs
