/-
  L9: a part of the proof. By an AI agent.
-/
import Derived.Test.YtpeihahmhpamoaaGreatVQ
import Derived.Test.YtpeihahmhpamoaaGreatV9
import Derived.Test.YtpeihahmhpamoaaGreatL8
set_option linter.all false
namespace Go.Proofs
open Go.V
open Go.RowKit (Below)
def wordsAt (rows : List (List Int)) (W i : Nat) : List Int := (List.range W).map fun j => valM (placeM rows j) ((i : Int) + 1)
def wholeM (s : Shape) (rows : List (List Int)) : List (Int × List Int) := (List.range (s.data + s.checks).toNat).map fun (i : Nat) => ((i : Int) + 1, wordsAt rows s.width.toNat i)
def Lf.m (l : Lf) : Int × List Int := (l.number, l.words.xs)
/-- new leaves -/
def RetL (w : World) (xs : List (Int × List Int)) (v : Value) (w' : World) : Prop := ∃ b c ls, v = .slice b xs.length c ∧ LvO w' w.heap.size b c ls ∧ ls.map Lf.m = xs ∧ Ex w w'
theorem LvO.st {N M : Nat} {u u' : World} {base : Option Addr} {cap : Nat} {ls : List Lf} (h : LvO u N base cap ls) (s : St M u u') : LvO u' N base cap ls :=
  ⟨s.owns h.row, fun i hi => s.owns (h.each i hi), h.apart, h.off⟩
def wAt (rows : List (List Int)) (W i j : Nat) : List Int := (wordsAt rows W i).take j ++ List.replicate (W - j) 0
theorem wAt_next {rows : List (List Int)} {W i j : Nat} (hj : j < W) : (wAt rows W i j).set j (valM (placeM rows j) ((i : Int) + 1)) = wAt rows W i (j + 1) := by
  have h1 : (wordsAt rows W i).length = W := by simp [wordsAt]
  have h2 : (wordsAt rows W i).take (j + 1) = (wordsAt rows W i).take j ++ [valM (placeM rows j) ((i : Int) + 1)] := by
    rw [List.take_succ_eq_append_getElem (by omega)]; simp [wordsAt]
  unfold wAt
  rw [h2, show W - j = (W - (j + 1)) + 1 by omega, List.replicate_succ]
  exact (mid_get _ _ _ _ _ (by simp; omega)).2
theorem wAt_length (rows : List (List Int)) {W i j : Nat} (hj : j ≤ W) : (wAt rows W i j).length = W := by simp [wAt, wordsAt]; omega
theorem isW_append {a b : List Int} (ha : isW a) (hb : isW b) : isW (a ++ b) := by
  intro n hn; rcases List.mem_append.1 hn with h | h; exact ha n h; exact hb n h
theorem timesM_isW {c : List Int} (r : Int) (hc : isW c) : isW (timesM c r) := timesM_range r hc
theorem throughM_isW (l : List (Int × Int)) : isW (throughM l) := by
  unfold throughM
  suffices h : ∀ (t : List (Int × Int)) (i : Nat) (out : List Int), isW out → isW (thrG l t i out) by
    refine h l 0 _ ?_
    intro n hn; have := (List.mem_replicate.1 hn).2; omega
  intro t
  induction t with
  | nil => intro i out h; exact h
  | cons p t ih => intro i out h; exact ih (i + 1) _ (addM_range _ _ _)
theorem thrG_length (l : List (Int × Int)) : ∀ (t : List (Int × Int)) (i : Nat) (out : List Int), i + t.length = l.length → out.length = l.length → (thrG l t i out).length = l.length := by
  intro t
  induction t with
  | nil => intro i out _ h; exact h
  | cons p t ih =>
    intro i out hi h
    simp only [List.length_cons] at hi
    refine ih (i + 1) _ (by omega) ?_
    obtain ⟨_, _, hs3⟩ := partG_spec i p.1 l 0 [1] 1 (by intro n hn; simp at hn; omega) (by omega)
    simp only [List.length_singleton] at hs3
    rw [if_pos (by omega)] at hs3
    simp only [thrStep, addM, List.length_zipWith]
    omega
theorem throughM_length (l : List (Int × Int)) : (throughM l).length = l.length := thrG_length l l 0 _ (by omega) (by simp)
theorem Tryz.places (s : Shape) (v : Value) (hv : one v = true) (w : World) : CallA Tryz.prog 98 [shV s, v] w fun r w' => ∃ b1 b2, r = .func (.func 129) #[] #[.pointer (some ⟨b1, 0, none⟩), .pointer (some ⟨b2, 0, none⟩)] ∧ Blk w' b1 (shC s) 23 ∧ w'.cell? ⟨b2, 0, none⟩ = some v ∧ w.heap.size ≤ b1 ∧ w.heap.size ≤ b2 ∧ Ex w w' := by
  unfold shV
  refine callA_intro Tryz.tbOk Tryz.func98 rfl Tryz.ntmps98 Tryz.results98 (by decide) (by simp) ?_
  ((conv => whnf); repeat' (first | ((with_reducible first | refine q1 ?_ | refine q2 ?_); conv => whnf) | (with_reducible refine q3 ?_) | ((with_reducible refine q4 (fun _ => ?_) (fun _ => ?_)) <;> first | (exfalso; omega) | (conv => whnf)) | ((with_reducible first | refine q5 ?_ | refine q6 ?_ | refine q7 ?_ | refine q8 ?_ | refine q9 ?_ | refine q10 ?_ | refine q11 ?_ | refine q12 ?_ | refine q13 ?_ | refine q14 ?_ | refine q15 ?_); conv => whnf) | ((refine q16 (fun _ _ _ _ _ => ?_)); conv => whnf) | ((with_reducible first | refine q17 ?_ | refine q18 ?_ | refine q19 ?_ | refine q20 ?_); conv => whnf)))
  refine NewA.mk' fun w1 b1 hb1 hs1 he1 hB1 => ?_; ((conv => whnf); repeat' (first | ((with_reducible first | refine q1 ?_ | refine q2 ?_); conv => whnf) | (with_reducible refine q3 ?_) | ((with_reducible refine q4 (fun _ => ?_) (fun _ => ?_)) <;> first | (exfalso; omega) | (conv => whnf)) | ((with_reducible first | refine q5 ?_ | refine q6 ?_ | refine q7 ?_ | refine q8 ?_ | refine q9 ?_ | refine q10 ?_ | refine q11 ?_ | refine q12 ?_ | refine q13 ?_ | refine q14 ?_ | refine q15 ?_); conv => whnf) | ((refine q16 (fun _ _ _ _ _ => ?_)); conv => whnf) | ((with_reducible first | refine q17 ?_ | refine q18 ?_ | refine q19 ?_ | refine q20 ?_); conv => whnf)))
  refine NewA.mk' fun w2 b2 hb2 hs2 he2 hB2 => ?_; ((conv => whnf); repeat' (first | ((with_reducible first | refine q1 ?_ | refine q2 ?_); conv => whnf) | (with_reducible refine q3 ?_) | ((with_reducible refine q4 (fun _ => ?_) (fun _ => ?_)) <;> first | (exfalso; omega) | (conv => whnf)) | ((with_reducible first | refine q5 ?_ | refine q6 ?_ | refine q7 ?_ | refine q8 ?_ | refine q9 ?_ | refine q10 ?_ | refine q11 ?_ | refine q12 ?_ | refine q13 ?_ | refine q14 ?_ | refine q15 ?_); conv => whnf) | ((refine q16 (fun _ _ _ _ _ => ?_)); conv => whnf) | ((with_reducible first | refine q17 ?_ | refine q18 ?_ | refine q19 ?_ | refine q20 ?_); conv => whnf)))
  refine ⟨b1, b2, rfl, Blk.ex hB1 he2, ?_, by omega, by omega, he1.tr he2⟩
  rw [hB2.cell]
  cases v <;> first | rfl | (simp [one] at hv)
theorem Tryz.whole (s : Shape) (base : Option Addr) (cap : Nat) (ss : List Sl) (w : World) (h : Sls w base ss) (hs : shOk s = true) (hd : dataB s (rowsOf ss) = true) :
    CallA Tryz.prog 57 [shV s, .slice base ss.length cap] w (RetL w (wholeM s (rowsOf ss))) := by
  obtain ⟨hs1, hs2, hs3, hs4, hs5, hs6⟩ := shOk_spec hs
  obtain ⟨hd1, hd2⟩ := dataB_spec hd
  rw [rowsOf_length] at hd1
  obtain ⟨n, hn⟩ : ∃ n : Nat, s.data + s.checks = (n : Int) := ⟨(s.data + s.checks).toNat, by omega⟩
  obtain ⟨W, hW⟩ : ∃ W : Nat, s.width = (W : Int) := ⟨s.width.toNat, by omega⟩
  unfold shV
  refine callA_intro Tryz.tbOk Tryz.func57 rfl Tryz.ntmps57 Tryz.results57 (by decide) (by simp) ?_
  ((conv => whnf); repeat' (first | ((with_reducible first | refine q1 ?_ | refine q2 ?_); conv => whnf) | (with_reducible refine q3 ?_) | ((with_reducible refine q4 (fun _ => ?_) (fun _ => ?_)) <;> first | (exfalso; omega) | (conv => whnf)) | ((with_reducible first | refine q5 ?_ | refine q6 ?_ | refine q7 ?_ | refine q8 ?_ | refine q9 ?_ | refine q10 ?_ | refine q11 ?_ | refine q12 ?_ | refine q13 ?_ | refine q14 ?_ | refine q15 ?_); conv => whnf) | ((refine q16 (fun _ _ _ _ _ => ?_)); conv => whnf) | ((with_reducible first | refine q17 ?_ | refine q18 ?_ | refine q19 ?_ | refine q20 ?_); conv => whnf)))
  refine NewA.mk' fun w1 b2 hb2 hs1' he1 hB2 => ?_; ((conv => whnf); repeat' (first | ((with_reducible first | refine q1 ?_ | refine q2 ?_); conv => whnf) | (with_reducible refine q3 ?_) | ((with_reducible refine q4 (fun _ => ?_) (fun _ => ?_)) <;> first | (exfalso; omega) | (conv => whnf)) | ((with_reducible first | refine q5 ?_ | refine q6 ?_ | refine q7 ?_ | refine q8 ?_ | refine q9 ?_ | refine q10 ?_ | refine q11 ?_ | refine q12 ?_ | refine q13 ?_ | refine q14 ?_ | refine q15 ?_); conv => whnf) | ((refine q16 (fun _ _ _ _ _ => ?_)); conv => whnf) | ((with_reducible first | refine q17 ?_ | refine q18 ?_ | refine q19 ?_ | refine q20 ?_); conv => whnf)))
  refine RunV.make (e := 59) (sz := 2) (by_ := 32) Tryz.tbOk w.heap.size n n rfl hn hn (by omega) (by omega) (by omega) rfl (by decide) (by omega) fun w2 bo hbo hs2' he2 ho => ?_
  ((conv => whnf); repeat' (first | ((with_reducible first | refine q1 ?_ | refine q2 ?_); conv => whnf) | (with_reducible refine q3 ?_) | ((with_reducible refine q4 (fun _ => ?_) (fun _ => ?_)) <;> first | (exfalso; omega) | (conv => whnf)) | ((with_reducible first | refine q5 ?_ | refine q6 ?_ | refine q7 ?_ | refine q8 ?_ | refine q9 ?_ | refine q10 ?_ | refine q11 ?_ | refine q12 ?_ | refine q13 ?_ | refine q14 ?_ | refine q15 ?_); conv => whnf) | ((refine q16 (fun _ _ _ _ _ => ?_)); conv => whnf) | ((with_reducible first | refine q17 ?_ | refine q18 ?_ | refine q19 ?_ | refine q20 ?_); conv => whnf)))
  refine NewA.mk' fun w3 b5 hb5 hs3' he3 hB5 => ?_; ((conv => whnf); repeat' (first | ((with_reducible first | refine q1 ?_ | refine q2 ?_); conv => whnf) | (with_reducible refine q3 ?_) | ((with_reducible refine q4 (fun _ => ?_) (fun _ => ?_)) <;> first | (exfalso; omega) | (conv => whnf)) | ((with_reducible first | refine q5 ?_ | refine q6 ?_ | refine q7 ?_ | refine q8 ?_ | refine q9 ?_ | refine q10 ?_ | refine q11 ?_ | refine q12 ?_ | refine q13 ?_ | refine q14 ?_ | refine q15 ?_); conv => whnf) | ((refine q16 (fun _ _ _ _ _ => ?_)); conv => whnf) | ((with_reducible first | refine q17 ?_ | refine q18 ?_ | refine q19 ?_ | refine q20 ?_); conv => whnf)))
  refine StoreA.one (cs := [.slice none 0 0]) hB5 (by decide) rfl fun w4 hu4 hB4 => ?_
  have hsz4 := hu4.size
  have he4 : Ex w w4 := ((he1.tr he2).tr he3).upd hu4 (by omega)
  have hO4 : LvO w4 w.heap.size (some ⟨bo, 0, none⟩) n (List.replicate n ⟨0, ⟨none, 0, []⟩⟩) := by
    refine ⟨?_, ?_, ?_, ?_⟩
    · have hrep : reps n (cellsOf (Value.agg #[Value.int IntKind.i64 0, Value.slice none 0 0])) = rowC lfC (List.replicate n (⟨0, ⟨none, 0, []⟩⟩ : Lf)) := rowC_rep n _ rfl
      rw [hrep] at ho
      rw [List.length_replicate]
      exact (ho.ex he3).upd hu4 (by simp [blkOf]; omega)
    · intro i hi; simp only [List.getElem_replicate]; exact Own.nil _ _ _ _
    · intro i j hi hj _; simp
    · intro i hi; simp
  have hB24 : Blk w4 b2 (shC s) 23 := hu4.blk ((Blk.ex hB2 he2).ex he3) (by omega)
  have hB54 : Blk w4 b5 [.slice (some ⟨bo, 0, none⟩) n n] 52 := hB4
  ((conv => whnf); repeat' (first | ((with_reducible first | refine q1 ?_ | refine q2 ?_); conv => whnf) | (with_reducible refine q3 ?_) | ((with_reducible refine q4 (fun _ => ?_) (fun _ => ?_)) <;> first | (exfalso; omega) | (conv => whnf)) | ((with_reducible first | refine q5 ?_ | refine q6 ?_ | refine q7 ?_ | refine q8 ?_ | refine q9 ?_ | refine q10 ?_ | refine q11 ?_ | refine q12 ?_ | refine q13 ?_ | refine q14 ?_ | refine q15 ?_); conv => whnf) | ((refine q16 (fun _ _ _ _ _ => ?_)); conv => whnf) | ((with_reducible first | refine q17 ?_ | refine q18 ?_ | refine q19 ?_ | refine q20 ?_); conv => whnf)))
  refine loop_rule Tryz.tbOk (Nat × List Lf) [18] (fun | (i, _) => [.int .i64 (i:Int)])
    (fun | (i, ls), u => i ≤ n ∧ ls.length = n ∧ LvO u w.heap.size (some ⟨bo, 0, none⟩) n ls ∧ Blk u b2 (shC s) 23 ∧ Blk u b5 [.slice (some ⟨bo, 0, none⟩) n n] 52 ∧ Ex w u ∧
      ∀ j (hj : j < ls.length), if j < i then ls[j].number = (j : Int) + 1 ∧ ls[j].words.xs = List.replicate W 0 ∧ (∀ a, ls[j].words.base = some a → b5 < a.block) else ls[j].words.base = none) (fun | (i, _) => n - i)
    (0, List.replicate n ⟨0, ⟨none, 0, []⟩⟩) rfl ⟨by omega, by simp, hO4, hB24, hB54, he4, by intro j hj; simp⟩ ?_
  rintro ⟨i, ls⟩ u ⟨hi, hls, hO, hB2u, hB5u, heu, hall⟩ uu
  by_cases hlt : i < n
  · have hb1 := (hO.row.at_ rfl).2
    simp only [] at hb1
    have hlt5 := hB5u.lt
    have hlt2 := hB2u.lt
    have hne5 : b5 ≠ bo := by omega
    have hne2 : b2 ≠ bo := by omega
    ((conv => whnf); repeat' (first | ((with_reducible first | refine q1 ?_ | refine q2 ?_); conv => whnf) | (with_reducible refine q3 ?_) | ((with_reducible refine q4 (fun _ => ?_) (fun _ => ?_)) <;> first | (exfalso; omega) | (conv => whnf)) | ((with_reducible first | refine q5 ?_ | refine q6 ?_ | refine q7 ?_ | refine q8 ?_ | refine q9 ?_ | refine q10 ?_ | refine q11 ?_ | refine q12 ?_ | refine q13 ?_ | refine q14 ?_ | refine q15 ?_); conv => whnf) | ((refine q16 (fun _ _ _ _ _ => ?_)); conv => whnf) | ((with_reducible first | refine q17 ?_ | refine q18 ?_ | refine q19 ?_ | refine q20 ?_); conv => whnf)))
    refine draw_rule Tryz.tbOk Tryz.mix (fun u' => u.grownBy u' (some bo)) (.take 0 (.take 1 (.take 2 (.take 3 (.take 4 (.take 5 (.one 6 (.take 7 (.take 8 (.fin 9)))))))))) (by kernel_rfl) (by kernel_rfl) ?_
    intro u1 hd1
    refine ⟨hd1.ex.grown _, ?_⟩
    ((conv => whnf); repeat' (first | ((with_reducible first | refine q1 ?_ | refine q2 ?_); conv => whnf) | (with_reducible refine q3 ?_) | ((with_reducible refine q4 (fun _ => ?_) (fun _ => ?_)) <;> first | (exfalso; omega) | (conv => whnf)) | ((with_reducible first | refine q5 ?_ | refine q6 ?_ | refine q7 ?_ | refine q8 ?_ | refine q9 ?_ | refine q10 ?_ | refine q11 ?_ | refine q12 ?_ | refine q13 ?_ | refine q14 ?_ | refine q15 ?_); conv => whnf) | ((refine q16 (fun _ _ _ _ _ => ?_)); conv => whnf) | ((with_reducible first | refine q17 ?_ | refine q18 ?_ | refine q19 ?_ | refine q20 ?_); conv => whnf)))
    refine RunV.make (e := 3) (sz := 1) (by_ := 8) Tryz.tbOk w.heap.size W W rfl hW hW (by omega) (by omega) (by omega) rfl (by decide) (by have h1 := heu.size; have h2 := hd1.ex.size; omega) fun u2 bw hbw hsw hew how => ?_
    ((conv => whnf); repeat' (first | ((with_reducible first | refine q1 ?_ | refine q2 ?_); conv => whnf) | (with_reducible refine q3 ?_) | ((with_reducible refine q4 (fun _ => ?_) (fun _ => ?_)) <;> first | (exfalso; omega) | (conv => whnf)) | ((with_reducible first | refine q5 ?_ | refine q6 ?_ | refine q7 ?_ | refine q8 ?_ | refine q9 ?_ | refine q10 ?_ | refine q11 ?_ | refine q12 ?_ | refine q13 ?_ | refine q14 ?_ | refine q15 ?_); conv => whnf) | ((refine q16 (fun _ _ _ _ _ => ?_)); conv => whnf) | ((with_reducible first | refine q17 ?_ | refine q18 ?_ | refine q19 ?_ | refine q20 ?_); conv => whnf)))
    refine ⟨(hd1.ex.tr hew).grown _, ?_⟩
    have hO2 := (hO.ex hd1.ex).ex hew
    have hrow2 := hO2.row
    rw [hls] at hrow2
    ((conv => whnf); repeat' (first | ((with_reducible first | refine q1 ?_ | refine q2 ?_); conv => whnf) | (with_reducible refine q3 ?_) | ((with_reducible refine q4 (fun _ => ?_) (fun _ => ?_)) <;> first | (exfalso; omega) | (conv => whnf)) | ((with_reducible first | refine q5 ?_ | refine q6 ?_ | refine q7 ?_ | refine q8 ?_ | refine q9 ?_ | refine q10 ?_ | refine q11 ?_ | refine q12 ?_ | refine q13 ?_ | refine q14 ?_ | refine q15 ?_); conv => whnf) | ((refine q16 (fun _ _ _ _ _ => ?_)); conv => whnf) | ((with_reducible first | refine q17 ?_ | refine q18 ?_ | refine q19 ?_ | refine q20 ?_); conv => whnf)))
    refine IdxA.own hrow2 i rfl (by omega) (by decide) fun bq hbq _ => ?_
    obtain rfl : bo = bq := by simpa using hbq
    ((conv => whnf); repeat' (first | ((with_reducible first | refine q1 ?_ | refine q2 ?_); conv => whnf) | (with_reducible refine q3 ?_) | ((with_reducible refine q4 (fun _ => ?_) (fun _ => ?_)) <;> first | (exfalso; omega) | (conv => whnf)) | ((with_reducible first | refine q5 ?_ | refine q6 ?_ | refine q7 ?_ | refine q8 ?_ | refine q9 ?_ | refine q10 ?_ | refine q11 ?_ | refine q12 ?_ | refine q13 ?_ | refine q14 ?_ | refine q15 ?_); conv => whnf) | ((refine q16 (fun _ _ _ _ _ => ?_)); conv => whnf) | ((with_reducible first | refine q17 ?_ | refine q18 ?_ | refine q19 ?_ | refine q20 ?_); conv => whnf)))
    have hvs : lfC ⟨(i : Int) + 1, ⟨some ⟨bw, 0, none⟩, W, List.replicate W 0⟩⟩ = [.int .i64 ((i : Int) + 1), .slice (some ⟨bw, 0, none⟩) W W] := by simp [lfC, Sl.val]
    refine StoreA.own (o := i * 2) (vs := [.int .i64 ((i : Int) + 1), .slice (some ⟨bw, 0, none⟩) W W]) hrow2 rfl (by simp; omega) rfl (all_one rfl) fun u3 hu3 ho3 => ?_
    rw [← hvs, rowC_set (sz := 2) (fun _ => rfl) ls i _ (by omega)] at ho3
    have hb3 := hd1.ex.size
    have hO3 := hO2.put (i := i) (by omega) rfl hu3 (by rw [hls]; exact ho3) (by
      have : reps W (cellsOf (Value.int .i64 0)) = ints (List.replicate W 0) := ints_rep W 0
      rw [this] at how
      simp only [List.length_replicate]
      refine how.upd hu3 ?_
      simp [blkOf]; omega) (.inr (by simp [blkOf]; omega)) (fun j hj => by
        cases hbj : ls[j].words.base with
        | none => exact .inl rfl
        | some a => right; have := ((hO.each j hj).at_ hbj).2; simp [blkOf]; omega)
    ((conv => whnf); repeat' (first | ((with_reducible first | refine q1 ?_ | refine q2 ?_); conv => whnf) | (with_reducible refine q3 ?_) | ((with_reducible refine q4 (fun _ => ?_) (fun _ => ?_)) <;> first | (exfalso; omega) | (conv => whnf)) | ((with_reducible first | refine q5 ?_ | refine q6 ?_ | refine q7 ?_ | refine q8 ?_ | refine q9 ?_ | refine q10 ?_ | refine q11 ?_ | refine q12 ?_ | refine q13 ?_ | refine q14 ?_ | refine q15 ?_); conv => whnf) | ((refine q16 (fun _ _ _ _ _ => ?_)); conv => whnf) | ((with_reducible first | refine q17 ?_ | refine q18 ?_ | refine q19 ?_ | refine q20 ?_); conv => whnf)))
    refine ⟨(i + 1, ls.set i ⟨(i : Int) + 1, ⟨some ⟨bw, 0, none⟩, W, List.replicate W 0⟩⟩), rfl, ⟨by omega, by simp [hls], hO3, hu3.blk ((hB2u.ex hd1.ex).ex hew) (by omega), hu3.blk ((hB5u.ex hd1.ex).ex hew) (by omega), (heu.tr (hd1.ex.tr hew)).upd hu3 (by omega), ?_⟩, by simp only []; omega⟩
    intro j hj
    have hj' : j < ls.length := by simpa using hj
    rw [List.getElem_set]
    by_cases hij : i = j
    · subst hij; simp; omega
    · have := hall j hj'
      simp only [if_neg hij]
      by_cases h1 : j < i
      · rw [if_pos h1] at this; rw [if_pos (by omega)]; exact this
      · rw [if_neg h1] at this; rw [if_neg (by omega)]; exact this
  · have : i = n := by omega
    subst this
    ((conv => whnf); repeat' (first | ((with_reducible first | refine q1 ?_ | refine q2 ?_); conv => whnf) | (with_reducible refine q3 ?_) | ((with_reducible refine q4 (fun _ => ?_) (fun _ => ?_)) <;> first | (exfalso; omega) | (conv => whnf)) | ((with_reducible first | refine q5 ?_ | refine q6 ?_ | refine q7 ?_ | refine q8 ?_ | refine q9 ?_ | refine q10 ?_ | refine q11 ?_ | refine q12 ?_ | refine q13 ?_ | refine q14 ?_ | refine q15 ?_); conv => whnf) | ((refine q16 (fun _ _ _ _ _ => ?_)); conv => whnf) | ((with_reducible first | refine q17 ?_ | refine q18 ?_ | refine q19 ?_ | refine q20 ?_); conv => whnf)))
    have hp := Tryz.places s (.slice base ss.length cap) rfl u
    unfold shV at hp
    refine CallA.mono hp ?_
    rintro v w5 ⟨bS, bD, rfl, hBS, hcD, hbS, hbD, he5⟩
    have hb1 := (hO.row.at_ rfl).2
    simp only [] at hb1
    have hlt5 := hB5u.lt
    ((conv => whnf); repeat' (first | ((with_reducible first | refine q1 ?_ | refine q2 ?_); conv => whnf) | (with_reducible refine q3 ?_) | ((with_reducible refine q4 (fun _ => ?_) (fun _ => ?_)) <;> first | (exfalso; omega) | (conv => whnf)) | ((with_reducible first | refine q5 ?_ | refine q6 ?_ | refine q7 ?_ | refine q8 ?_ | refine q9 ?_ | refine q10 ?_ | refine q11 ?_ | refine q12 ?_ | refine q13 ?_ | refine q14 ?_ | refine q15 ?_); conv => whnf) | ((refine q16 (fun _ _ _ _ _ => ?_)); conv => whnf) | ((with_reducible first | refine q17 ?_ | refine q18 ?_ | refine q19 ?_ | refine q20 ?_); conv => whnf)))
    refine range_ruleG Tryz.tbOk (gf := 129) (first := #[]) (cap := #[.pointer (some ⟨bS, 0, none⟩), .pointer (some ⟨bD, 0, none⟩)]) rfl s.width.toNat _
      (fun u' => Blk u' bS (shC s) 23 ∧ u'.cell? ⟨bD, 0, none⟩ = some (.slice base ss.length cap) ∧ Ex w u' ∧ u.heap.size ≤ u'.heap.size)
      (Tryz.places1 s bS bD u.heap.size base cap ss _ (fun u' h' => ⟨h'.1, h'.2.1, h.ex h'.2.2.1, h'.2.2.2⟩) (fun u1 u2 h' e => ⟨h'.1.ex e, e.cell h'.2.1, h'.2.2.1.tr e, Nat.le_trans h'.2.2.2 e.size⟩) hs hd)
      (fun j u' => Blk u' b5 [.slice (some ⟨bo, 0, none⟩) i i] 52 ∧ w5.heap.size ≤ u'.heap.size ∧ Ex w u' ∧ ∃ ls : List Lf, ls.length = i ∧ LvO u' w.heap.size (some ⟨bo, 0, none⟩) i ls ∧
        ∀ k (hk : k < ls.length), ls[k].number = (k : Int) + 1 ∧ ls[k].words.xs = wAt (rowsOf ss) W k j ∧ ∀ a, ls[k].words.base = some a → b5 < a.block ∧ a.block < u.heap.size)
      (fun _ _ => False) ?_ ?_ (fun _ _ _ h _ => h.elim) ?_ ?_ (fun _ _ h => h.elim) ?_ ?_ (fun _ _ _ h => h.elim)
    · rintro u1 u2 ⟨h1, h2, h3, h4⟩ hst
      exact ⟨hst.blk h1, hst.cell h2, h3.st hst (Nat.le_trans heu.size he5.size), Nat.le_trans h4 hst.size⟩
    · rintro j u1 u2 ⟨h1, h2, h6, ls', h3, h4, h5⟩ hst
      exact ⟨hst.blk h1, Nat.le_trans h2 hst.size, h6.st hst (Nat.le_trans heu.size he5.size), ls', h3, h4.st hst, h5⟩
    · refine ⟨⟨hB5u.ex he5, Nat.le_refl _, heu.tr he5, ls, hls, hO.ex he5, ?_⟩, hBS, hcD, heu.tr he5, he5.size⟩
      intro k hk
      have h1 := hall k hk
      rw [if_pos (by omega)] at h1
      refine ⟨h1.1, by rw [h1.2.1]; simp [wAt], fun a ha => ⟨h1.2.2 a ha, ((hO.each k hk).at_ ha).2⟩⟩
    · rintro j u1 ⟨h1, h2, _⟩; exact h2
    · rintro j vs hj l u1 ⟨bc, cc, rfl, hrc, hbc⟩ ⟨hJ1, hJ2, hJE, lz, hJ3, hJ4, hJ5⟩ ⟨hI1, hI2, hI3, hI4⟩
      ((conv => whnf); repeat' (first | ((with_reducible first | refine q1 ?_ | refine q2 ?_); conv => whnf) | (with_reducible refine q3 ?_) | ((with_reducible refine q4 (fun _ => ?_) (fun _ => ?_)) <;> first | (exfalso; omega) | (conv => whnf)) | ((with_reducible first | refine q5 ?_ | refine q6 ?_ | refine q7 ?_ | refine q8 ?_ | refine q9 ?_ | refine q10 ?_ | refine q11 ?_ | refine q12 ?_ | refine q13 ?_ | refine q14 ?_ | refine q15 ?_); conv => whnf) | ((refine q16 (fun _ _ _ _ _ => ?_)); conv => whnf) | ((with_reducible first | refine q17 ?_ | refine q18 ?_ | refine q19 ?_ | refine q20 ?_); conv => whnf)))
      refine ⟨rfl, KO.refl _, hJ2, fun u2 hst => ?_⟩
      have hB5a := hst.blk hJ1
      ((conv => whnf); repeat' (first | ((with_reducible first | refine q1 ?_ | refine q2 ?_); conv => whnf) | (with_reducible refine q3 ?_) | ((with_reducible refine q4 (fun _ => ?_) (fun _ => ?_)) <;> first | (exfalso; omega) | (conv => whnf)) | ((with_reducible first | refine q5 ?_ | refine q6 ?_ | refine q7 ?_ | refine q8 ?_ | refine q9 ?_ | refine q10 ?_ | refine q11 ?_ | refine q12 ?_ | refine q13 ?_ | refine q14 ?_ | refine q15 ?_); conv => whnf) | ((refine q16 (fun _ _ _ _ _ => ?_)); conv => whnf) | ((with_reducible first | refine q17 ?_ | refine q18 ?_ | refine q19 ?_ | refine q20 ?_); conv => whnf)))
      refine loop_rule Tryz.tbOk (Nat × List Lf) [38] (fun | (k, _) => [.int .i64 (k:Int)])
        (fun | (k, ls), u' => k ≤ i ∧ ls.length = i ∧ LvO u' w.heap.size (some ⟨bo, 0, none⟩) i ls ∧ Blk u' b5 [.slice (some ⟨bo, 0, none⟩) i i] 52 ∧ Row u' bc (ints (placeM (rowsOf ss) j)) ∧
          (Blk u' bS (shC s) 23 ∧ u'.cell? ⟨bD, 0, none⟩ = some (.slice base ss.length cap) ∧ Ex w u' ∧ u.heap.size ≤ u'.heap.size) ∧ KO u2 u' ∧ w5.heap.size ≤ u'.heap.size ∧
          ∀ q (hq : q < ls.length), ls[q].number = (q : Int) + 1 ∧ ls[q].words.xs = wAt (rowsOf ss) W q (if q < k then j + 1 else j) ∧ ∀ a, ls[q].words.base = some a → b5 < a.block ∧ a.block < u.heap.size) (fun | (k, _) => i - k)
        (0, lz) rfl ⟨by omega, hJ3, hJ4.st hst, hB5a, hst.row hrc, ⟨hst.blk hI1, hst.cell hI2, hI3.st hst (Nat.le_trans heu.size he5.size), Nat.le_trans hI4 hst.size⟩, KO.refl _, Nat.le_trans hJ2 hst.size, fun q hq => by simpa using hJ5 q hq⟩ ?_
      rintro ⟨k, lk⟩ u3 ⟨hk, hlk, hOk, hB5k, hrk, hIk, hKO, hsz, hallk⟩ ux
      by_cases hlt : k < i
      · have hkl : k < lk.length := by omega
        obtain ⟨hn1, hn2, hn3⟩ := hallk k hkl
        rw [if_neg (by omega)] at hn2
        have hxl : lk[k].words.xs.length = W := by rw [hn2, wAt_length _ (by omega)]
        have hOw := hOk.each k hkl
        obtain ⟨bw, hbw, hNw, hbwl⟩ := hOw.some_ (by omega)
        have hbwu : b5 < bw ∧ bw < u.heap.size := hn3 _ hbw
        have hlt5' := hB5k.lt
        have hne5 : b5 ≠ bw := by omega
        have hneo : bo ≠ bw := by
          rcases hOk.off k hkl with h1 | h1
          · rw [h1] at hbw; cases hbw
          · intro e; rw [hbw, e] at h1; simp [blkOf] at h1
        have hrow := hOk.row.row
        ((conv => whnf); repeat' (first | ((with_reducible first | refine q1 ?_ | refine q2 ?_); conv => whnf) | (with_reducible refine q3 ?_) | ((with_reducible refine q4 (fun _ => ?_) (fun _ => ?_)) <;> first | (exfalso; omega) | (conv => whnf)) | ((with_reducible first | refine q5 ?_ | refine q6 ?_ | refine q7 ?_ | refine q8 ?_ | refine q9 ?_ | refine q10 ?_ | refine q11 ?_ | refine q12 ?_ | refine q13 ?_ | refine q14 ?_ | refine q15 ?_); conv => whnf) | ((refine q16 (fun _ _ _ _ _ => ?_)); conv => whnf) | ((with_reducible first | refine q17 ?_ | refine q18 ?_ | refine q19 ?_ | refine q20 ?_); conv => whnf)))
        refine draw_rule Tryz.tbOk Tryz.mix (fun u' => u3.grownBy u' (some bw)) (.take 0 (.take 1 (.take 2 (.take 3 (.take 4 (.take 5 (.take 6 (.take 7 (.take 8 (.one 9 (.take 10 (.fin 11)))))))))))) (by kernel_rfl) (by kernel_rfl) ?_
        intro u4 hd4
        refine ⟨hd4.ex.grown _, ?_⟩
        ((conv => whnf); repeat' (first | ((with_reducible first | refine q1 ?_ | refine q2 ?_); conv => whnf) | (with_reducible refine q3 ?_) | ((with_reducible refine q4 (fun _ => ?_) (fun _ => ?_)) <;> first | (exfalso; omega) | (conv => whnf)) | ((with_reducible first | refine q5 ?_ | refine q6 ?_ | refine q7 ?_ | refine q8 ?_ | refine q9 ?_ | refine q10 ?_ | refine q11 ?_ | refine q12 ?_ | refine q13 ?_ | refine q14 ?_ | refine q15 ?_); conv => whnf) | ((refine q16 (fun _ _ _ _ _ => ?_)); conv => whnf) | ((with_reducible first | refine q17 ?_ | refine q18 ?_ | refine q19 ?_ | refine q20 ?_); conv => whnf)))
        refine IdxA.elem (sz := 2) hrow (fun _ => rfl) (by decide) hlk.symm k rfl hkl (fun bq oq hbq hcq => ?_)
        obtain ⟨rfl, rfl⟩ : bo = bq ∧ 0 = oq := by simpa using hbq
        (conv => whnf)
        refine Hold1.butc (hcq 1 _ rfl) hneo ?_
        ((conv => whnf); repeat' (first | ((with_reducible first | refine q1 ?_ | refine q2 ?_); conv => whnf) | (with_reducible refine q3 ?_) | ((with_reducible refine q4 (fun _ => ?_) (fun _ => ?_)) <;> first | (exfalso; omega) | (conv => whnf)) | ((with_reducible first | refine q5 ?_ | refine q6 ?_ | refine q7 ?_ | refine q8 ?_ | refine q9 ?_ | refine q10 ?_ | refine q11 ?_ | refine q12 ?_ | refine q13 ?_ | refine q14 ?_ | refine q15 ?_); conv => whnf) | ((refine q16 (fun _ _ _ _ _ => ?_)); conv => whnf) | ((with_reducible first | refine q17 ?_ | refine q18 ?_ | refine q19 ?_ | refine q20 ?_); conv => whnf)))
        have hrk4 := hrk.ex hd4.ex
        refine CallA.mono (Tryz.value bc cc (placeM (rowsOf ss) j) ((k : Int) + 1) u4 hrk4 (by rw [placeM, throughM_length, dotsJ_length, rowsOf_length]; omega) (throughM_isW _) (by omega)) ?_
        rintro v u5 ⟨rfl, he5'⟩
        ((conv => whnf); repeat' (first | ((with_reducible first | refine q1 ?_ | refine q2 ?_); conv => whnf) | (with_reducible refine q3 ?_) | ((with_reducible refine q4 (fun _ => ?_) (fun _ => ?_)) <;> first | (exfalso; omega) | (conv => whnf)) | ((with_reducible first | refine q5 ?_ | refine q6 ?_ | refine q7 ?_ | refine q8 ?_ | refine q9 ?_ | refine q10 ?_ | refine q11 ?_ | refine q12 ?_ | refine q13 ?_ | refine q14 ?_ | refine q15 ?_); conv => whnf) | ((refine q16 (fun _ _ _ _ _ => ?_)); conv => whnf) | ((with_reducible first | refine q17 ?_ | refine q18 ?_ | refine q19 ?_ | refine q20 ?_); conv => whnf)))
        refine ⟨(hd4.ex.tr he5').grown _, ?_⟩
        have hO5 := hOk.ex (hd4.ex.tr he5')
        have hOw5 := hO5.each k hkl
        ((conv => whnf); repeat' (first | ((with_reducible first | refine q1 ?_ | refine q2 ?_); conv => whnf) | (with_reducible refine q3 ?_) | ((with_reducible refine q4 (fun _ => ?_) (fun _ => ?_)) <;> first | (exfalso; omega) | (conv => whnf)) | ((with_reducible first | refine q5 ?_ | refine q6 ?_ | refine q7 ?_ | refine q8 ?_ | refine q9 ?_ | refine q10 ?_ | refine q11 ?_ | refine q12 ?_ | refine q13 ?_ | refine q14 ?_ | refine q15 ?_); conv => whnf) | ((refine q16 (fun _ _ _ _ _ => ?_)); conv => whnf) | ((with_reducible first | refine q17 ?_ | refine q18 ?_ | refine q19 ?_ | refine q20 ?_); conv => whnf)))
        refine IdxA.own1 hOw5 j rfl (by omega) fun bq hbq _ => ?_
        obtain rfl : bw = bq := by rw [hbw] at hbq; simpa using hbq
        ((conv => whnf); repeat' (first | ((with_reducible first | refine q1 ?_ | refine q2 ?_); conv => whnf) | (with_reducible refine q3 ?_) | ((with_reducible refine q4 (fun _ => ?_) (fun _ => ?_)) <;> first | (exfalso; omega) | (conv => whnf)) | ((with_reducible first | refine q5 ?_ | refine q6 ?_ | refine q7 ?_ | refine q8 ?_ | refine q9 ?_ | refine q10 ?_ | refine q11 ?_ | refine q12 ?_ | refine q13 ?_ | refine q14 ?_ | refine q15 ?_); conv => whnf) | ((refine q16 (fun _ _ _ _ _ => ?_)); conv => whnf) | ((with_reducible first | refine q17 ?_ | refine q18 ?_ | refine q19 ?_ | refine q20 ?_); conv => whnf)))
        refine StoreA.own1 hOw5 hbw (by omega) rfl fun u6 hu6 ho6 => ?_
        rw [ints_set] at ho6
        have hO6 := hO5.word hkl hbw (by simp) hu6 ho6
        ((conv => whnf); repeat' (first | ((with_reducible first | refine q1 ?_ | refine q2 ?_); conv => whnf) | (with_reducible refine q3 ?_) | ((with_reducible refine q4 (fun _ => ?_) (fun _ => ?_)) <;> first | (exfalso; omega) | (conv => whnf)) | ((with_reducible first | refine q5 ?_ | refine q6 ?_ | refine q7 ?_ | refine q8 ?_ | refine q9 ?_ | refine q10 ?_ | refine q11 ?_ | refine q12 ?_ | refine q13 ?_ | refine q14 ?_ | refine q15 ?_); conv => whnf) | ((refine q16 (fun _ _ _ _ _ => ?_)); conv => whnf) | ((with_reducible first | refine q17 ?_ | refine q18 ?_ | refine q19 ?_ | refine q20 ?_); conv => whnf)))
        have hx5 := hd4.ex.tr he5'
        have hbDlt := World.block_lt_of_cell? _ _ hIk.2.1
        have hnS : bS ≠ bw := by omega
        have hnD : bD ≠ bw := by omega
        have hz5 := hx5.size
        have hz6 := hu6.size
        have hEw : Ex w u6 := (hIk.2.2.1.tr hx5).upd hu6 (by omega)
        refine ⟨(k + 1, lk.set k { lk[k] with words := { lk[k].words with xs := lk[k].words.xs.set j (valM (placeM (rowsOf ss) j) ((k : Int) + 1)) } }), rfl, ⟨by omega, by simp [hlk], hO6, hu6.blk (hB5k.ex hx5) hne5, (hrk.ex hx5).upd hu6 (fun a ha => by have := hbc a ha; omega),
          ⟨hu6.blk (hIk.1.ex hx5) hnS, ?_, hEw, by omega⟩, hKO.trans ((KO.ex hx5).trans (KO.put hu6 (hOw5.cm hbw))), by omega, ?_⟩, by simp only []; omega⟩
        · rw [World.cell?_of_block (a := ⟨bD, 0, none⟩) (hu6.other bD hnD)]; exact hx5.cell hIk.2.1
        · intro q hq
          have hq' : q < lk.length := by simpa using hq
          rw [List.getElem_set]
          by_cases hkq : k = q
          · subst hkq
            simp only [if_pos, Nat.lt_succ_self]
            refine ⟨hn1, ?_, hn3⟩
            rw [hn2]; exact wAt_next (by omega)
          · have := hallk q hq'
            simp only [if_neg hkq]
            by_cases h1 : q < k
            · rw [if_pos h1] at this; rw [if_pos (by omega)]; exact this
            · rw [if_neg h1] at this; rw [if_neg (by omega)]; exact this
      · have : k = i := by omega
        subst this
        ((conv => whnf); repeat' (first | ((with_reducible first | refine q1 ?_ | refine q2 ?_); conv => whnf) | (with_reducible refine q3 ?_) | ((with_reducible refine q4 (fun _ => ?_) (fun _ => ?_)) <;> first | (exfalso; omega) | (conv => whnf)) | ((with_reducible first | refine q5 ?_ | refine q6 ?_ | refine q7 ?_ | refine q8 ?_ | refine q9 ?_ | refine q10 ?_ | refine q11 ?_ | refine q12 ?_ | refine q13 ?_ | refine q14 ?_ | refine q15 ?_); conv => whnf) | ((refine q16 (fun _ _ _ _ _ => ?_)); conv => whnf) | ((with_reducible first | refine q17 ?_ | refine q18 ?_ | refine q19 ?_ | refine q20 ?_); conv => whnf)))
        refine ⟨hKO, ⟨hB5k, hsz, hIk.2.2.1, lk, hlk, hOk, fun q hq => ?_⟩, hIk⟩
        have := hallk q hq
        rw [if_pos (by omega)] at this
        exact this
    · rintro r u1 ⟨hJ1, hJ2, hJE, lz, hJ3, hJ4, hJ5⟩ hr1 hr2
      ((conv => whnf); repeat' (first | ((with_reducible first | refine q1 ?_ | refine q2 ?_); conv => whnf) | (with_reducible refine q3 ?_) | ((with_reducible refine q4 (fun _ => ?_) (fun _ => ?_)) <;> first | (exfalso; omega) | (conv => whnf)) | ((with_reducible first | refine q5 ?_ | refine q6 ?_ | refine q7 ?_ | refine q8 ?_ | refine q9 ?_ | refine q10 ?_ | refine q11 ?_ | refine q12 ?_ | refine q13 ?_ | refine q14 ?_ | refine q15 ?_); conv => whnf) | ((refine q16 (fun _ _ _ _ _ => ?_)); conv => whnf) | ((with_reducible first | refine q17 ?_ | refine q18 ?_ | refine q19 ?_ | refine q20 ?_); conv => whnf)))
      refine TakeA.mk' hr2 hr1 fun u' hst => ?_
      ((conv => whnf); repeat' (first | ((with_reducible first | refine q1 ?_ | refine q2 ?_); conv => whnf) | (with_reducible refine q3 ?_) | ((with_reducible refine q4 (fun _ => ?_) (fun _ => ?_)) <;> first | (exfalso; omega) | (conv => whnf)) | ((with_reducible first | refine q5 ?_ | refine q6 ?_ | refine q7 ?_ | refine q8 ?_ | refine q9 ?_ | refine q10 ?_ | refine q11 ?_ | refine q12 ?_ | refine q13 ?_ | refine q14 ?_ | refine q15 ?_); conv => whnf) | ((refine q16 (fun _ _ _ _ _ => ?_)); conv => whnf) | ((with_reducible first | refine q17 ?_ | refine q18 ?_ | refine q19 ?_ | refine q20 ?_); conv => whnf)))
      have hm : lz.map Lf.m = wholeM s (rowsOf ss) := by
        have hnn : (s.data + s.checks).toNat = i := by omega
        have hWW : s.width.toNat = W := by omega
        apply List.ext_getElem
        · simp [wholeM, hnn, hJ3]
        intro k h1 h2
        have hk : k < lz.length := by simpa using h1
        obtain ⟨e1, e2, _⟩ := hJ5 k hk
        rw [List.getElem_map, Lf.m, e1, e2, hWW]
        simp only [wholeM, List.getElem_map, List.getElem_range, hWW]
        congr 1
        unfold wAt
        rw [List.take_of_length_le (by simp [wordsAt]), Nat.sub_self]; simp
      refine ⟨some ⟨bo, 0, none⟩, i, lz, ?_, hJ4.st hst, hm, ?_⟩
      · rw [← hm, List.length_map, hJ3]
      · exact hJE.st hst (Nat.le_trans heu.size he5.size)
end Go.Proofs
