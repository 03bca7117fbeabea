/-
  L33: a part of the proof. By an AI agent.
-/
import Derived.Test.YtpeihahmhpamoaaGreatVQ
import Derived.Test.YtpeihahmhpamoaaGreatV10
import Derived.Test.YtpeihahmhpamoaaGreatL32
set_option linter.all false
namespace Go.Proofs
open Go.V
open Go.RowKit (Below)
theorem lf4 {ls : List Lf} (h : ls.map Lf.m = [(1, [5]), (2, [8]), (3, [11]), (4, [14])]) : ∃ b1 c1 b2 c2 b3 c3 b4 c4, ls = [⟨1, ⟨b1, c1, [5]⟩⟩, ⟨2, ⟨b2, c2, [8]⟩⟩, ⟨3, ⟨b3, c3, [11]⟩⟩, ⟨4, ⟨b4, c4, [14]⟩⟩] := by
  match ls, h with
  | [⟨n1, ⟨b1, c1, x1⟩⟩, ⟨n2, ⟨b2, c2, x2⟩⟩, ⟨n3, ⟨b3, c3, x3⟩⟩, ⟨n4, ⟨b4, c4, x4⟩⟩], h =>
    simp only [List.map_cons, List.map_nil, Lf.m, List.cons.injEq, Prod.mk.injEq, and_true] at h
    obtain ⟨⟨rfl, rfl⟩, ⟨rfl, rfl⟩, ⟨rfl, rfl⟩, rfl, rfl⟩ := h
    exact ⟨b1, c1, b2, c2, b3, c3, b4, c4, rfl⟩
theorem intsRow {w : World} {b : Nat} {xs : List Int} (h : Blk w b (ints xs) 3) : Row w (some ⟨b, 0, none⟩) (ints xs) := h.row
theorem LvO.at_ {w : World} {N g cap : Nat} {ls : List Lf} (h : LvO w N (some ⟨g, 0, none⟩) cap ls) {j : Nat} {u : Value} (hj : (rowC lfC ls)[j]? = some u) : w.cell? ⟨g, j, none⟩ = some u := by
  obtain ⟨b, o, hb, hc⟩ := h.row.row.at_ (by intro e; rw [e] at hj; simp at hj)
  cases hb
  have := hc j u hj
  rwa [Nat.zero_add] at this
theorem HoldN.blk {P : Program} {w : World} {b n : Nat} {cs : List Value} {T : TypeId} {K : List Value → Prop} (h : Blk w b cs T) (hl : cs.length = n) (hk : K cs) : HoldN P (fun u => Ex w u) ⟨b, 0, none⟩ n K :=
  HoldN.mk' (w := w) (vs := cs) hl (fun j u hj => by rw [Nat.zero_add]; exact h.cell' hj) (fun _ h => h) hk
set_option maxRecDepth 8000 in
set_option maxHeartbeats 4000000 in
theorem Tryz.head (w : World) : CallA Tryz.prog 6 [] w fun v w' => v = .bool true ∧ Ex w w' := by
  refine callA_intro Tryz.tbOk Tryz.func6 rfl Tryz.ntmps6 Tryz.results6 (by decide) (by simp) ?_
  ((conv => whnf); repeat' (first | ((with_reducible first | refine q1 ?_ | refine q2 ?_); conv => whnf) | (with_reducible refine q3 ?_) | ((with_reducible refine q4 (fun _ => ?_) (fun _ => ?_)) <;> first | (exfalso; omega) | (conv => whnf)) | ((with_reducible first | refine q5 ?_ | refine q6 ?_ | refine q7 ?_ | refine q8 ?_ | refine q9 ?_ | refine q10 ?_ | refine q11 ?_ | refine q12 ?_ | refine q13 ?_ | refine q14 ?_ | refine q15 ?_); conv => whnf) | ((refine q16 (fun _ _ _ _ _ => ?_)); conv => whnf) | ((with_reducible first | refine q17 ?_ | refine q18 ?_ | refine q19 ?_ | refine q20 ?_); conv => whnf)))
  refine CallA.mono (Tryz.small w) ?_
  rintro v w1 ⟨rfl, he1⟩
  unfold shV
  ((conv => whnf); repeat' (first | ((with_reducible first | refine q1 ?_ | refine q2 ?_); conv => whnf) | (with_reducible refine q3 ?_) | ((with_reducible refine q4 (fun _ => ?_) (fun _ => ?_)) <;> first | (exfalso; omega) | (conv => whnf)) | ((with_reducible first | refine q5 ?_ | refine q6 ?_ | refine q7 ?_ | refine q8 ?_ | refine q9 ?_ | refine q10 ?_ | refine q11 ?_ | refine q12 ?_ | refine q13 ?_ | refine q14 ?_ | refine q15 ?_); conv => whnf) | ((refine q16 (fun _ _ _ _ _ => ?_)); conv => whnf) | ((with_reducible first | refine q17 ?_ | refine q18 ?_ | refine q19 ?_ | refine q20 ?_); conv => whnf)))
  refine NewA.mk' fun w2 bs hbs hss he2 hBs => ?_
  ((conv => whnf); repeat' (first | ((with_reducible first | refine q1 ?_ | refine q2 ?_); conv => whnf) | (with_reducible refine q3 ?_) | ((with_reducible refine q4 (fun _ => ?_) (fun _ => ?_)) <;> first | (exfalso; omega) | (conv => whnf)) | ((with_reducible first | refine q5 ?_ | refine q6 ?_ | refine q7 ?_ | refine q8 ?_ | refine q9 ?_ | refine q10 ?_ | refine q11 ?_ | refine q12 ?_ | refine q13 ?_ | refine q14 ?_ | refine q15 ?_); conv => whnf) | ((refine q16 (fun _ _ _ _ _ => ?_)); conv => whnf) | ((with_reducible first | refine q17 ?_ | refine q18 ?_ | refine q19 ?_ | refine q20 ?_); conv => whnf)))
  refine StoreA.var hBs rfl rfl rfl fun w3 hu3 hB3 => ?_
  have hB3 : Blk w3 bs (shC shH) 23 := hB3
  have he3 : Ex w w3 := he1.tr (he2.upd hu3 (by omega))
  ((conv => whnf); repeat' (first | ((with_reducible first | refine q1 ?_ | refine q2 ?_); conv => whnf) | (with_reducible refine q3 ?_) | ((with_reducible refine q4 (fun _ => ?_) (fun _ => ?_)) <;> first | (exfalso; omega) | (conv => whnf)) | ((with_reducible first | refine q5 ?_ | refine q6 ?_ | refine q7 ?_ | refine q8 ?_ | refine q9 ?_ | refine q10 ?_ | refine q11 ?_ | refine q12 ?_ | refine q13 ?_ | refine q14 ?_ | refine q15 ?_); conv => whnf) | ((refine q16 (fun _ _ _ _ _ => ?_)); conv => whnf) | ((with_reducible first | refine q17 ?_ | refine q18 ?_ | refine q19 ?_ | refine q20 ?_); conv => whnf)))
  refine CallA.mono (Tryz.Inverse 2 w3) ?_
  rintro v w4 ⟨rfl, he4⟩
  rw [if_pos (by decide), inv2]
  ((conv => whnf); repeat' (first | ((with_reducible first | refine q1 ?_ | refine q2 ?_); conv => whnf) | (with_reducible refine q3 ?_) | ((with_reducible refine q4 (fun _ => ?_) (fun _ => ?_)) <;> first | (exfalso; omega) | (conv => whnf)) | ((with_reducible first | refine q5 ?_ | refine q6 ?_ | refine q7 ?_ | refine q8 ?_ | refine q9 ?_ | refine q10 ?_ | refine q11 ?_ | refine q12 ?_ | refine q13 ?_ | refine q14 ?_ | refine q15 ?_); conv => whnf) | ((refine q16 (fun _ _ _ _ _ => ?_)); conv => whnf) | ((with_reducible first | refine q17 ?_ | refine q18 ?_ | refine q19 ?_ | refine q20 ?_); conv => whnf)))
  refine NewS.mk' (cs := ints [1, 2, 3]) fun w5 b5 hb5 hs5 he5 hB5 => ?_
  ((conv => whnf); repeat' (first | ((with_reducible first | refine q1 ?_ | refine q2 ?_); conv => whnf) | (with_reducible refine q3 ?_) | ((with_reducible refine q4 (fun _ => ?_) (fun _ => ?_)) <;> first | (exfalso; omega) | (conv => whnf)) | ((with_reducible first | refine q5 ?_ | refine q6 ?_ | refine q7 ?_ | refine q8 ?_ | refine q9 ?_ | refine q10 ?_ | refine q11 ?_ | refine q12 ?_ | refine q13 ?_ | refine q14 ?_ | refine q15 ?_); conv => whnf) | ((refine q16 (fun _ _ _ _ _ => ?_)); conv => whnf) | ((with_reducible first | refine q17 ?_ | refine q18 ?_ | refine q19 ?_ | refine q20 ?_); conv => whnf)))
  refine CallA.mono (Tryz.ValueF (some ⟨b5, 0, none⟩) 3 [1, 2, 3] 10 w5 (intsRow hB5) (by decide)) ?_
  rintro v w6 ⟨rfl, he6⟩
  rw [if_neg (by decide), if_pos (by decide), val1]
  ((conv => whnf); repeat' (first | ((with_reducible first | refine q1 ?_ | refine q2 ?_); conv => whnf) | (with_reducible refine q3 ?_) | ((with_reducible refine q4 (fun _ => ?_) (fun _ => ?_)) <;> first | (exfalso; omega) | (conv => whnf)) | ((with_reducible first | refine q5 ?_ | refine q6 ?_ | refine q7 ?_ | refine q8 ?_ | refine q9 ?_ | refine q10 ?_ | refine q11 ?_ | refine q12 ?_ | refine q13 ?_ | refine q14 ?_ | refine q15 ?_); conv => whnf) | ((refine q16 (fun _ _ _ _ _ => ?_)); conv => whnf) | ((with_reducible first | refine q17 ?_ | refine q18 ?_ | refine q19 ?_ | refine q20 ?_); conv => whnf)))
  refine NewS.mk' (cs := rowC dotC [(1, 5), (2, 8)]) fun w7 b7 hb7 hs7 he7 hB7 => ?_
  ((conv => whnf); repeat' (first | ((with_reducible first | refine q1 ?_ | refine q2 ?_); conv => whnf) | (with_reducible refine q3 ?_) | ((with_reducible refine q4 (fun _ => ?_) (fun _ => ?_)) <;> first | (exfalso; omega) | (conv => whnf)) | ((with_reducible first | refine q5 ?_ | refine q6 ?_ | refine q7 ?_ | refine q8 ?_ | refine q9 ?_ | refine q10 ?_ | refine q11 ?_ | refine q12 ?_ | refine q13 ?_ | refine q14 ?_ | refine q15 ?_); conv => whnf) | ((refine q16 (fun _ _ _ _ _ => ?_)); conv => whnf) | ((with_reducible first | refine q17 ?_ | refine q18 ?_ | refine q19 ?_ | refine q20 ?_); conv => whnf)))
  refine CallA.mono (Tryz.ThroughF (some ⟨b7, 0, none⟩) 2 [(1, 5), (2, 8)] w7 hB7.row (by decide) (by decide)) ?_
  rintro v w8 ⟨bc, cc, rfl, hoc, he8⟩
  rw [thr1] at hoc ⊢
  have he38 := ((((he4.tr he5).tr he6).tr he7).tr he8)
  have hBs8 := hB3.ex he38
  have hew8 := he3.tr he38
  ((conv => whnf); repeat' (first | ((with_reducible first | refine q1 ?_ | refine q2 ?_); conv => whnf) | (with_reducible refine q3 ?_) | ((with_reducible refine q4 (fun _ => ?_) (fun _ => ?_)) <;> first | (exfalso; omega) | (conv => whnf)) | ((with_reducible first | refine q5 ?_ | refine q6 ?_ | refine q7 ?_ | refine q8 ?_ | refine q9 ?_ | refine q10 ?_ | refine q11 ?_ | refine q12 ?_ | refine q13 ?_ | refine q14 ?_ | refine q15 ?_); conv => whnf) | ((refine q16 (fun _ _ _ _ _ => ?_)); conv => whnf) | ((with_reducible first | refine q17 ?_ | refine q18 ?_ | refine q19 ?_ | refine q20 ?_); conv => whnf)))
  refine NewS.mk' (cs := ints [5]) fun w9 b9 hb9 hs9 he9 hB9 => ?_
  ((conv => whnf); repeat' (first | ((with_reducible first | refine q1 ?_ | refine q2 ?_); conv => whnf) | (with_reducible refine q3 ?_) | ((with_reducible refine q4 (fun _ => ?_) (fun _ => ?_)) <;> first | (exfalso; omega) | (conv => whnf)) | ((with_reducible first | refine q5 ?_ | refine q6 ?_ | refine q7 ?_ | refine q8 ?_ | refine q9 ?_ | refine q10 ?_ | refine q11 ?_ | refine q12 ?_ | refine q13 ?_ | refine q14 ?_ | refine q15 ?_); conv => whnf) | ((refine q16 (fun _ _ _ _ _ => ?_)); conv => whnf) | ((with_reducible first | refine q17 ?_ | refine q18 ?_ | refine q19 ?_ | refine q20 ?_); conv => whnf)))
  refine NewS.mk' (cs := ints [8]) fun w10 b10 hb10 hs10 he10 hB10 => ?_
  ((conv => whnf); repeat' (first | ((with_reducible first | refine q1 ?_ | refine q2 ?_); conv => whnf) | (with_reducible refine q3 ?_) | ((with_reducible refine q4 (fun _ => ?_) (fun _ => ?_)) <;> first | (exfalso; omega) | (conv => whnf)) | ((with_reducible first | refine q5 ?_ | refine q6 ?_ | refine q7 ?_ | refine q8 ?_ | refine q9 ?_ | refine q10 ?_ | refine q11 ?_ | refine q12 ?_ | refine q13 ?_ | refine q14 ?_ | refine q15 ?_); conv => whnf) | ((refine q16 (fun _ _ _ _ _ => ?_)); conv => whnf) | ((with_reducible first | refine q17 ?_ | refine q18 ?_ | refine q19 ?_ | refine q20 ?_); conv => whnf)))
  refine NewS.mk' (cs := rowC slC [⟨some ⟨b9, 0, none⟩, 1, [5]⟩, ⟨some ⟨b10, 0, none⟩, 1, [8]⟩]) fun w11 b11 hb11 hs11 he11 hB11 => ?_
  ((conv => whnf); repeat' (first | ((with_reducible first | refine q1 ?_ | refine q2 ?_); conv => whnf) | (with_reducible refine q3 ?_) | ((with_reducible refine q4 (fun _ => ?_) (fun _ => ?_)) <;> first | (exfalso; omega) | (conv => whnf)) | ((with_reducible first | refine q5 ?_ | refine q6 ?_ | refine q7 ?_ | refine q8 ?_ | refine q9 ?_ | refine q10 ?_ | refine q11 ?_ | refine q12 ?_ | refine q13 ?_ | refine q14 ?_ | refine q15 ?_); conv => whnf) | ((refine q16 (fun _ _ _ _ _ => ?_)); conv => whnf) | ((with_reducible first | refine q17 ?_ | refine q18 ?_ | refine q19 ?_ | refine q20 ?_); conv => whnf)))
  have hS11 : Sls w11 (some ⟨b11, 0, none⟩) [⟨some ⟨b9, 0, none⟩, 1, [5]⟩, ⟨some ⟨b10, 0, none⟩, 1, [8]⟩] := ⟨hB11.row, by simp, by
    intro s hs
    rcases List.mem_cons.1 hs with rfl | hs
    · exact ⟨((intsRow hB9).ex he10).ex he11, by simp⟩
    · rw [List.mem_singleton] at hs; subst hs
      exact ⟨(intsRow hB10).ex he11, by simp⟩⟩
  refine CallA.mono (Tryz.Whole shH (some ⟨b11, 0, none⟩) 2 _ w11 hS11) ?_
  rintro v w12 ⟨bl, cl, ls, rfl, hL, hm, he12⟩
  rw [show WholeM shH (rowsOf [⟨some ⟨b9, 0, none⟩, 1, [5]⟩, ⟨some ⟨b10, 0, none⟩, 1, [8]⟩]) = ([(1, [5]), (2, [8]), (3, [11]), (4, [14])], 0) from who1] at hm ⊢
  have he812 := ((he9.tr he10).tr he11).tr he12
  have hBs12 := hBs8.ex he812
  have hew12 := hew8.tr he812
  have hoc12 := hoc.ex he812
  obtain ⟨p1, c1, p2, c2, p3, c3, p4, c4, rfl⟩ := lf4 hm
  ((conv => whnf); repeat' (first | ((with_reducible first | refine q1 ?_ | refine q2 ?_); conv => whnf) | (with_reducible refine q3 ?_) | ((with_reducible refine q4 (fun _ => ?_) (fun _ => ?_)) <;> first | (exfalso; omega) | (conv => whnf)) | ((with_reducible first | refine q5 ?_ | refine q6 ?_ | refine q7 ?_ | refine q8 ?_ | refine q9 ?_ | refine q10 ?_ | refine q11 ?_ | refine q12 ?_ | refine q13 ?_ | refine q14 ?_ | refine q15 ?_); conv => whnf) | ((refine q16 (fun _ _ _ _ _ => ?_)); conv => whnf) | ((with_reducible first | refine q17 ?_ | refine q18 ?_ | refine q19 ?_ | refine q20 ?_); conv => whnf)))
  · rename_i hx; exact (hx rfl).elim
  refine NewS.mk' (cs := ints [2, 3]) fun w13 b13 hb13 hs13 he13 hB13 => ?_
  ((conv => whnf); repeat' (first | ((with_reducible first | refine q1 ?_ | refine q2 ?_); conv => whnf) | (with_reducible refine q3 ?_) | ((with_reducible refine q4 (fun _ => ?_) (fun _ => ?_)) <;> first | (exfalso; omega) | (conv => whnf)) | ((with_reducible first | refine q5 ?_ | refine q6 ?_ | refine q7 ?_ | refine q8 ?_ | refine q9 ?_ | refine q10 ?_ | refine q11 ?_ | refine q12 ?_ | refine q13 ?_ | refine q14 ?_ | refine q15 ?_); conv => whnf) | ((refine q16 (fun _ _ _ _ _ => ?_)); conv => whnf) | ((with_reducible first | refine q17 ?_ | refine q18 ?_ | refine q19 ?_ | refine q20 ?_); conv => whnf)))
  refine CallA.mono (Tryz.sameInts bc (some ⟨b13, 0, none⟩) cc 2 [2, 3] [2, 3] w13 (hoc12.ex he13).row (intsRow hB13) (by decide)) ?_
  rintro v w14 ⟨rfl, he14⟩
  rw [show decide (([2, 3] : List Int) = [2, 3]) = true from rfl]
  have he24 := he13.tr he14
  have hL14 := hL.ex he24
  obtain ⟨bb, rfl, hbbN, hbbs⟩ := hL14.row.some_ (by simp)
  ((conv => whnf); repeat' (first | ((with_reducible first | refine q1 ?_ | refine q2 ?_); conv => whnf) | (with_reducible refine q3 ?_) | ((with_reducible refine q4 (fun _ => ?_) (fun _ => ?_)) <;> first | (exfalso; omega) | (conv => whnf)) | ((with_reducible first | refine q5 ?_ | refine q6 ?_ | refine q7 ?_ | refine q8 ?_ | refine q9 ?_ | refine q10 ?_ | refine q11 ?_ | refine q12 ?_ | refine q13 ?_ | refine q14 ?_ | refine q15 ?_); conv => whnf) | ((refine q16 (fun _ _ _ _ _ => ?_)); conv => whnf) | ((with_reducible first | refine q17 ?_ | refine q18 ?_ | refine q19 ?_ | refine q20 ?_); conv => whnf)))
  refine Load1.mk' (hL14.at_ (j := 5) rfl) ?_
  ((conv => whnf); repeat' (first | ((with_reducible first | refine q1 ?_ | refine q2 ?_); conv => whnf) | (with_reducible refine q3 ?_) | ((with_reducible refine q4 (fun _ => ?_) (fun _ => ?_)) <;> first | (exfalso; omega) | (conv => whnf)) | ((with_reducible first | refine q5 ?_ | refine q6 ?_ | refine q7 ?_ | refine q8 ?_ | refine q9 ?_ | refine q10 ?_ | refine q11 ?_ | refine q12 ?_ | refine q13 ?_ | refine q14 ?_ | refine q15 ?_); conv => whnf) | ((refine q16 (fun _ _ _ _ _ => ?_)); conv => whnf) | ((with_reducible first | refine q17 ?_ | refine q18 ?_ | refine q19 ?_ | refine q20 ?_); conv => whnf)))
  refine NewS.mk' (cs := ints [11]) fun w15 b15 hb15 hs15 he15 hB15 => ?_
  ((conv => whnf); repeat' (first | ((with_reducible first | refine q1 ?_ | refine q2 ?_); conv => whnf) | (with_reducible refine q3 ?_) | ((with_reducible refine q4 (fun _ => ?_) (fun _ => ?_)) <;> first | (exfalso; omega) | (conv => whnf)) | ((with_reducible first | refine q5 ?_ | refine q6 ?_ | refine q7 ?_ | refine q8 ?_ | refine q9 ?_ | refine q10 ?_ | refine q11 ?_ | refine q12 ?_ | refine q13 ?_ | refine q14 ?_ | refine q15 ?_); conv => whnf) | ((refine q16 (fun _ _ _ _ _ => ?_)); conv => whnf) | ((with_reducible first | refine q17 ?_ | refine q18 ?_ | refine q19 ?_ | refine q20 ?_); conv => whnf)))
  refine CallA.mono (Tryz.sameInts p3 (some ⟨b15, 0, none⟩) c3 1 [11] [11] w15 ((hL14.ex he15).each 2 (by simp)).row (intsRow hB15) (by decide)) ?_
  rintro v w16 ⟨rfl, he16⟩
  rw [show decide (([11] : List Int) = [11]) = true from rfl]
  have he46 := he15.tr he16
  have hL16 := hL14.ex he46
  ((conv => whnf); repeat' (first | ((with_reducible first | refine q1 ?_ | refine q2 ?_); conv => whnf) | (with_reducible refine q3 ?_) | ((with_reducible refine q4 (fun _ => ?_) (fun _ => ?_)) <;> first | (exfalso; omega) | (conv => whnf)) | ((with_reducible first | refine q5 ?_ | refine q6 ?_ | refine q7 ?_ | refine q8 ?_ | refine q9 ?_ | refine q10 ?_ | refine q11 ?_ | refine q12 ?_ | refine q13 ?_ | refine q14 ?_ | refine q15 ?_); conv => whnf) | ((refine q16 (fun _ _ _ _ _ => ?_)); conv => whnf) | ((with_reducible first | refine q17 ?_ | refine q18 ?_ | refine q19 ?_ | refine q20 ?_); conv => whnf)))
  refine Load1.mk' (hL16.at_ (j := 7) rfl) ?_
  ((conv => whnf); repeat' (first | ((with_reducible first | refine q1 ?_ | refine q2 ?_); conv => whnf) | (with_reducible refine q3 ?_) | ((with_reducible refine q4 (fun _ => ?_) (fun _ => ?_)) <;> first | (exfalso; omega) | (conv => whnf)) | ((with_reducible first | refine q5 ?_ | refine q6 ?_ | refine q7 ?_ | refine q8 ?_ | refine q9 ?_ | refine q10 ?_ | refine q11 ?_ | refine q12 ?_ | refine q13 ?_ | refine q14 ?_ | refine q15 ?_); conv => whnf) | ((refine q16 (fun _ _ _ _ _ => ?_)); conv => whnf) | ((with_reducible first | refine q17 ?_ | refine q18 ?_ | refine q19 ?_ | refine q20 ?_); conv => whnf)))
  refine NewS.mk' (cs := ints [14]) fun w17 b17 hb17 hs17 he17 hB17 => ?_
  ((conv => whnf); repeat' (first | ((with_reducible first | refine q1 ?_ | refine q2 ?_); conv => whnf) | (with_reducible refine q3 ?_) | ((with_reducible refine q4 (fun _ => ?_) (fun _ => ?_)) <;> first | (exfalso; omega) | (conv => whnf)) | ((with_reducible first | refine q5 ?_ | refine q6 ?_ | refine q7 ?_ | refine q8 ?_ | refine q9 ?_ | refine q10 ?_ | refine q11 ?_ | refine q12 ?_ | refine q13 ?_ | refine q14 ?_ | refine q15 ?_); conv => whnf) | ((refine q16 (fun _ _ _ _ _ => ?_)); conv => whnf) | ((with_reducible first | refine q17 ?_ | refine q18 ?_ | refine q19 ?_ | refine q20 ?_); conv => whnf)))
  refine CallA.mono (Tryz.sameInts p4 (some ⟨b17, 0, none⟩) c4 1 [14] [14] w17 ((hL16.ex he17).each 3 (by simp)).row (intsRow hB17) (by decide)) ?_
  rintro v w18 ⟨rfl, he18⟩
  rw [show decide (([14] : List Int) = [14]) = true from rfl]
  have he68 := he17.tr he18
  have hL18 := hL16.ex he68
  have he1218 := (he24.tr he46).tr he68
  have hBs18 := hBs12.ex he1218
  have hew18 := hew12.tr he1218
  ((conv => whnf); repeat' (first | ((with_reducible first | refine q1 ?_ | refine q2 ?_); conv => whnf) | (with_reducible refine q3 ?_) | ((with_reducible refine q4 (fun _ => ?_) (fun _ => ?_)) <;> first | (exfalso; omega) | (conv => whnf)) | ((with_reducible first | refine q5 ?_ | refine q6 ?_ | refine q7 ?_ | refine q8 ?_ | refine q9 ?_ | refine q10 ?_ | refine q11 ?_ | refine q12 ?_ | refine q13 ?_ | refine q14 ?_ | refine q15 ?_); conv => whnf) | ((refine q16 (fun _ _ _ _ _ => ?_)); conv => whnf) | ((with_reducible first | refine q17 ?_ | refine q18 ?_ | refine q19 ?_ | refine q20 ?_); conv => whnf)))
  refine draw_rule Tryz.tbOk Tryz.mix (fun u => Ex w18 u) (.take 0 (.take 1 (.take 2 (.two 3 (.take 4 (.take 5 (.take 6 (.one 7 (.one 8 (.take 9 (.done))))))) 7 (.one 3 (.take 4 (.take 5 (.take 6 (.one 8 (.take 9 (.done))))))))))) (by kernel_rfl) (by kernel_rfl) ?_
  intro w19 hd19
  refine ⟨hd19.ex, ?_⟩
  ((conv => whnf); repeat' (first | ((with_reducible first | refine q1 ?_ | refine q2 ?_); conv => whnf) | (with_reducible refine q3 ?_) | ((with_reducible refine q4 (fun _ => ?_) (fun _ => ?_)) <;> first | (exfalso; omega) | (conv => whnf)) | ((with_reducible first | refine q5 ?_ | refine q6 ?_ | refine q7 ?_ | refine q8 ?_ | refine q9 ?_ | refine q10 ?_ | refine q11 ?_ | refine q12 ?_ | refine q13 ?_ | refine q14 ?_ | refine q15 ?_); conv => whnf) | ((refine q16 (fun _ _ _ _ _ => ?_)); conv => whnf) | ((with_reducible first | refine q17 ?_ | refine q18 ?_ | refine q19 ?_ | refine q20 ?_); conv => whnf)))
  have hBs19 := hBs18.ex hd19.ex
  refine HoldN.blk hBs18 rfl ?_
  have hcl4 : 4 ≤ cl := by have := hL18.row.le; simpa using this
  ((conv => whnf); repeat' (first | ((with_reducible first | refine q1 ?_ | refine q2 ?_); conv => whnf) | (with_reducible refine q3 ?_) | ((with_reducible refine q4 (fun _ => ?_) (fun _ => ?_)) <;> first | (exfalso; omega) | (conv => whnf)) | ((with_reducible first | refine q5 ?_ | refine q6 ?_ | refine q7 ?_ | refine q8 ?_ | refine q9 ?_ | refine q10 ?_ | refine q11 ?_ | refine q12 ?_ | refine q13 ?_ | refine q14 ?_ | refine q15 ?_); conv => whnf) | ((refine q16 (fun _ _ _ _ _ => ?_)); conv => whnf) | ((with_reducible first | refine q17 ?_ | refine q18 ?_ | refine q19 ?_ | refine q20 ?_); conv => whnf)))
  refine HoldV.slice (e := 59) (sz := 2) (by_ := 32) (z := some (.agg #[.int .i64 0, .slice none 0 0])) Tryz.tbOk rfl 2 4 cl (.inl rfl) (.inr ⟨rfl, rfl⟩) (.inr ⟨rfl, rfl⟩) (fun _ => rfl) (by decide) hcl4 (Nat.le_refl _) ?_
  have hm34 : ∀ w, Ex w18 w → CallA Tryz.prog 34 [shV shH, .slice (baseAt (some ⟨bb, 0, none⟩) 2 cl 2) (4 - 2) (cl - 2)] w (RetMd w ([[5], [8]], [], 0)) := by
    intro w hw
    have hLw := hL18.ex hw
    have hrs := hLw.row.row.sub (l := 2) (hh := 4) (m := cl) (sz := 2) (by decide) hcl4
    have hlv : Lvs w (baseAt (some ⟨bb, 0, none⟩) 2 cl 2) [⟨3, ⟨p3, c3, [11]⟩⟩, ⟨4, ⟨p4, c4, [14]⟩⟩] := ⟨hrs, by simp, by
      intro x hx
      rcases List.mem_cons.1 hx with rfl | hx
      · exact ⟨(hLw.each 2 (by simp)).row, by simp⟩
      · rw [List.mem_singleton] at hx; subst hx
        exact ⟨(hLw.each 3 (by simp)).row, by simp⟩⟩
    have := Tryz.Mend shH _ (cl - 2) _ w hlv (by simp; omega)
    rw [show MendM shH (List.map Lf.m [⟨3, ⟨p3, c3, [11]⟩⟩, ⟨4, ⟨p4, c4, [14]⟩⟩]) = ([[5], [8]], [], 0) from mend1] at this
    exact this
  ((conv => whnf); repeat' (first | ((with_reducible first | refine q1 ?_ | refine q2 ?_); conv => whnf) | (with_reducible refine q3 ?_) | ((with_reducible refine q4 (fun _ => ?_) (fun _ => ?_)) <;> first | (exfalso; omega) | (conv => whnf)) | ((with_reducible first | refine q5 ?_ | refine q6 ?_ | refine q7 ?_ | refine q8 ?_ | refine q9 ?_ | refine q10 ?_ | refine q11 ?_ | refine q12 ?_ | refine q13 ?_ | refine q14 ?_ | refine q15 ?_); conv => whnf) | ((refine q16 (fun _ _ _ _ _ => ?_)); conv => whnf) | ((with_reducible first | refine q17 ?_ | refine q18 ?_ | refine q19 ?_ | refine q20 ?_); conv => whnf)))
  have hsz1 := hB3.lt
  have hsz2 := he38.size
  have hsz3 := ((he9.tr he10).tr he11).size
  have hbsbb : bs < bb := by omega
  have hwbb : w.heap.size ≤ bb := by have := he3.size; omega
  have hbb18 : bb < w18.heap.size := by have := (he46.tr he68).size; omega
  refine And2.mk ?_ ?_
  rotate_left
  ((conv => whnf); repeat' (first | ((with_reducible first | refine q1 ?_ | refine q2 ?_); conv => whnf) | (with_reducible refine q3 ?_) | ((with_reducible refine q4 (fun _ => ?_) (fun _ => ?_)) <;> first | (exfalso; omega) | (conv => whnf)) | ((with_reducible first | refine q5 ?_ | refine q6 ?_ | refine q7 ?_ | refine q8 ?_ | refine q9 ?_ | refine q10 ?_ | refine q11 ?_ | refine q12 ?_ | refine q13 ?_ | refine q14 ?_ | refine q15 ?_); conv => whnf) | ((refine q16 (fun _ _ _ _ _ => ?_)); conv => whnf) | ((with_reducible first | refine q17 ?_ | refine q18 ?_ | refine q19 ?_ | refine q20 ?_); conv => whnf)))
  refine NewA.mk' fun w19b bm1 hbm1 hsm1 he19b hBm1 => ?_
  refine Anew.mk (hd19.ex.tr he19b) ?_
  ((conv => whnf); repeat' (first | ((with_reducible first | refine q1 ?_ | refine q2 ?_); conv => whnf) | (with_reducible refine q3 ?_) | ((with_reducible refine q4 (fun _ => ?_) (fun _ => ?_)) <;> first | (exfalso; omega) | (conv => whnf)) | ((with_reducible first | refine q5 ?_ | refine q6 ?_ | refine q7 ?_ | refine q8 ?_ | refine q9 ?_ | refine q10 ?_ | refine q11 ?_ | refine q12 ?_ | refine q13 ?_ | refine q14 ?_ | refine q15 ?_); conv => whnf) | ((refine q16 (fun _ _ _ _ _ => ?_)); conv => whnf) | ((with_reducible first | refine q17 ?_ | refine q18 ?_ | refine q19 ?_ | refine q20 ?_); conv => whnf)))
  refine CallA.mono (hm34 w19b (hd19.ex.tr he19b)) ?_
  rintro v w19a ⟨b20, c20, ss20, bw20, cw20, rfl, hS20, hR20, hW20, he19, hF20, -⟩
  refine Anew.mk ((hd19.ex.tr he19b).tr he19) ?_
  ((conv => whnf); repeat' (first | ((with_reducible first | refine q1 ?_ | refine q2 ?_); conv => whnf) | (with_reducible refine q3 ?_) | ((with_reducible refine q4 (fun _ => ?_) (fun _ => ?_)) <;> first | (exfalso; omega) | (conv => whnf)) | ((with_reducible first | refine q5 ?_ | refine q6 ?_ | refine q7 ?_ | refine q8 ?_ | refine q9 ?_ | refine q10 ?_ | refine q11 ?_ | refine q12 ?_ | refine q13 ?_ | refine q14 ?_ | refine q15 ?_); conv => whnf) | ((refine q16 (fun _ _ _ _ _ => ?_)); conv => whnf) | ((with_reducible first | refine q17 ?_ | refine q18 ?_ | refine q19 ?_ | refine q20 ?_); conv => whnf)))
  refine StoreA.var (Blk.ex hBm1 he19) rfl rfl rfl fun w20 hu20 hB20 => ?_
  have hbm1N : w18.heap.size ≤ bm1 := by have := hd19.ex.size; omega
  have he1820 : Ex w18 w20 := ((hd19.ex.tr he19b).tr he19).upd hu20 hbm1N
  refine Anew.mk he1820 ?_
  have hB20 : Blk w20 bm1 [.slice b20 ss20.length c20, .slice bw20 0 cw20] 74 := hB20
  have hS20 : Sls w20 b20 ss20 := Sls.upd hS20 hu20 hF20 (by omega)
  have hF20 : FreshS w18.heap.size b20 ss20 := ⟨fun a ha => Nat.le_trans (hd19.ex.tr he19b).size (hF20.1 a ha), fun t ht a ha => Nat.le_trans (hd19.ex.tr he19b).size (hF20.2 t ht a ha)⟩
  clear hbm1 hsm1 he19b hBm1 hu20 he19 hW20
  rotate_left
  ((conv => whnf); repeat' (first | ((with_reducible first | refine q1 ?_ | refine q2 ?_); conv => whnf) | (with_reducible refine q3 ?_) | ((with_reducible refine q4 (fun _ => ?_) (fun _ => ?_)) <;> first | (exfalso; omega) | (conv => whnf)) | ((with_reducible first | refine q5 ?_ | refine q6 ?_ | refine q7 ?_ | refine q8 ?_ | refine q9 ?_ | refine q10 ?_ | refine q11 ?_ | refine q12 ?_ | refine q13 ?_ | refine q14 ?_ | refine q15 ?_); conv => whnf) | ((refine q16 (fun _ _ _ _ _ => ?_)); conv => whnf) | ((with_reducible first | refine q17 ?_ | refine q18 ?_ | refine q19 ?_ | refine q20 ?_); conv => whnf)))
  refine CallA.mono (hm34 w19 hd19.ex) ?_
  rintro v w19a ⟨b20, c20, ss20, bw20, cw20, rfl, hS20, hR20, hW20, he19, hF20, -⟩
  refine Anew.mk (hd19.ex.tr he19) ?_
  ((conv => whnf); repeat' (first | ((with_reducible first | refine q1 ?_ | refine q2 ?_); conv => whnf) | (with_reducible refine q3 ?_) | ((with_reducible refine q4 (fun _ => ?_) (fun _ => ?_)) <;> first | (exfalso; omega) | (conv => whnf)) | ((with_reducible first | refine q5 ?_ | refine q6 ?_ | refine q7 ?_ | refine q8 ?_ | refine q9 ?_ | refine q10 ?_ | refine q11 ?_ | refine q12 ?_ | refine q13 ?_ | refine q14 ?_ | refine q15 ?_); conv => whnf) | ((refine q16 (fun _ _ _ _ _ => ?_)); conv => whnf) | ((with_reducible first | refine q17 ?_ | refine q18 ?_ | refine q19 ?_ | refine q20 ?_); conv => whnf)))
  refine NewA.mk' fun w19b bm1 hbm1 hsm1 he19b hBm1 => ?_
  refine Anew.mk ((hd19.ex.tr he19).tr he19b) ?_
  ((conv => whnf); repeat' (first | ((with_reducible first | refine q1 ?_ | refine q2 ?_); conv => whnf) | (with_reducible refine q3 ?_) | ((with_reducible refine q4 (fun _ => ?_) (fun _ => ?_)) <;> first | (exfalso; omega) | (conv => whnf)) | ((with_reducible first | refine q5 ?_ | refine q6 ?_ | refine q7 ?_ | refine q8 ?_ | refine q9 ?_ | refine q10 ?_ | refine q11 ?_ | refine q12 ?_ | refine q13 ?_ | refine q14 ?_ | refine q15 ?_); conv => whnf) | ((refine q16 (fun _ _ _ _ _ => ?_)); conv => whnf) | ((with_reducible first | refine q17 ?_ | refine q18 ?_ | refine q19 ?_ | refine q20 ?_); conv => whnf)))
  refine StoreA.var hBm1 rfl rfl rfl fun w20 hu20 hB20 => ?_
  have he1820 : Ex w18 w20 := (hd19.ex.tr he19).tr (he19b.upd hu20 (by omega))
  refine Anew.mk he1820 ?_
  have hB20 : Blk w20 bm1 [.slice b20 ss20.length c20, .slice bw20 0 cw20] 74 := hB20
  have hS20 := hS20.ex (he19b.upd hu20 (by omega))
  have hbm1N : w18.heap.size ≤ bm1 := by have := (hd19.ex.tr he19).size; omega
  have hF20 : FreshS w18.heap.size b20 ss20 := ⟨fun a ha => Nat.le_trans hd19.ex.size (hF20.1 a ha), fun t ht a ha => Nat.le_trans hd19.ex.size (hF20.2 t ht a ha)⟩
  clear hbm1 hsm1 he19b hBm1 hu20 he19 hW20
  all_goals
    have hR20 : rowsOf ss20 = [[5], [8]] := hR20
    have hL20 := hL18.ex he1820
    have hBs20 := hBs18.ex he1820
    have hew20 := hew18.tr he1820
    ((conv => whnf); repeat' (first | ((with_reducible first | refine q1 ?_ | refine q2 ?_); conv => whnf) | (with_reducible refine q3 ?_) | ((with_reducible refine q4 (fun _ => ?_) (fun _ => ?_)) <;> first | (exfalso; omega) | (conv => whnf)) | ((with_reducible first | refine q5 ?_ | refine q6 ?_ | refine q7 ?_ | refine q8 ?_ | refine q9 ?_ | refine q10 ?_ | refine q11 ?_ | refine q12 ?_ | refine q13 ?_ | refine q14 ?_ | refine q15 ?_); conv => whnf) | ((refine q16 (fun _ _ _ _ _ => ?_)); conv => whnf) | ((with_reducible first | refine q17 ?_ | refine q18 ?_ | refine q19 ?_ | refine q20 ?_); conv => whnf)))
    refine NewS.mk' (cs := ints [9]) fun w21 b21 hb21 hs21 he21 hB21 => ?_
    have hL21 := hL20.ex he21
    ((conv => whnf); repeat' (first | ((with_reducible first | refine q1 ?_ | refine q2 ?_); conv => whnf) | (with_reducible refine q3 ?_) | ((with_reducible refine q4 (fun _ => ?_) (fun _ => ?_)) <;> first | (exfalso; omega) | (conv => whnf)) | ((with_reducible first | refine q5 ?_ | refine q6 ?_ | refine q7 ?_ | refine q8 ?_ | refine q9 ?_ | refine q10 ?_ | refine q11 ?_ | refine q12 ?_ | refine q13 ?_ | refine q14 ?_ | refine q15 ?_); conv => whnf) | ((refine q16 (fun _ _ _ _ _ => ?_)); conv => whnf) | ((with_reducible first | refine q17 ?_ | refine q18 ?_ | refine q19 ?_ | refine q20 ?_); conv => whnf)))
    refine StoreA.own (vs := [.slice (some ⟨b21, 0, none⟩) 1 1]) hL21.row rfl (by simp) rfl (all_one rfl) fun w22 hu22 ho22 => ?_
    have hL22 : LvO w22 w11.heap.size (some ⟨bb, 0, none⟩) cl [⟨1, ⟨p1, c1, [5]⟩⟩, ⟨2, ⟨some ⟨b21, 0, none⟩, 1, [9]⟩⟩, ⟨3, ⟨p3, c3, [11]⟩⟩, ⟨4, ⟨p4, c4, [14]⟩⟩] :=
      hL21.put (i := 1) (by simp) (x := ⟨2, ⟨some ⟨b21, 0, none⟩, 1, [9]⟩⟩) rfl hu22 ho22 ((hB21.own (by have := he1820.size; omega) (by simp) (by simp)).upd hu22 (by simp [blkOf]; have := he1820.size; omega)) (.inr (by simp [blkOf]; have := he1820.size; omega)) (fun j hj => by
        cases hb : ([⟨1, ⟨p1, c1, [5]⟩⟩, ⟨2, ⟨p2, c2, [8]⟩⟩, ⟨3, ⟨p3, c3, [11]⟩⟩, ⟨4, ⟨p4, c4, [14]⟩⟩] : List Lf)[j].words.base with
        | none => exact .inl rfl
        | some a => right; have := ((hL20.each j hj).at_ hb).2; simp [blkOf]; omega)
    have hsz20 := he1820.size
    have hBs22 := hu22.blk (hBs20.ex he21) (by omega)
    have hB22 := hu22.blk (hB20.ex he21) (by omega)
    have hS22 := Sls.upd (hS20.ex he21) hu22 hF20 (by omega)
    have hew22 := (hew20.tr he21).upd hu22 hwbb
    clear ho22 hu22 hL21 hB20 hS20 hBs20 hew20 hL20
    have hlen4 : ∀ x ∈ ([⟨1, ⟨p1, c1, [5]⟩⟩, ⟨2, ⟨some ⟨b21, 0, none⟩, 1, [9]⟩⟩, ⟨3, ⟨p3, c3, [11]⟩⟩, ⟨4, ⟨p4, c4, [14]⟩⟩] : List Lf), x.words.xs.length < 140737488355328 := by
      intro x hx
      simp only [List.mem_cons, List.not_mem_nil, or_false] at hx
      rcases hx with rfl | rfl | rfl | rfl <;> simp
    have hLv22 := hL22.lvs (by simp) hlen4
    ((conv => whnf); repeat' (first | ((with_reducible first | refine q1 ?_ | refine q2 ?_); conv => whnf) | (with_reducible refine q3 ?_) | ((with_reducible refine q4 (fun _ => ?_) (fun _ => ?_)) <;> first | (exfalso; omega) | (conv => whnf)) | ((with_reducible first | refine q5 ?_ | refine q6 ?_ | refine q7 ?_ | refine q8 ?_ | refine q9 ?_ | refine q10 ?_ | refine q11 ?_ | refine q12 ?_ | refine q13 ?_ | refine q14 ?_ | refine q15 ?_); conv => whnf) | ((refine q16 (fun _ _ _ _ _ => ?_)); conv => whnf) | ((with_reducible first | refine q17 ?_ | refine q18 ?_ | refine q19 ?_ | refine q20 ?_); conv => whnf)))
    have hm4 := Tryz.Mend shH (some ⟨bb, 0, none⟩) cl _ w22 hLv22 (by simpa using hcl4)
    rw [show MendM shH (List.map Lf.m [⟨1, ⟨p1, c1, [5]⟩⟩, ⟨2, ⟨some ⟨b21, 0, none⟩, 1, [9]⟩⟩, ⟨3, ⟨p3, c3, [11]⟩⟩, ⟨4, ⟨p4, c4, [14]⟩⟩]) = ([[5], [8]], [2], 0) from mend2] at hm4
    refine CallA.mono hm4 ?_
    rintro v w23 ⟨b23, c23, ss23, bw23, cw23, rfl, hS23, hR23, hW23, he23, -, -⟩
    ((conv => whnf); repeat' (first | ((with_reducible first | refine q1 ?_ | refine q2 ?_); conv => whnf) | (with_reducible refine q3 ?_) | ((with_reducible refine q4 (fun _ => ?_) (fun _ => ?_)) <;> first | (exfalso; omega) | (conv => whnf)) | ((with_reducible first | refine q5 ?_ | refine q6 ?_ | refine q7 ?_ | refine q8 ?_ | refine q9 ?_ | refine q10 ?_ | refine q11 ?_ | refine q12 ?_ | refine q13 ?_ | refine q14 ?_ | refine q15 ?_); conv => whnf) | ((refine q16 (fun _ _ _ _ _ => ?_)); conv => whnf) | ((with_reducible first | refine q17 ?_ | refine q18 ?_ | refine q19 ?_ | refine q20 ?_); conv => whnf)))
    refine NewA.mk' fun w24 bm2 hbm2 hsm2 he24 hBm2 => ?_
    ((conv => whnf); repeat' (first | ((with_reducible first | refine q1 ?_ | refine q2 ?_); conv => whnf) | (with_reducible refine q3 ?_) | ((with_reducible refine q4 (fun _ => ?_) (fun _ => ?_)) <;> first | (exfalso; omega) | (conv => whnf)) | ((with_reducible first | refine q5 ?_ | refine q6 ?_ | refine q7 ?_ | refine q8 ?_ | refine q9 ?_ | refine q10 ?_ | refine q11 ?_ | refine q12 ?_ | refine q13 ?_ | refine q14 ?_ | refine q15 ?_); conv => whnf) | ((refine q16 (fun _ _ _ _ _ => ?_)); conv => whnf) | ((with_reducible first | refine q17 ?_ | refine q18 ?_ | refine q19 ?_ | refine q20 ?_); conv => whnf)))
    refine StoreA.var hBm2 rfl rfl rfl fun w25 hu25 hB25 => ?_
    have hB25 : Blk w25 bm2 [.slice b23 ss23.length c23, .slice bw23 1 cw23] 74 := hB25
    have hR23 : rowsOf ss23 = [[5], [8]] := hR23
    have he2325 : Ex w23 w25 := he24.upd hu25 (by omega)
    have he2225 := he23.tr he2325
    have hBs25 := hBs22.ex he2225
    ((conv => whnf); repeat' (first | ((with_reducible first | refine q1 ?_ | refine q2 ?_); conv => whnf) | (with_reducible refine q3 ?_) | ((with_reducible refine q4 (fun _ => ?_) (fun _ => ?_)) <;> first | (exfalso; omega) | (conv => whnf)) | ((with_reducible first | refine q5 ?_ | refine q6 ?_ | refine q7 ?_ | refine q8 ?_ | refine q9 ?_ | refine q10 ?_ | refine q11 ?_ | refine q12 ?_ | refine q13 ?_ | refine q14 ?_ | refine q15 ?_); conv => whnf) | ((refine q16 (fun _ _ _ _ _ => ?_)); conv => whnf) | ((with_reducible first | refine q17 ?_ | refine q18 ?_ | refine q19 ?_ | refine q20 ?_); conv => whnf)))
    refine draw_rule Tryz.tbOk Tryz.mix (fun u => Ex w25 u) (.take 0 (.take 1 (.take 2 (.two 3 (.take 4 (.take 5 (.take 6 (.one 7 (.one 8 (.take 9 (.done))))))) 7 (.one 3 (.take 4 (.take 5 (.take 6 (.one 8 (.take 9 (.done))))))))))) (by kernel_rfl) (by kernel_rfl) ?_
    intro w26 hd26
    refine ⟨hd26.ex, ?_⟩
    ((conv => whnf); repeat' (first | ((with_reducible first | refine q1 ?_ | refine q2 ?_); conv => whnf) | (with_reducible refine q3 ?_) | ((with_reducible refine q4 (fun _ => ?_) (fun _ => ?_)) <;> first | (exfalso; omega) | (conv => whnf)) | ((with_reducible first | refine q5 ?_ | refine q6 ?_ | refine q7 ?_ | refine q8 ?_ | refine q9 ?_ | refine q10 ?_ | refine q11 ?_ | refine q12 ?_ | refine q13 ?_ | refine q14 ?_ | refine q15 ?_); conv => whnf) | ((refine q16 (fun _ _ _ _ _ => ?_)); conv => whnf) | ((with_reducible first | refine q17 ?_ | refine q18 ?_ | refine q19 ?_ | refine q20 ?_); conv => whnf)))
    refine HoldN.blk hBs25 rfl ?_
    ((conv => whnf); repeat' (first | ((with_reducible first | refine q1 ?_ | refine q2 ?_); conv => whnf) | (with_reducible refine q3 ?_) | ((with_reducible refine q4 (fun _ => ?_) (fun _ => ?_)) <;> first | (exfalso; omega) | (conv => whnf)) | ((with_reducible first | refine q5 ?_ | refine q6 ?_ | refine q7 ?_ | refine q8 ?_ | refine q9 ?_ | refine q10 ?_ | refine q11 ?_ | refine q12 ?_ | refine q13 ?_ | refine q14 ?_ | refine q15 ?_); conv => whnf) | ((refine q16 (fun _ _ _ _ _ => ?_)); conv => whnf) | ((with_reducible first | refine q17 ?_ | refine q18 ?_ | refine q19 ?_ | refine q20 ?_); conv => whnf)))
    refine HoldV.slice (e := 59) (sz := 2) (by_ := 32) (z := some (.agg #[.int .i64 0, .slice none 0 0])) Tryz.tbOk rfl 0 3 cl (.inr ⟨rfl, rfl⟩) (.inl rfl) (.inr ⟨rfl, rfl⟩) (by simp) (by decide) (by omega) (Nat.le_refl _) ?_
    have hm3 : ∀ w, Ex w25 w → CallA Tryz.prog 34 [shV shH, .slice (baseAt (some ⟨bb, 0, none⟩) 0 cl 2) (3 - 0) (cl - 0)] w (RetMd w ([], [], 9)) := by
      intro w hw
      have hLw := hL22.ex (he2225.tr hw)
      have hrs := hLw.row.row.sub (l := 0) (hh := 3) (m := cl) (sz := 2) (by decide) (by omega)
      have hlv : Lvs w (baseAt (some ⟨bb, 0, none⟩) 0 cl 2) [⟨1, ⟨p1, c1, [5]⟩⟩, ⟨2, ⟨some ⟨b21, 0, none⟩, 1, [9]⟩⟩, ⟨3, ⟨p3, c3, [11]⟩⟩] := ⟨hrs, by simp, by
        intro x hx
        simp only [List.mem_cons, List.not_mem_nil, or_false] at hx
        rcases hx with rfl | rfl | rfl
        · exact ⟨(hLw.each 0 (by simp)).row, by simp⟩
        · exact ⟨(hLw.each 1 (by simp)).row, by simp⟩
        · exact ⟨(hLw.each 2 (by simp)).row, by simp⟩⟩
      have := Tryz.Mend shH _ (cl - 0) _ w hlv (by simp; omega)
      rw [show MendM shH (List.map Lf.m [⟨1, ⟨p1, c1, [5]⟩⟩, ⟨2, ⟨some ⟨b21, 0, none⟩, 1, [9]⟩⟩, ⟨3, ⟨p3, c3, [11]⟩⟩]) = ([], [], 9) from mend3] at this
      exact this
    ((conv => whnf); repeat' (first | ((with_reducible first | refine q1 ?_ | refine q2 ?_); conv => whnf) | (with_reducible refine q3 ?_) | ((with_reducible refine q4 (fun _ => ?_) (fun _ => ?_)) <;> first | (exfalso; omega) | (conv => whnf)) | ((with_reducible first | refine q5 ?_ | refine q6 ?_ | refine q7 ?_ | refine q8 ?_ | refine q9 ?_ | refine q10 ?_ | refine q11 ?_ | refine q12 ?_ | refine q13 ?_ | refine q14 ?_ | refine q15 ?_); conv => whnf) | ((refine q16 (fun _ _ _ _ _ => ?_)); conv => whnf) | ((with_reducible first | refine q17 ?_ | refine q18 ?_ | refine q19 ?_ | refine q20 ?_); conv => whnf)))
    refine And2.mk ?_ ?_
    rotate_left
    ((conv => whnf); repeat' (first | ((with_reducible first | refine q1 ?_ | refine q2 ?_); conv => whnf) | (with_reducible refine q3 ?_) | ((with_reducible refine q4 (fun _ => ?_) (fun _ => ?_)) <;> first | (exfalso; omega) | (conv => whnf)) | ((with_reducible first | refine q5 ?_ | refine q6 ?_ | refine q7 ?_ | refine q8 ?_ | refine q9 ?_ | refine q10 ?_ | refine q11 ?_ | refine q12 ?_ | refine q13 ?_ | refine q14 ?_ | refine q15 ?_); conv => whnf) | ((refine q16 (fun _ _ _ _ _ => ?_)); conv => whnf) | ((with_reducible first | refine q17 ?_ | refine q18 ?_ | refine q19 ?_ | refine q20 ?_); conv => whnf)))
    refine NewA.mk' fun w27 bm3 hbm3 hsm3 he27 hBm3 => ?_
    refine Anew.mk (hd26.ex.tr he27) ?_
    ((conv => whnf); repeat' (first | ((with_reducible first | refine q1 ?_ | refine q2 ?_); conv => whnf) | (with_reducible refine q3 ?_) | ((with_reducible refine q4 (fun _ => ?_) (fun _ => ?_)) <;> first | (exfalso; omega) | (conv => whnf)) | ((with_reducible first | refine q5 ?_ | refine q6 ?_ | refine q7 ?_ | refine q8 ?_ | refine q9 ?_ | refine q10 ?_ | refine q11 ?_ | refine q12 ?_ | refine q13 ?_ | refine q14 ?_ | refine q15 ?_); conv => whnf) | ((refine q16 (fun _ _ _ _ _ => ?_)); conv => whnf) | ((with_reducible first | refine q17 ?_ | refine q18 ?_ | refine q19 ?_ | refine q20 ?_); conv => whnf)))
    refine CallA.mono (hm3 w27 (hd26.ex.tr he27)) ?_
    rintro v w28 ⟨b28, c28, ss28, bw28, cw28, rfl, hS28, hR28, hW28, he28, -, -⟩
    refine Anew.mk ((hd26.ex.tr he27).tr he28) ?_
    ((conv => whnf); repeat' (first | ((with_reducible first | refine q1 ?_ | refine q2 ?_); conv => whnf) | (with_reducible refine q3 ?_) | ((with_reducible refine q4 (fun _ => ?_) (fun _ => ?_)) <;> first | (exfalso; omega) | (conv => whnf)) | ((with_reducible first | refine q5 ?_ | refine q6 ?_ | refine q7 ?_ | refine q8 ?_ | refine q9 ?_ | refine q10 ?_ | refine q11 ?_ | refine q12 ?_ | refine q13 ?_ | refine q14 ?_ | refine q15 ?_); conv => whnf) | ((refine q16 (fun _ _ _ _ _ => ?_)); conv => whnf) | ((with_reducible first | refine q17 ?_ | refine q18 ?_ | refine q19 ?_ | refine q20 ?_); conv => whnf)))
    refine StoreA.var (Blk.ex hBm3 he28) rfl rfl rfl fun w29 hu29 hB29 => ?_
    have he2529 : Ex w25 w29 := ((hd26.ex.tr he27).tr he28).upd hu29 (by have := hd26.ex.size; omega)
    refine Anew.mk he2529 ?_
    clear hbm3 hsm3 he27 hBm3 hS28 hR28 hW28 he28 hu29 hB29
    rotate_left
    ((conv => whnf); repeat' (first | ((with_reducible first | refine q1 ?_ | refine q2 ?_); conv => whnf) | (with_reducible refine q3 ?_) | ((with_reducible refine q4 (fun _ => ?_) (fun _ => ?_)) <;> first | (exfalso; omega) | (conv => whnf)) | ((with_reducible first | refine q5 ?_ | refine q6 ?_ | refine q7 ?_ | refine q8 ?_ | refine q9 ?_ | refine q10 ?_ | refine q11 ?_ | refine q12 ?_ | refine q13 ?_ | refine q14 ?_ | refine q15 ?_); conv => whnf) | ((refine q16 (fun _ _ _ _ _ => ?_)); conv => whnf) | ((with_reducible first | refine q17 ?_ | refine q18 ?_ | refine q19 ?_ | refine q20 ?_); conv => whnf)))
    refine CallA.mono (hm3 w26 hd26.ex) ?_
    rintro v w27 ⟨b28, c28, ss28, bw28, cw28, rfl, hS28, hR28, hW28, he28, -, -⟩
    refine Anew.mk (hd26.ex.tr he28) ?_
    ((conv => whnf); repeat' (first | ((with_reducible first | refine q1 ?_ | refine q2 ?_); conv => whnf) | (with_reducible refine q3 ?_) | ((with_reducible refine q4 (fun _ => ?_) (fun _ => ?_)) <;> first | (exfalso; omega) | (conv => whnf)) | ((with_reducible first | refine q5 ?_ | refine q6 ?_ | refine q7 ?_ | refine q8 ?_ | refine q9 ?_ | refine q10 ?_ | refine q11 ?_ | refine q12 ?_ | refine q13 ?_ | refine q14 ?_ | refine q15 ?_); conv => whnf) | ((refine q16 (fun _ _ _ _ _ => ?_)); conv => whnf) | ((with_reducible first | refine q17 ?_ | refine q18 ?_ | refine q19 ?_ | refine q20 ?_); conv => whnf)))
    refine NewA.mk' fun w28 bm3 hbm3 hsm3 he27 hBm3 => ?_
    refine Anew.mk ((hd26.ex.tr he28).tr he27) ?_
    ((conv => whnf); repeat' (first | ((with_reducible first | refine q1 ?_ | refine q2 ?_); conv => whnf) | (with_reducible refine q3 ?_) | ((with_reducible refine q4 (fun _ => ?_) (fun _ => ?_)) <;> first | (exfalso; omega) | (conv => whnf)) | ((with_reducible first | refine q5 ?_ | refine q6 ?_ | refine q7 ?_ | refine q8 ?_ | refine q9 ?_ | refine q10 ?_ | refine q11 ?_ | refine q12 ?_ | refine q13 ?_ | refine q14 ?_ | refine q15 ?_); conv => whnf) | ((refine q16 (fun _ _ _ _ _ => ?_)); conv => whnf) | ((with_reducible first | refine q17 ?_ | refine q18 ?_ | refine q19 ?_ | refine q20 ?_); conv => whnf)))
    refine StoreA.var hBm3 rfl rfl rfl fun w29 hu29 hB29 => ?_
    have he2529 : Ex w25 w29 := (hd26.ex.tr he28).tr (he27.upd hu29 (by omega))
    refine Anew.mk he2529 ?_
    clear hbm3 hsm3 he27 hBm3 hS28 hR28 hW28 he28 hu29 hB29
    all_goals
      have he2229 := he2225.tr he2529
      have hBs29 := hBs22.ex he2229
      ((conv => whnf); repeat' (first | ((with_reducible first | refine q1 ?_ | refine q2 ?_); conv => whnf) | (with_reducible refine q3 ?_) | ((with_reducible refine q4 (fun _ => ?_) (fun _ => ?_)) <;> first | (exfalso; omega) | (conv => whnf)) | ((with_reducible first | refine q5 ?_ | refine q6 ?_ | refine q7 ?_ | refine q8 ?_ | refine q9 ?_ | refine q10 ?_ | refine q11 ?_ | refine q12 ?_ | refine q13 ?_ | refine q14 ?_ | refine q15 ?_); conv => whnf) | ((refine q16 (fun _ _ _ _ _ => ?_)); conv => whnf) | ((with_reducible first | refine q17 ?_ | refine q18 ?_ | refine q19 ?_ | refine q20 ?_); conv => whnf)))
      have hsp := Tryz.Spare shH (some ⟨bb, 0, none⟩) cl _ w29 (hLv22.ex he2229) (by simpa using hcl4)
      rw [show SpareM shH (List.map Lf.m [⟨1, ⟨p1, c1, [5]⟩⟩, ⟨2, ⟨some ⟨b21, 0, none⟩, 1, [9]⟩⟩, ⟨3, ⟨p3, c3, [11]⟩⟩, ⟨4, ⟨p4, c4, [14]⟩⟩]) = (0, 0) from spare1] at hsp
      refine CallA.mono hsp ?_
      rintro v w30 ⟨rfl, he30⟩
      ((conv => whnf); repeat' (first | ((with_reducible first | refine q1 ?_ | refine q2 ?_); conv => whnf) | (with_reducible refine q3 ?_) | ((with_reducible refine q4 (fun _ => ?_) (fun _ => ?_)) <;> first | (exfalso; omega) | (conv => whnf)) | ((with_reducible first | refine q5 ?_ | refine q6 ?_ | refine q7 ?_ | refine q8 ?_ | refine q9 ?_ | refine q10 ?_ | refine q11 ?_ | refine q12 ?_ | refine q13 ?_ | refine q14 ?_ | refine q15 ?_); conv => whnf) | ((refine q16 (fun _ _ _ _ _ => ?_)); conv => whnf) | ((with_reducible first | refine q17 ?_ | refine q18 ?_ | refine q19 ?_ | refine q20 ?_); conv => whnf)))
      refine NewS.mk' (cs := rowC lineC [⟨65522, 3, 1, 70000⟩]) fun w31 b31 hb31 hs31 he31 hB31 => ?_
      ((conv => whnf); repeat' (first | ((with_reducible first | refine q1 ?_ | refine q2 ?_); conv => whnf) | (with_reducible refine q3 ?_) | ((with_reducible refine q4 (fun _ => ?_) (fun _ => ?_)) <;> first | (exfalso; omega) | (conv => whnf)) | ((with_reducible first | refine q5 ?_ | refine q6 ?_ | refine q7 ?_ | refine q8 ?_ | refine q9 ?_ | refine q10 ?_ | refine q11 ?_ | refine q12 ?_ | refine q13 ?_ | refine q14 ?_ | refine q15 ?_); conv => whnf) | ((refine q16 (fun _ _ _ _ _ => ?_)); conv => whnf) | ((with_reducible first | refine q17 ?_ | refine q18 ?_ | refine q19 ?_ | refine q20 ?_); conv => whnf)))
      have hwr := Tryz.Write ⟨2, 0, 4⟩ (some ⟨b31, 0, none⟩) 1 [⟨65522, 3, 1, 70000⟩] w31 hB31.row (by decide) (by decide)
      rw [wri1] at hwr
      refine CallA.mono hwr ?_
      rintro v w32 ⟨v1, rfl, b32, c32, ss32, rfl, hS32, hR32, he32⟩
      have hR32 : rowsOf ss32 = [[1, 0, 1, 1], [3, 1, 1, 4479]] := hR32
      have he2232 := ((he2229.tr he30).tr he31).tr he32
      have he2532 := ((he2529.tr he30).tr he31).tr he32
      have hBm1 := hB22.ex he2232
      have hBm2 := hB25.ex he2532
      ((conv => whnf); repeat' (first | ((with_reducible first | refine q1 ?_ | refine q2 ?_); conv => whnf) | (with_reducible refine q3 ?_) | ((with_reducible refine q4 (fun _ => ?_) (fun _ => ?_)) <;> first | (exfalso; omega) | (conv => whnf)) | ((with_reducible first | refine q5 ?_ | refine q6 ?_ | refine q7 ?_ | refine q8 ?_ | refine q9 ?_ | refine q10 ?_ | refine q11 ?_ | refine q12 ?_ | refine q13 ?_ | refine q14 ?_ | refine q15 ?_); conv => whnf) | ((refine q16 (fun _ _ _ _ _ => ?_)); conv => whnf) | ((with_reducible first | refine q17 ?_ | refine q18 ?_ | refine q19 ?_ | refine q20 ?_); conv => whnf)))
      refine NewS.mk' (cs := ints [5]) fun w33 b33 hb33 hs33 he33 hB33 => ?_
      ((conv => whnf); repeat' (first | ((with_reducible first | refine q1 ?_ | refine q2 ?_); conv => whnf) | (with_reducible refine q3 ?_) | ((with_reducible refine q4 (fun _ => ?_) (fun _ => ?_)) <;> first | (exfalso; omega) | (conv => whnf)) | ((with_reducible first | refine q5 ?_ | refine q6 ?_ | refine q7 ?_ | refine q8 ?_ | refine q9 ?_ | refine q10 ?_ | refine q11 ?_ | refine q12 ?_ | refine q13 ?_ | refine q14 ?_ | refine q15 ?_); conv => whnf) | ((refine q16 (fun _ _ _ _ _ => ?_)); conv => whnf) | ((with_reducible first | refine q17 ?_ | refine q18 ?_ | refine q19 ?_ | refine q20 ?_); conv => whnf)))
      refine NewS.mk' (cs := ints [8]) fun w34 b34 hb34 hs34 he34 hB34 => ?_
      ((conv => whnf); repeat' (first | ((with_reducible first | refine q1 ?_ | refine q2 ?_); conv => whnf) | (with_reducible refine q3 ?_) | ((with_reducible refine q4 (fun _ => ?_) (fun _ => ?_)) <;> first | (exfalso; omega) | (conv => whnf)) | ((with_reducible first | refine q5 ?_ | refine q6 ?_ | refine q7 ?_ | refine q8 ?_ | refine q9 ?_ | refine q10 ?_ | refine q11 ?_ | refine q12 ?_ | refine q13 ?_ | refine q14 ?_ | refine q15 ?_); conv => whnf) | ((refine q16 (fun _ _ _ _ _ => ?_)); conv => whnf) | ((with_reducible first | refine q17 ?_ | refine q18 ?_ | refine q19 ?_ | refine q20 ?_); conv => whnf)))
      refine NewS.mk' (cs := rowC slC [⟨some ⟨b33, 0, none⟩, 1, [5]⟩, ⟨some ⟨b34, 0, none⟩, 1, [8]⟩]) fun w35 b35 hb35 hs35 he35 hB35 => ?_
      ((conv => whnf); repeat' (first | ((with_reducible first | refine q1 ?_ | refine q2 ?_); conv => whnf) | (with_reducible refine q3 ?_) | ((with_reducible refine q4 (fun _ => ?_) (fun _ => ?_)) <;> first | (exfalso; omega) | (conv => whnf)) | ((with_reducible first | refine q5 ?_ | refine q6 ?_ | refine q7 ?_ | refine q8 ?_ | refine q9 ?_ | refine q10 ?_ | refine q11 ?_ | refine q12 ?_ | refine q13 ?_ | refine q14 ?_ | refine q15 ?_); conv => whnf) | ((refine q16 (fun _ _ _ _ _ => ?_)); conv => whnf) | ((with_reducible first | refine q17 ?_ | refine q18 ?_ | refine q19 ?_ | refine q20 ?_); conv => whnf)))
      have hS35 : Sls w35 (some ⟨b35, 0, none⟩) [⟨some ⟨b33, 0, none⟩, 1, [5]⟩, ⟨some ⟨b34, 0, none⟩, 1, [8]⟩] := ⟨hB35.row, by simp, by
        intro s hs
        rcases List.mem_cons.1 hs with rfl | hs
        · exact ⟨((intsRow hB33).ex he34).ex he35, by simp⟩
        · rw [List.mem_singleton] at hs; subst hs
          exact ⟨(intsRow hB34).ex he35, by simp⟩⟩
      have he2235 := ((he2232.tr he33).tr he34).tr he35
      refine CallA.mono (Tryz.sameRows b20 (some ⟨b35, 0, none⟩) c20 2 ss20 _ w35 (hS22.ex he2235) hS35) ?_
      rintro v w36 ⟨rfl, he36⟩
      rw [show decide (rowsOf ss20 = rowsOf [⟨some ⟨b33, 0, none⟩, 1, [5]⟩, ⟨some ⟨b34, 0, none⟩, 1, [8]⟩]) = true by rw [hR20]; rfl]
      have he3236 := ((he33.tr he34).tr he35).tr he36
      have hBm1 := hBm1.ex he3236
      have hBm2 := hBm2.ex he3236
      ((conv => whnf); repeat' (first | ((with_reducible first | refine q1 ?_ | refine q2 ?_); conv => whnf) | (with_reducible refine q3 ?_) | ((with_reducible refine q4 (fun _ => ?_) (fun _ => ?_)) <;> first | (exfalso; omega) | (conv => whnf)) | ((with_reducible first | refine q5 ?_ | refine q6 ?_ | refine q7 ?_ | refine q8 ?_ | refine q9 ?_ | refine q10 ?_ | refine q11 ?_ | refine q12 ?_ | refine q13 ?_ | refine q14 ?_ | refine q15 ?_); conv => whnf) | ((refine q16 (fun _ _ _ _ _ => ?_)); conv => whnf) | ((with_reducible first | refine q17 ?_ | refine q18 ?_ | refine q19 ?_ | refine q20 ?_); conv => whnf)))
      refine NewS.mk' (cs := ints [5]) fun w43 b43 hb43 hs43 he43 hB43 => ?_
      ((conv => whnf); repeat' (first | ((with_reducible first | refine q1 ?_ | refine q2 ?_); conv => whnf) | (with_reducible refine q3 ?_) | ((with_reducible refine q4 (fun _ => ?_) (fun _ => ?_)) <;> first | (exfalso; omega) | (conv => whnf)) | ((with_reducible first | refine q5 ?_ | refine q6 ?_ | refine q7 ?_ | refine q8 ?_ | refine q9 ?_ | refine q10 ?_ | refine q11 ?_ | refine q12 ?_ | refine q13 ?_ | refine q14 ?_ | refine q15 ?_); conv => whnf) | ((refine q16 (fun _ _ _ _ _ => ?_)); conv => whnf) | ((with_reducible first | refine q17 ?_ | refine q18 ?_ | refine q19 ?_ | refine q20 ?_); conv => whnf)))
      refine NewS.mk' (cs := ints [8]) fun w44 b44 hb44 hs44 he44 hB44 => ?_
      ((conv => whnf); repeat' (first | ((with_reducible first | refine q1 ?_ | refine q2 ?_); conv => whnf) | (with_reducible refine q3 ?_) | ((with_reducible refine q4 (fun _ => ?_) (fun _ => ?_)) <;> first | (exfalso; omega) | (conv => whnf)) | ((with_reducible first | refine q5 ?_ | refine q6 ?_ | refine q7 ?_ | refine q8 ?_ | refine q9 ?_ | refine q10 ?_ | refine q11 ?_ | refine q12 ?_ | refine q13 ?_ | refine q14 ?_ | refine q15 ?_); conv => whnf) | ((refine q16 (fun _ _ _ _ _ => ?_)); conv => whnf) | ((with_reducible first | refine q17 ?_ | refine q18 ?_ | refine q19 ?_ | refine q20 ?_); conv => whnf)))
      refine NewS.mk' (cs := rowC slC [⟨some ⟨b43, 0, none⟩, 1, [5]⟩, ⟨some ⟨b44, 0, none⟩, 1, [8]⟩]) fun w45 b45 hb45 hs45 he45 hB45 => ?_
      ((conv => whnf); repeat' (first | ((with_reducible first | refine q1 ?_ | refine q2 ?_); conv => whnf) | (with_reducible refine q3 ?_) | ((with_reducible refine q4 (fun _ => ?_) (fun _ => ?_)) <;> first | (exfalso; omega) | (conv => whnf)) | ((with_reducible first | refine q5 ?_ | refine q6 ?_ | refine q7 ?_ | refine q8 ?_ | refine q9 ?_ | refine q10 ?_ | refine q11 ?_ | refine q12 ?_ | refine q13 ?_ | refine q14 ?_ | refine q15 ?_); conv => whnf) | ((refine q16 (fun _ _ _ _ _ => ?_)); conv => whnf) | ((with_reducible first | refine q17 ?_ | refine q18 ?_ | refine q19 ?_ | refine q20 ?_); conv => whnf)))
      have hS45 : Sls w45 (some ⟨b45, 0, none⟩) [⟨some ⟨b43, 0, none⟩, 1, [5]⟩, ⟨some ⟨b44, 0, none⟩, 1, [8]⟩] := ⟨hB45.row, by simp, by
        intro s hs
        rcases List.mem_cons.1 hs with rfl | hs
        · exact ⟨((intsRow hB43).ex he44).ex he45, by simp⟩
        · rw [List.mem_singleton] at hs; subst hs
          exact ⟨(intsRow hB44).ex he45, by simp⟩⟩
      have he2545 := (((he2532.tr he3236).tr he43).tr he44).tr he45
      have he2345 := he2325.tr he2545
      refine CallA.mono (Tryz.sameRows b23 (some ⟨b45, 0, none⟩) c23 2 ss23 _ w45 (hS23.ex he2345) hS45) ?_
      rintro v w46 ⟨rfl, he46'⟩
      rw [show decide (rowsOf ss23 = rowsOf [⟨some ⟨b43, 0, none⟩, 1, [5]⟩, ⟨some ⟨b44, 0, none⟩, 1, [8]⟩]) = true by rw [hR23]; rfl]
      have he3646 := ((he43.tr he44).tr he45).tr he46'
      have hBm1 := hBm1.ex he3646
      have hBm2 := hBm2.ex he3646
      ((conv => whnf); repeat' (first | ((with_reducible first | refine q1 ?_ | refine q2 ?_); conv => whnf) | (with_reducible refine q3 ?_) | ((with_reducible refine q4 (fun _ => ?_) (fun _ => ?_)) <;> first | (exfalso; omega) | (conv => whnf)) | ((with_reducible first | refine q5 ?_ | refine q6 ?_ | refine q7 ?_ | refine q8 ?_ | refine q9 ?_ | refine q10 ?_ | refine q11 ?_ | refine q12 ?_ | refine q13 ?_ | refine q14 ?_ | refine q15 ?_); conv => whnf) | ((refine q16 (fun _ _ _ _ _ => ?_)); conv => whnf) | ((with_reducible first | refine q17 ?_ | refine q18 ?_ | refine q19 ?_ | refine q20 ?_); conv => whnf)))
      refine NewS.mk' (cs := ints [2]) fun w47 b47 hb47 hs47 he47 hB47 => ?_
      ((conv => whnf); repeat' (first | ((with_reducible first | refine q1 ?_ | refine q2 ?_); conv => whnf) | (with_reducible refine q3 ?_) | ((with_reducible refine q4 (fun _ => ?_) (fun _ => ?_)) <;> first | (exfalso; omega) | (conv => whnf)) | ((with_reducible first | refine q5 ?_ | refine q6 ?_ | refine q7 ?_ | refine q8 ?_ | refine q9 ?_ | refine q10 ?_ | refine q11 ?_ | refine q12 ?_ | refine q13 ?_ | refine q14 ?_ | refine q15 ?_); conv => whnf) | ((refine q16 (fun _ _ _ _ _ => ?_)); conv => whnf) | ((with_reducible first | refine q17 ?_ | refine q18 ?_ | refine q19 ?_ | refine q20 ?_); conv => whnf)))
      refine CallA.mono (Tryz.sameInts bw23 (some ⟨b47, 0, none⟩) cw23 1 [2] [2] w47 (hW23.ex ((he2345.tr he46').tr he47)) (intsRow hB47) (by decide)) ?_
      rintro v w48 ⟨rfl, he48⟩
      rw [show decide (([2] : List Int) = [2]) = true from rfl]
      have hBm1 := hBm1.ex (he47.tr he48)
      ((conv => whnf); repeat' (first | ((with_reducible first | refine q1 ?_ | refine q2 ?_); conv => whnf) | (with_reducible refine q3 ?_) | ((with_reducible refine q4 (fun _ => ?_) (fun _ => ?_)) <;> first | (exfalso; omega) | (conv => whnf)) | ((with_reducible first | refine q5 ?_ | refine q6 ?_ | refine q7 ?_ | refine q8 ?_ | refine q9 ?_ | refine q10 ?_ | refine q11 ?_ | refine q12 ?_ | refine q13 ?_ | refine q14 ?_ | refine q15 ?_); conv => whnf) | ((refine q16 (fun _ _ _ _ _ => ?_)); conv => whnf) | ((with_reducible first | refine q17 ?_ | refine q18 ?_ | refine q19 ?_ | refine q20 ?_); conv => whnf)))
      refine NewS.mk' (cs := ints [1, 0, 1, 1]) fun w53 b53 hb53 hs53 he53 hB53 => ?_
      ((conv => whnf); repeat' (first | ((with_reducible first | refine q1 ?_ | refine q2 ?_); conv => whnf) | (with_reducible refine q3 ?_) | ((with_reducible refine q4 (fun _ => ?_) (fun _ => ?_)) <;> first | (exfalso; omega) | (conv => whnf)) | ((with_reducible first | refine q5 ?_ | refine q6 ?_ | refine q7 ?_ | refine q8 ?_ | refine q9 ?_ | refine q10 ?_ | refine q11 ?_ | refine q12 ?_ | refine q13 ?_ | refine q14 ?_ | refine q15 ?_); conv => whnf) | ((refine q16 (fun _ _ _ _ _ => ?_)); conv => whnf) | ((with_reducible first | refine q17 ?_ | refine q18 ?_ | refine q19 ?_ | refine q20 ?_); conv => whnf)))
      refine NewS.mk' (cs := ints [3, 1, 1, 4479]) fun w54 b54 hb54 hs54 he54 hB54 => ?_
      ((conv => whnf); repeat' (first | ((with_reducible first | refine q1 ?_ | refine q2 ?_); conv => whnf) | (with_reducible refine q3 ?_) | ((with_reducible refine q4 (fun _ => ?_) (fun _ => ?_)) <;> first | (exfalso; omega) | (conv => whnf)) | ((with_reducible first | refine q5 ?_ | refine q6 ?_ | refine q7 ?_ | refine q8 ?_ | refine q9 ?_ | refine q10 ?_ | refine q11 ?_ | refine q12 ?_ | refine q13 ?_ | refine q14 ?_ | refine q15 ?_); conv => whnf) | ((refine q16 (fun _ _ _ _ _ => ?_)); conv => whnf) | ((with_reducible first | refine q17 ?_ | refine q18 ?_ | refine q19 ?_ | refine q20 ?_); conv => whnf)))
      refine NewS.mk' (cs := rowC slC [⟨some ⟨b53, 0, none⟩, 4, [1, 0, 1, 1]⟩, ⟨some ⟨b54, 0, none⟩, 4, [3, 1, 1, 4479]⟩]) fun w55 b55 hb55 hs55 he55 hB55 => ?_
      ((conv => whnf); repeat' (first | ((with_reducible first | refine q1 ?_ | refine q2 ?_); conv => whnf) | (with_reducible refine q3 ?_) | ((with_reducible refine q4 (fun _ => ?_) (fun _ => ?_)) <;> first | (exfalso; omega) | (conv => whnf)) | ((with_reducible first | refine q5 ?_ | refine q6 ?_ | refine q7 ?_ | refine q8 ?_ | refine q9 ?_ | refine q10 ?_ | refine q11 ?_ | refine q12 ?_ | refine q13 ?_ | refine q14 ?_ | refine q15 ?_); conv => whnf) | ((refine q16 (fun _ _ _ _ _ => ?_)); conv => whnf) | ((with_reducible first | refine q17 ?_ | refine q18 ?_ | refine q19 ?_ | refine q20 ?_); conv => whnf)))
      have hS55 : Sls w55 (some ⟨b55, 0, none⟩) [⟨some ⟨b53, 0, none⟩, 4, [1, 0, 1, 1]⟩, ⟨some ⟨b54, 0, none⟩, 4, [3, 1, 1, 4479]⟩] := ⟨hB55.row, by simp, by
        intro s hs
        rcases List.mem_cons.1 hs with rfl | hs
        · exact ⟨((intsRow hB53).ex he54).ex he55, by simp⟩
        · rw [List.mem_singleton] at hs; subst hs
          exact ⟨(intsRow hB54).ex he55, by simp⟩⟩
      have he3255 := ((((he3236.tr he3646).tr he47).tr he48).tr he53).tr (he54.tr he55)
      refine CallA.mono (Tryz.sameRows b32 (some ⟨b55, 0, none⟩) c32 2 ss32 _ w55 (hS32.ex he3255) hS55) ?_
      rintro v w56 ⟨rfl, he56⟩
      rw [show decide (rowsOf ss32 = rowsOf [⟨some ⟨b53, 0, none⟩, 4, [1, 0, 1, 1]⟩, ⟨some ⟨b54, 0, none⟩, 4, [3, 1, 1, 4479]⟩]) = true by rw [hR32]; rfl]
      ((conv => whnf); repeat' (first | ((with_reducible first | refine q1 ?_ | refine q2 ?_); conv => whnf) | (with_reducible refine q3 ?_) | ((with_reducible refine q4 (fun _ => ?_) (fun _ => ?_)) <;> first | (exfalso; omega) | (conv => whnf)) | ((with_reducible first | refine q5 ?_ | refine q6 ?_ | refine q7 ?_ | refine q8 ?_ | refine q9 ?_ | refine q10 ?_ | refine q11 ?_ | refine q12 ?_ | refine q13 ?_ | refine q14 ?_ | refine q15 ?_); conv => whnf) | ((refine q16 (fun _ _ _ _ _ => ?_)); conv => whnf) | ((with_reducible first | refine q17 ?_ | refine q18 ?_ | refine q19 ?_ | refine q20 ?_); conv => whnf)))
      all_goals first | exact ⟨rfl, (hew22.tr he2232).tr (he3255.tr he56)⟩ | (exfalso; rename_i hx; exact hx rfl)
end Go.Proofs
