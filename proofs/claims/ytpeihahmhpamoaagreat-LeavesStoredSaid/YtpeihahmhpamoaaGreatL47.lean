/-
  L47: a part of the proof. By an AI agent.
-/
import Derived.Test.YtpeihahmhpamoaaGreatVQ
import Derived.Test.YtpeihahmhpamoaaGreatV10
import Derived.Test.YtpeihahmhpamoaaGreatV11
import Derived.Test.YtpeihahmhpamoaaGreatL46
set_option linter.all false
namespace Go.Proofs
open Go.V
open Go.RowKit (Below)
/-! ### leaves that share no memory -/
theorem LvO.push {w w' : World} {N cap cap' : Nat} {base base' : Option Addr} {ls : List Lf} (h : LvO w N base cap ls) (x : Lf) (hx : Own w N 3 1 x.words.base x.words.xs.length x.words.cap (ints x.words.xs))
    (hxb : x.words.base = none ∨ blkOf x.words.base ≠ blkOf base) (hxl : ∀ i (hi : i < ls.length), ls[i].words.base = none ∨ blkOf ls[i].words.base ≠ blkOf x.words.base)
    (ho : Own w' N 59 2 base' (ls.length + 1) cap' (rowC lfC (ls ++ [x]))) (hg : w.grownBy w' (blkOf base)) (hb : blkOf base' = blkOf base ∨ blkOf base' = some w.heap.size) : LvO w' N base' cap' (ls ++ [x]) := by
  refine ⟨by rw [List.length_append]; exact ho, ?_, ?_, ?_⟩
  · intro i hi
    by_cases hl : i < ls.length
    · rw [List.getElem_append_left hl]; exact (h.each i hl).grown hg (h.off i hl)
    · have : i = ls.length := by simp at hi; omega
      subst this
      rw [List.getElem_append_right (Nat.le_refl _)]
      simp only [Nat.sub_self, List.getElem_cons_zero]
      exact hx.grown hg hxb
  · intro i j hi hj hij
    simp only [List.length_append, List.length_cons, List.length_nil, Nat.zero_add] at hi hj
    by_cases hl : i < ls.length
    · by_cases hl' : j < ls.length
      · rw [List.getElem_append_left hl, List.getElem_append_left hl']; exact h.apart i j hl hl' hij
      · have : j = ls.length := by omega
        subst this
        rw [List.getElem_append_left hl, List.getElem_append_right (Nat.le_refl _)]
        simp only [Nat.sub_self, List.getElem_cons_zero]
        exact hxl i hl
    · have : i = ls.length := by omega
      subst this
      have hl' : j < ls.length := by omega
      rw [List.getElem_append_right (Nat.le_refl _), List.getElem_append_left hl']
      simp only [Nat.sub_self, List.getElem_cons_zero]
      rcases hxl j hl' with h1 | h1
      · cases hxw : x.words.base with
        | none => exact .inl rfl
        | some a => right; rw [h1]; simp [blkOf]
      · exact .inr (Ne.symm h1)
  · intro i hi
    have hoff : ∀ y : Option Addr, (y = none ∨ blkOf y ≠ blkOf base) → (∀ b, blkOf y = some b → b < w.heap.size) → (y = none ∨ blkOf y ≠ blkOf base') := by
      intro y h1 h2
      rcases h1 with h1 | h1
      · exact .inl h1
      · rcases hb with hb | hb
        · rw [hb]; exact .inr h1
        · rw [hb]; right; intro e; have := h2 _ e; omega
    by_cases hl : i < ls.length
    · rw [List.getElem_append_left hl]; exact hoff _ (h.off i hl) fun b hb => ((h.each i hl).blk_ge b hb).2
    · have : i = ls.length := by simp at hi; omega
      subst this
      rw [List.getElem_append_right (Nat.le_refl _)]
      simp only [Nat.sub_self, List.getElem_cons_zero]
      exact hoff _ hxb fun b hb => (hx.blk_ge b hb).2
/-- a leaf in new words is pushed -/
theorem LvO.pushNew {w w1 w' : World} {N cap cap' : Nat} {base base' : Option Addr} {ls : List Lf} (h : LvO w N base cap ls) (e : Ex w w1) (x : Lf) (hN : N ≤ w.heap.size) (hx : Own w1 w.heap.size 3 1 x.words.base x.words.xs.length x.words.cap (ints x.words.xs))
    (ho : Own w' N 59 2 base' (ls.length + 1) cap' (rowC lfC (ls ++ [x]))) (hg : w1.grownBy w' (blkOf base)) (hb : blkOf base' = blkOf base ∨ blkOf base' = some w1.heap.size) : LvO w' N base' cap' (ls ++ [x]) := by
  have hne : ∀ y : Option Addr, (∀ b, blkOf y = some b → b < w.heap.size) → y = none ∨ blkOf y ≠ blkOf x.words.base := by
    intro y hy
    cases hyc : y with
    | none => exact .inl rfl
    | some a =>
      right; intro e1
      have h1 := hy a.block (by rw [hyc]; rfl)
      have h2 := (hx.blk_ge a.block (by rw [← e1]; rfl)).1
      omega
  refine (h.ex e).push x (hx.mono hN) ?_ (fun i hi => hne _ fun b hb => ((h.each i hi).blk_ge b hb).2) ho hg hb
  rcases hne base (fun b hb => (h.row.blk_ge b hb).2) with h1 | h1
  · cases hxw : x.words.base with
    | none => exact .inl rfl
    | some a => right; rw [h1]; simp [blkOf]
  · exact .inr (Ne.symm h1)
theorem grown_then' {w u v : World} {r : Option Nat} (g : w.grownBy u r) (e : u.grownBy v r) : w.grownBy v r :=
  ⟨e.os.trans g.os, e.tape.trans g.tape, e.output.trans g.output, Nat.le_trans g.size e.size, fun k hk hne => (e.block k (by have := g.size; omega) hne).trans (g.block k hk hne)⟩
theorem LvO.len_le {w : World} {N cap : Nat} {base : Option Addr} {ls : List Lf} (h : LvO w N base cap ls) : ls.length ≤ cap := h.row.le
/-- leaves in ascending order, not too many and not too large -/
structure Asc (ms : List LM) : Prop where
  asc : ms.Pairwise fun x y => x.1 < y.1
  len : ms.length ≤ 1000
  num : ∀ x ∈ ms, -1000000000 ≤ x.1 ∧ x.1 ≤ 1000000000
  wid : ∀ x ∈ ms, x.2.length ≤ 1000
theorem exists_lfB : ∀ ls : List Lf, (∀ x ∈ ls, -1000000000 ≤ x.number ∧ x.number ≤ 1000000000) → ∃ ob : List LfB, ob.map LfB.lf = ls
  | [], _ => ⟨[], rfl⟩
  | x :: t, h => by
    obtain ⟨ob, hob⟩ := exists_lfB t fun y hy => h y (List.mem_cons_of_mem _ hy)
    have hx := h x (List.mem_cons_self ..)
    exact ⟨⟨x, hx.1, hx.2⟩ :: ob, by rw [List.map_cons, hob]⟩
theorem rowC_lfB (ob : List LfB) : rowC lfBC ob = rowC lfC (ob.map LfB.lf) := by
  induction ob with
  | nil => rfl
  | cons a t ih => simp only [rowC, List.flatMap_cons, List.map_cons] at *; rw [ih]; rfl
theorem Tryz.copied (base : Option Addr) (cap : Nat) (ls : List Lf) (w : World) (h : Lvs w base ls) (hA : Asc (ls.map Lf.m)) : CallA Tryz.prog 68 [.slice base ls.length cap] w (RetL w (ls.map Lf.m)) := by
  have hlen : ls.length ≤ 1000 := by simpa using hA.len
  refine callA_intro Tryz.tbOk Tryz.func68 rfl Tryz.ntmps68 Tryz.results68 (by decide) (by simp) ?_
  ((conv => whnf); repeat' (first | ((with_reducible first | refine q1 ?_ | refine q2 ?_); conv => whnf) | (with_reducible refine q3 ?_) | ((with_reducible refine q4 (fun _ => ?_) (fun _ => ?_)) <;> first | (exfalso; omega) | (conv => whnf)) | ((with_reducible first | refine q5 ?_ | refine q6 ?_ | refine q7 ?_ | refine q8 ?_ | refine q9 ?_ | refine q10 ?_ | refine q11 ?_ | refine q12 ?_ | refine q13 ?_ | refine q14 ?_ | refine q15 ?_); conv => whnf) | ((refine q16 (fun _ _ _ _ _ => ?_)); conv => whnf) | ((with_reducible first | refine q17 ?_ | refine q18 ?_ | refine q19 ?_ | refine q20 ?_); conv => whnf)))
  refine loop_rule Tryz.tbOk (Nat × Option Addr × Nat × List Lf) [8, 3] (fun | (k, b, c, out) => [.int .i64 (k:Int), .slice b out.length c])
    (fun | (k, b, c, out), u => k ≤ ls.length ∧ out.length = k ∧ LvO u w.heap.size b c out ∧ out.map Lf.m = (ls.take k).map Lf.m ∧ Ex w u) (fun | (k, _, _, _) => ls.length - k)
    (0, none, 0, []) rfl ⟨by omega, rfl, LvO.none_ _ _, rfl, Ex.refl _⟩ ?_
  rintro ⟨k, b, c, out⟩ u ⟨hk, hok, hO, hm, he⟩ ux
  by_cases hlt : k < ls.length
  · ((conv => whnf); repeat' (first | ((with_reducible first | refine q1 ?_ | refine q2 ?_); conv => whnf) | (with_reducible refine q3 ?_) | ((with_reducible refine q4 (fun _ => ?_) (fun _ => ?_)) <;> first | (exfalso; omega) | (conv => whnf)) | ((with_reducible first | refine q5 ?_ | refine q6 ?_ | refine q7 ?_ | refine q8 ?_ | refine q9 ?_ | refine q10 ?_ | refine q11 ?_ | refine q12 ?_ | refine q13 ?_ | refine q14 ?_ | refine q15 ?_); conv => whnf) | ((refine q16 (fun _ _ _ _ _ => ?_)); conv => whnf) | ((with_reducible first | refine q17 ?_ | refine q18 ?_ | refine q19 ?_ | refine q20 ?_); conv => whnf)))
    refine IdxA.elem (sz := 2) (h.row.ex he) (fun _ => rfl) (by decide) rfl k rfl hlt (fun bb o hb hcell => ?_)
    ((conv => whnf); repeat' (first | ((with_reducible first | refine q1 ?_ | refine q2 ?_); conv => whnf) | (with_reducible refine q3 ?_) | ((with_reducible refine q4 (fun _ => ?_) (fun _ => ?_)) <;> first | (exfalso; omega) | (conv => whnf)) | ((with_reducible first | refine q5 ?_ | refine q6 ?_ | refine q7 ?_ | refine q8 ?_ | refine q9 ?_ | refine q10 ?_ | refine q11 ?_ | refine q12 ?_ | refine q13 ?_ | refine q14 ?_ | refine q15 ?_); conv => whnf) | ((refine q16 (fun _ _ _ _ _ => ?_)); conv => whnf) | ((with_reducible first | refine q17 ?_ | refine q18 ?_ | refine q19 ?_ | refine q20 ?_); conv => whnf)))
    refine LoadN.mk' (vs := lfC ls[k]) rfl (fun j x hj => hcell j x hj) ?_
    ((conv => whnf); repeat' (first | ((with_reducible first | refine q1 ?_ | refine q2 ?_); conv => whnf) | (with_reducible refine q3 ?_) | ((with_reducible refine q4 (fun _ => ?_) (fun _ => ?_)) <;> first | (exfalso; omega) | (conv => whnf)) | ((with_reducible first | refine q5 ?_ | refine q6 ?_ | refine q7 ?_ | refine q8 ?_ | refine q9 ?_ | refine q10 ?_ | refine q11 ?_ | refine q12 ?_ | refine q13 ?_ | refine q14 ?_ | refine q15 ?_); conv => whnf) | ((refine q16 (fun _ _ _ _ _ => ?_)); conv => whnf) | ((with_reducible first | refine q17 ?_ | refine q18 ?_ | refine q19 ?_ | refine q20 ?_); conv => whnf)))
    refine NewA.mk' fun u0 b5 hb5 hs5 he0 hB0 => ?_; ((conv => whnf); repeat' (first | ((with_reducible first | refine q1 ?_ | refine q2 ?_); conv => whnf) | (with_reducible refine q3 ?_) | ((with_reducible refine q4 (fun _ => ?_) (fun _ => ?_)) <;> first | (exfalso; omega) | (conv => whnf)) | ((with_reducible first | refine q5 ?_ | refine q6 ?_ | refine q7 ?_ | refine q8 ?_ | refine q9 ?_ | refine q10 ?_ | refine q11 ?_ | refine q12 ?_ | refine q13 ?_ | refine q14 ?_ | refine q15 ?_); conv => whnf) | ((refine q16 (fun _ _ _ _ _ => ?_)); conv => whnf) | ((with_reducible first | refine q17 ?_ | refine q18 ?_ | refine q19 ?_ | refine q20 ?_); conv => whnf)))
    refine StoreA.var hB0 rfl rfl rfl fun u1 hu1 hB5 => ?_
    have he1 : Ex u u1 := he0.upd hu1 (by omega)
    ((conv => whnf); repeat' (first | ((with_reducible first | refine q1 ?_ | refine q2 ?_); conv => whnf) | (with_reducible refine q3 ?_) | ((with_reducible refine q4 (fun _ => ?_) (fun _ => ?_)) <;> first | (exfalso; omega) | (conv => whnf)) | ((with_reducible first | refine q5 ?_ | refine q6 ?_ | refine q7 ?_ | refine q8 ?_ | refine q9 ?_ | refine q10 ?_ | refine q11 ?_ | refine q12 ?_ | refine q13 ?_ | refine q14 ?_ | refine q15 ?_); conv => whnf) | ((refine q16 (fun _ _ _ _ _ => ?_)); conv => whnf) | ((with_reducible first | refine q17 ?_ | refine q18 ?_ | refine q19 ?_ | refine q20 ?_); conv => whnf)))
    have hbl : ∀ x, blkOf b = some x → x < u.heap.size := fun x hx => (hO.row.blk_ge x hx).2
    have hb5n : some b5 ≠ blkOf b := fun e => by have := hbl b5 e.symm; omega
    refine draw_rule Tryz.tbOk Tryz.mix (fun u2 => u1.grownBy u2 (blkOf b)) (.take 0 (.take 1 (.take 2 (.take 3 (.take 4 (.one 5 (.take 6 (.one 7 (.one 8 (.take 9 (.done))))))))))) (by kernel_rfl) (by kernel_rfl) ?_
    intro u2 hd2
    have hg2 : ∀ {v : World}, Ex u2 v → u1.grownBy v (blkOf b) := fun {v} e => (hd2.ex.tr e).grown _
    refine ⟨hg2 (Ex.refl _), ?_⟩
    have hB52 := hB5.ex hd2.ex
    ((conv => whnf); repeat' (first | ((with_reducible first | refine q1 ?_ | refine q2 ?_); conv => whnf) | (with_reducible refine q3 ?_) | ((with_reducible refine q4 (fun _ => ?_) (fun _ => ?_)) <;> first | (exfalso; omega) | (conv => whnf)) | ((with_reducible first | refine q5 ?_ | refine q6 ?_ | refine q7 ?_ | refine q8 ?_ | refine q9 ?_ | refine q10 ?_ | refine q11 ?_ | refine q12 ?_ | refine q13 ?_ | refine q14 ?_ | refine q15 ?_); conv => whnf) | ((refine q16 (fun _ _ _ _ _ => ?_)); conv => whnf) | ((with_reducible first | refine q17 ?_ | refine q18 ?_ | refine q19 ?_ | refine q20 ?_); conv => whnf)))
    refine Hold1.butR hB5 rfl hb5n ?_
    ((conv => whnf); repeat' (first | ((with_reducible first | refine q1 ?_ | refine q2 ?_); conv => whnf) | (with_reducible refine q3 ?_) | ((with_reducible refine q4 (fun _ => ?_) (fun _ => ?_)) <;> first | (exfalso; omega) | (conv => whnf)) | ((with_reducible first | refine q5 ?_ | refine q6 ?_ | refine q7 ?_ | refine q8 ?_ | refine q9 ?_ | refine q10 ?_ | refine q11 ?_ | refine q12 ?_ | refine q13 ?_ | refine q14 ?_ | refine q15 ?_); conv => whnf) | ((refine q16 (fun _ _ _ _ _ => ?_)); conv => whnf) | ((with_reducible first | refine q17 ?_ | refine q18 ?_ | refine q19 ?_ | refine q20 ?_); conv => whnf)))
    refine Hold1.butR hB5 rfl hb5n ?_
    ((conv => whnf); repeat' (first | ((with_reducible first | refine q1 ?_ | refine q2 ?_); conv => whnf) | (with_reducible refine q3 ?_) | ((with_reducible refine q4 (fun _ => ?_) (fun _ => ?_)) <;> first | (exfalso; omega) | (conv => whnf)) | ((with_reducible first | refine q5 ?_ | refine q6 ?_ | refine q7 ?_ | refine q8 ?_ | refine q9 ?_ | refine q10 ?_ | refine q11 ?_ | refine q12 ?_ | refine q13 ?_ | refine q14 ?_ | refine q15 ?_); conv => whnf) | ((refine q16 (fun _ _ _ _ _ => ?_)); conv => whnf) | ((with_reducible first | refine q17 ?_ | refine q18 ?_ | refine q19 ?_ | refine q20 ?_); conv => whnf)))
    have hsl := h.each _ (List.getElem_mem hlt)
    have hwl : ls[k].words.xs.length ≤ 1000 := hA.wid _ (List.mem_map_of_mem (List.getElem_mem hlt))
    have he02 : Ex w u2 := (he.tr he1).tr hd2.ex
    refine CallA.mono (Tryz.cloneInts ls[k].words.base ls[k].words.cap ls[k].words.xs u2 (hsl.1.ex he02) (by omega)) ?_
    rintro v u3 ⟨bc, cc, rfl, hOc, he3⟩
    refine Anew.mk (hg2 he3) ?_
    ((conv => whnf); repeat' (first | ((with_reducible first | refine q1 ?_ | refine q2 ?_); conv => whnf) | (with_reducible refine q3 ?_) | ((with_reducible refine q4 (fun _ => ?_) (fun _ => ?_)) <;> first | (exfalso; omega) | (conv => whnf)) | ((with_reducible first | refine q5 ?_ | refine q6 ?_ | refine q7 ?_ | refine q8 ?_ | refine q9 ?_ | refine q10 ?_ | refine q11 ?_ | refine q12 ?_ | refine q13 ?_ | refine q14 ?_ | refine q15 ?_); conv => whnf) | ((refine q16 (fun _ _ _ _ _ => ?_)); conv => whnf) | ((with_reducible first | refine q17 ?_ | refine q18 ?_ | refine q19 ?_ | refine q20 ?_); conv => whnf)))
    refine NewS.mk' (cs := lfC ⟨ls[k].number, ⟨bc, cc, ls[k].words.xs⟩⟩) fun u4 b6 hb6 hs6 he6 hB6 => ?_
    have he36 := he3.tr he6
    refine Anew.mk (hg2 he36) ?_
    ((conv => whnf); repeat' (first | ((with_reducible first | refine q1 ?_ | refine q2 ?_); conv => whnf) | (with_reducible refine q3 ?_) | ((with_reducible refine q4 (fun _ => ?_) (fun _ => ?_)) <;> first | (exfalso; omega) | (conv => whnf)) | ((with_reducible first | refine q5 ?_ | refine q6 ?_ | refine q7 ?_ | refine q8 ?_ | refine q9 ?_ | refine q10 ?_ | refine q11 ?_ | refine q12 ?_ | refine q13 ?_ | refine q14 ?_ | refine q15 ?_); conv => whnf) | ((refine q16 (fun _ _ _ _ _ => ?_)); conv => whnf) | ((with_reducible first | refine q17 ?_ | refine q18 ?_ | refine q19 ?_ | refine q20 ?_); conv => whnf)))
    have he4 : Ex u u4 := (he1.tr hd2.ex).tr he36
    have hO4 := hO.ex he4
    refine RunV.append (e := 59) (sz := 2) (by_ := 32) (m := 1) (news := lfC ⟨ls[k].number, ⟨bc, cc, ls[k].words.xs⟩⟩) Tryz.tbOk w.heap.size hO4.row hB6.row rfl rfl (all_one rfl) (by omega) (by omega) rfl (by decide) (by have := (he.tr he4).size; omega) fun u5 b7 c7 ho7 hg7 hb7 => ?_
    refine Anew.mk (grown_then' (hg2 he36) hg7) ?_
    ((conv => whnf); repeat' (first | ((with_reducible first | refine q1 ?_ | refine q2 ?_); conv => whnf) | (with_reducible refine q3 ?_) | ((with_reducible refine q4 (fun _ => ?_) (fun _ => ?_)) <;> first | (exfalso; omega) | (conv => whnf)) | ((with_reducible first | refine q5 ?_ | refine q6 ?_ | refine q7 ?_ | refine q8 ?_ | refine q9 ?_ | refine q10 ?_ | refine q11 ?_ | refine q12 ?_ | refine q13 ?_ | refine q14 ?_ | refine q15 ?_); conv => whnf) | ((refine q16 (fun _ _ _ _ _ => ?_)); conv => whnf) | ((with_reducible first | refine q17 ?_ | refine q18 ?_ | refine q19 ?_ | refine q20 ?_); conv => whnf)))
    obtain ⟨x, hx⟩ : ∃ x : Lf, x = ⟨ls[k].number, ⟨bc, cc, ls[k].words.xs⟩⟩ := ⟨_, rfl⟩
    rw [← hx] at ho7
    rw [show lfC x = rowC lfC [x] from by simp [rowC], ← rowC_append] at ho7
    have hsz2 : u2.heap.size = u1.heap.size := hd2.size
    have hu1s := he1.size
    have hws := he.size
    have hOx : Own u4 u.heap.size 3 1 x.words.base x.words.xs.length x.words.cap (ints x.words.xs) := by rw [hx]; exact (hOc.ex he6).mono (by omega)
    have hL7 := hO.pushNew he4 x hws hOx ho7 hg7 hb7
    refine ⟨(k + 1, b7, c7, out ++ [x]), by simp, ⟨by omega, by simp [hok], hL7, ?_, ?_⟩, by simp only []; omega⟩
    · rw [List.map_append, hm, List.take_succ_eq_append_getElem hlt, List.map_append, hx]; rfl
    · exact (he.tr he4).grow hg7 (fun j hj => (hO.row.blk_ge j hj).1)
  · ((conv => whnf); repeat' (first | ((with_reducible first | refine q1 ?_ | refine q2 ?_); conv => whnf) | (with_reducible refine q3 ?_) | ((with_reducible refine q4 (fun _ => ?_) (fun _ => ?_)) <;> first | (exfalso; omega) | (conv => whnf)) | ((with_reducible first | refine q5 ?_ | refine q6 ?_ | refine q7 ?_ | refine q8 ?_ | refine q9 ?_ | refine q10 ?_ | refine q11 ?_ | refine q12 ?_ | refine q13 ?_ | refine q14 ?_ | refine q15 ?_); conv => whnf) | ((refine q16 (fun _ _ _ _ _ => ?_)); conv => whnf) | ((with_reducible first | refine q17 ?_ | refine q18 ?_ | refine q19 ?_ | refine q20 ?_); conv => whnf)))
    have hkl : k = ls.length := by omega
    subst hkl
    rw [List.take_length] at hm
    have hnum : ∀ x ∈ out, -1000000000 ≤ x.number ∧ x.number ≤ 1000000000 := fun x hx => by
      have : x.m ∈ ls.map Lf.m := by rw [← hm]; exact List.mem_map_of_mem hx
      exact hA.num _ this
    obtain ⟨ob, hob⟩ := exists_lfB out hnum
    have hrow : rowC lfC out = rowC lfBC ob := by rw [← hob]; exact (rowC_lfB ob).symm
    have hobl : out.length = ob.length := by rw [← hob, List.length_map]
    have hasc : ob.Pairwise fun x y => x.lf.number < y.lf.number := by
      have h1 := hA.asc
      rw [← hm, ← hob, List.map_map] at h1
      rw [List.pairwise_map] at h1
      exact h1
    by_cases hnil : out = []
    · subst hnil
      refine CallA.mono (Tryz.sortNoLf b c _ u) ?_
      rintro v w2 rfl
      ((conv => whnf); repeat' (first | ((with_reducible first | refine q1 ?_ | refine q2 ?_); conv => whnf) | (with_reducible refine q3 ?_) | ((with_reducible refine q4 (fun _ => ?_) (fun _ => ?_)) <;> first | (exfalso; omega) | (conv => whnf)) | ((with_reducible first | refine q5 ?_ | refine q6 ?_ | refine q7 ?_ | refine q8 ?_ | refine q9 ?_ | refine q10 ?_ | refine q11 ?_ | refine q12 ?_ | refine q13 ?_ | refine q14 ?_ | refine q15 ?_); conv => whnf) | ((refine q16 (fun _ _ _ _ _ => ?_)); conv => whnf) | ((with_reducible first | refine q17 ?_ | refine q18 ?_ | refine q19 ?_ | refine q20 ?_); conv => whnf)))
      exact ⟨b, c, [], by rw [← hm]; rfl, hO, hm, he⟩
    · have hbn : b ≠ none := by
        obtain ⟨g, hg, _⟩ := hO.row.some_ (by rw [List.length_pos_iff]; exact hnil)
        rw [hg]; simp
      have hOr := hO.row
      rw [hrow, hobl] at hOr
      rw [hobl]
      refine CallA.mono (Tryz.sortLfs b c w.heap.size ob u hOr hbn hasc (by omega)) ?_
      rintro v w2 ⟨ho2, hg2⟩
      ((conv => whnf); repeat' (first | ((with_reducible first | refine q1 ?_ | refine q2 ?_); conv => whnf) | (with_reducible refine q3 ?_) | ((with_reducible refine q4 (fun _ => ?_) (fun _ => ?_)) <;> first | (exfalso; omega) | (conv => whnf)) | ((with_reducible first | refine q5 ?_ | refine q6 ?_ | refine q7 ?_ | refine q8 ?_ | refine q9 ?_ | refine q10 ?_ | refine q11 ?_ | refine q12 ?_ | refine q13 ?_ | refine q14 ?_ | refine q15 ?_); conv => whnf) | ((refine q16 (fun _ _ _ _ _ => ?_)); conv => whnf) | ((with_reducible first | refine q17 ?_ | refine q18 ?_ | refine q19 ?_ | refine q20 ?_); conv => whnf)))
      rw [← hrow, ← hobl] at ho2
      refine ⟨b, c, out, by rw [← hm, List.length_map, hobl], ⟨ho2, fun i hi => (hO.each i hi).grown hg2 (hO.off i hi), hO.apart, hO.off⟩, hm, he.grow hg2 fun j hj => (hO.row.blk_ge j hj).1⟩
end Go.Proofs
