/-
  L49: a part of the proof. By an AI agent.
-/
import Derived.Test.YtpeihahmhpamoaaGreatVQ
import Derived.Test.YtpeihahmhpamoaaGreatV10
import Derived.Test.YtpeihahmhpamoaaGreatV11
import Derived.Test.YtpeihahmhpamoaaGreatL48
set_option linter.all false
namespace Go.V
theorem HoldV.lookup {P : Program} {tb : Tb} {κ : Type} [DecidableEq κ] {kenc : κ → Value} (hok : TbOk P tb) {S : World → Prop} {t kt e b : Nat} {z : Value} {m : List (κ × Value)} {k : κ} {K : Value → Prop} (ht : mapOf tb t = some (kt, e, some z)) (hk : KeyOk P kt kenc) (hm : ∀ w, S w → MapB kenc w b m)
    (h : K ((mget m k).getD z)) : HoldV P S (Instr.lookup t (.map (some b)) (kenc k) false) K :=
  ⟨_, fun w hw => runV_det (RunV.lookup hok (ok := false) ht hk (hm w hw) ⟨rfl, rfl⟩), h⟩
end Go.V
namespace Go.Proofs
open Go.V
open Go.RowKit (Below)
theorem mostAt_mem (l : List LM) : ∀ k, 0 < (mostAt l k).2.1 → (mostAt l k).1 ∈ l
  | 0, h => by simp [mostAt] at h
  | k + 1, h => by
    have ih := mostAt_mem l k
    unfold mostAt at h ⊢
    split
    · rename_i e; rw [e] at h; exact ih h
    · rename_i x e
      rw [e] at h
      simp only [] at h ⊢
      split
      · rename_i c; rw [if_pos c] at h; exact ih h
      · rename_i c; rw [if_neg c] at h
        split
        · exact List.mem_of_getElem? e
        · rename_i c2; rw [if_neg c2] at h; exact ih h
theorem mostM_mem {l : List LM} (h : (mostM l).2 = true) : (mostM l).1 ∈ l := by
  unfold mostM at h ⊢
  simp only [decide_eq_true_eq] at h
  exact mostAt_mem l _ (by omega)
/-- the leaves that copies have in common -/
def joinAt (l : List LM) (i : Nat) : Option LM := if (mostM (l.filter fun x => decide (x.1 = (i : Int) + 1))).2 then some (mostM (l.filter fun x => decide (x.1 = (i : Int) + 1))).1 else none
def joinM (s : Shape) (ms : List (List LM)) : List LM := (List.range (s.data + s.checks).toNat).filterMap (joinAt ms.flatten)
theorem joinAt_num {l : List LM} {i : Nat} {x : LM} (h : joinAt l i = some x) : x.1 = (i : Int) + 1 ∧ x ∈ l := by
  unfold joinAt at h
  split at h
  · rename_i hc
    have := mostM_mem hc
    cases h
    obtain ⟨h1, h2⟩ := List.mem_filter.1 this
    exact ⟨by simpa using h2, h1⟩
  · cases h
theorem joinM_mem {s : Shape} {ms : List (List LM)} {x : LM} (h : x ∈ joinM s ms) : 1 ≤ x.1 ∧ x.1 ≤ ((s.data + s.checks).toNat : Int) ∧ x ∈ ms.flatten := by
  obtain ⟨i, hi, hx⟩ := List.mem_filterMap.1 h
  have h1 := List.mem_range.1 hi
  obtain ⟨h2, h3⟩ := joinAt_num hx
  exact ⟨by omega, by omega, h3⟩
theorem joinM_pair (s : Shape) (ms : List (List LM)) : (joinM s ms).Pairwise fun x y => x.1 < y.1 := by
  unfold joinM
  refine List.Pairwise.filterMap (R := fun a b : Nat => a < b) _ (fun a b hab x hx y hy => ?_) List.pairwise_lt_range
  have h1 := (joinAt_num hx).1
  have h2 := (joinAt_num hy).1
  omega
theorem joinM_asc {s : Shape} (hs : shOk s = true) (ms : List (List LM)) (hw : ∀ x ∈ ms.flatten, x.2.length ≤ 1000) : Asc (joinM s ms) := by
  obtain ⟨hs1, hs2, hs3, hs4, hs5, hs6⟩ := shOk_spec hs
  refine ⟨joinM_pair s ms, ?_, fun x hx => ?_, fun x hx => hw x (joinM_mem hx).2.2⟩
  · unfold joinM
    refine Nat.le_trans (List.length_filterMap_le _ _) ?_
    rw [List.length_range]; omega
  · obtain ⟨h1, h2, _⟩ := joinM_mem hx
    omega
/-- copies that came in -/
structure Cps (w : World) (base : Option Addr) (cs : List Cp) : Prop where
  row : Row w base (rowC cpC cs)
  each : ∀ c ∈ cs, Lvs w c.base c.ls ∧ c.ls.length ≤ c.cap
  all : (cs.flatMap Cp.ls).length ≤ 1000
  wid : ∀ c ∈ cs, ∀ x ∈ c.ls, x.words.xs.length ≤ 1000
theorem Cps.ex {w w' : World} {base : Option Addr} {cs : List Cp} (h : Cps w base cs) (e : Ex w w') : Cps w' base cs := ⟨h.row.ex e, fun c hc => ⟨(h.each c hc).1.ex e, (h.each c hc).2⟩, h.all, h.wid⟩
abbrev RM := Int → Option Addr × Nat × List Lf
structure JM (u : World) (N mb : Nat) (m : List (Int × Value)) (R : RM) (pre : List Lf) : Prop where
  map : MapB (Value.int .i64) u mb m
  get : ∀ n, (mget m n).getD (.slice none 0 0) = .slice (R n).1 (R n).2.2.length (R n).2.1
  own : ∀ n, Own u N 59 2 (R n).1 (R n).2.2.length (R n).2.1 (rowC lfC (R n).2.2)
  apart : ∀ n n', n ≠ n' → (R n).1 = none ∨ blkOf (R n).1 ≠ blkOf (R n').1
  off : ∀ n, (R n).1 = none ∨ blkOf (R n).1 ≠ some mb
  ls : ∀ n, (R n).2.2 = pre.filter fun x => decide (x.number = n)
theorem rowC_snoc {α : Type} (c : α → List Value) (l : List α) (x : α) : rowC c (l ++ [x]) = rowC c l ++ c x := by rw [rowC_append]; simp [rowC]
theorem JM.ex {u u' : World} {N mb : Nat} {m : List (Int × Value)} {R : RM} {pre : List Lf} (h : JM u N mb m R pre) (e : Ex u u') : JM u' N mb m R pre :=
  ⟨h.map.ex e, h.get, fun n => (h.own n).ex e, h.apart, h.off, h.ls⟩
def RM.put (R : RM) (k : Int) (b : Option Addr) (c : Nat) (l : List Lf) : RM := fun n => if n = k then (b, c, l) else R n
theorem JM.step {u u4 u5 u6 : World} {N mb : Nat} {m : List (Int × Value)} {R : RM} {pre : List Lf} (h : JM u N mb m R pre) (e : Ex u u4) (x : Lf) (b7 : Option Addr) (c7 : Nat)
    (ho : Own u5 N 59 2 b7 ((R x.number).2.2.length + 1) c7 (rowC lfC ((R x.number).2.2 ++ [x]))) (hg : u4.grownBy u5 (blkOf (R x.number).1)) (hb : blkOf b7 = blkOf (R x.number).1 ∨ blkOf b7 = some u4.heap.size)
    (hu : Upd u5 u6 mb) (hm : MapB (Value.int .i64) u6 mb (mput m x.number (.slice b7 ((R x.number).2.2.length + 1) c7))) : JM u6 N mb (mput m x.number (.slice b7 ((R x.number).2.2.length + 1) c7)) (RM.put R x.number b7 c7 ((R x.number).2.2 ++ [x])) (pre ++ [x]) := by
  have hsz := e.size
  have hmb := h.map.lt
  have hlt : ∀ n b, blkOf (R n).1 = some b → b < u.heap.size := fun n b hb => ((h.own n).blk_ge b hb).2
  have hap : ∀ n, n ≠ x.number → (R n).1 = none ∨ blkOf (R n).1 ≠ blkOf b7 := by
    intro n hn
    rcases hb with hb | hb
    · rw [hb]; exact h.apart n _ hn
    · right; rw [hb]; intro e1; have := hlt n _ e1; omega
  have hof : b7 = none ∨ blkOf b7 ≠ some mb := by
    cases hb7 : b7 with
    | none => exact .inl rfl
    | some a =>
      right
      rw [hb7] at hb
      rcases hb with hb | hb
      · rw [hb]
        rcases h.off x.number with h1 | h1
        · rw [h1] at hb; cases hb
        · exact h1
      · rw [hb]; intro e1; simp at e1; omega
  refine ⟨hm, ?_, ?_, ?_, ?_, ?_⟩
  · intro n
    rw [mget_put]
    unfold RM.put
    by_cases hn : n = x.number
    · rw [if_pos hn, if_pos hn.symm]; simp
    · rw [if_neg hn, if_neg (Ne.symm hn)]; exact h.get n
  · intro n
    unfold RM.put
    by_cases hn : n = x.number
    · rw [if_pos hn]
      simp only [List.length_append, List.length_cons, List.length_nil, Nat.zero_add]
      exact ho.grown (grown_upd hu) hof
    · rw [if_neg hn]
      exact (((h.own n).ex e).grown hg (h.apart n _ hn)).grown (grown_upd hu) (h.off n)
  · intro n n' hne
    unfold RM.put
    by_cases hn : n = x.number
    · rw [if_pos hn]
      have hn' : n' ≠ x.number := fun e => hne (by rw [hn, e])
      rw [if_neg hn']
      cases hb7 : b7 with
      | none => exact .inl rfl
      | some a =>
        right; intro e1
        rcases hap n' hn' with h1 | h1
        · simp only [h1, blkOf] at e1; cases e1
        · rw [hb7] at h1; exact h1 e1.symm
    · rw [if_neg hn]
      by_cases hn' : n' = x.number
      · rw [if_pos hn']; exact hap n hn
      · rw [if_neg hn']; exact h.apart n n' hne
  · intro n
    unfold RM.put
    by_cases hn : n = x.number
    · rw [if_pos hn]; exact hof
    · rw [if_neg hn]; exact h.off n
  · intro n
    unfold RM.put
    rw [List.filter_append]
    by_cases hn : n = x.number
    · rw [if_pos hn, hn, ← h.ls]; simp
    · rw [if_neg hn, h.ls]; simp [Ne.symm hn]
set_option maxRecDepth 4000 in
theorem Tryz.join (s : Shape) (base : Option Addr) (cap : Nat) (cs : List Cp) (w : World) (hs : shOk s = true) (h : Cps w base cs) (hc : cs.length ≤ cap) (hc1 : cs.length ≤ 100) : CallA Tryz.prog 70 [shV s, .slice base cs.length cap] w (RetL w (joinM s (cs.map Cp.m))) := by
  obtain ⟨hs1, hs2, hs3, hs4, hs5, hs6⟩ := shOk_spec hs
  unfold shV
  refine callA_intro Tryz.tbOk Tryz.func70 rfl Tryz.ntmps70 Tryz.results70 (by decide) (by simp) ?_
  ((conv => whnf); repeat' (first | ((with_reducible first | refine q1 ?_ | refine q2 ?_); conv => whnf) | (with_reducible refine q3 ?_) | ((with_reducible refine q4 (fun _ => ?_) (fun _ => ?_)) <;> first | (exfalso; omega) | (conv => whnf)) | ((with_reducible first | refine q5 ?_ | refine q6 ?_ | refine q7 ?_ | refine q8 ?_ | refine q9 ?_ | refine q10 ?_ | refine q11 ?_ | refine q12 ?_ | refine q13 ?_ | refine q14 ?_ | refine q15 ?_); conv => whnf) | ((refine q16 (fun _ _ _ _ _ => ?_)); conv => whnf) | ((with_reducible first | refine q17 ?_ | refine q18 ?_ | refine q19 ?_ | refine q20 ?_); conv => whnf)))
  refine NewA.mk' fun w1 b2 hb2 hs2 he1 hB2 => ?_; ((conv => whnf); repeat' (first | ((with_reducible first | refine q1 ?_ | refine q2 ?_); conv => whnf) | (with_reducible refine q3 ?_) | ((with_reducible refine q4 (fun _ => ?_) (fun _ => ?_)) <;> first | (exfalso; omega) | (conv => whnf)) | ((with_reducible first | refine q5 ?_ | refine q6 ?_ | refine q7 ?_ | refine q8 ?_ | refine q9 ?_ | refine q10 ?_ | refine q11 ?_ | refine q12 ?_ | refine q13 ?_ | refine q14 ?_ | refine q15 ?_); conv => whnf) | ((refine q16 (fun _ _ _ _ _ => ?_)); conv => whnf) | ((with_reducible first | refine q17 ?_ | refine q18 ?_ | refine q19 ?_ | refine q20 ?_); conv => whnf)))
  obtain ⟨hm0, he0, hs0⟩ := mapB_new (Value.int .i64) w1
  generalize hw2 : w1.alloc (.map #[] 0) = w2 at *
  generalize hbm : w1.heap.size = bm at *
  have he2 : Ex w w2 := he1.tr he0
  have hB22 := hB2.ex he0
  have hz1 := he1.size
  have hz2 := he0.size
  refine loop_rule Tryz.tbOk (Nat × List (Int × Value) × RM) [17] (fun | (k, _, _) => [.int .i64 (k:Int)])
    (fun | (k, m, R), u => k ≤ cs.length ∧ JM u w2.heap.size bm m R ((cs.take k).flatMap Cp.ls) ∧ Blk u b2 (shC s) 23 ∧ Ex w u ∧ w2.heap.size ≤ u.heap.size) (fun | (k, _, _) => cs.length - k)
    (0, [], fun _ => (none, 0, [])) rfl ⟨by omega, ⟨hm0, fun n => rfl, fun n => Own.nil _ _ _ _, fun _ _ _ => .inl rfl, fun _ => .inl rfl, fun _ => rfl⟩, hB22, he2, Nat.le_refl _⟩ ?_
  rintro ⟨k, m, R⟩ u ⟨hk, hJ, hB, he, hzu⟩ ux
  by_cases hlt : k < cs.length
  · have hcell := cpRow_get cs hlt
    ((conv => whnf); repeat' (first | ((with_reducible first | refine q1 ?_ | refine q2 ?_); conv => whnf) | (with_reducible refine q3 ?_) | ((with_reducible refine q4 (fun _ => ?_) (fun _ => ?_)) <;> first | (exfalso; omega) | (conv => whnf)) | ((with_reducible first | refine q5 ?_ | refine q6 ?_ | refine q7 ?_ | refine q8 ?_ | refine q9 ?_ | refine q10 ?_ | refine q11 ?_ | refine q12 ?_ | refine q13 ?_ | refine q14 ?_ | refine q15 ?_); conv => whnf) | ((refine q16 (fun _ _ _ _ _ => ?_)); conv => whnf) | ((with_reducible first | refine q17 ?_ | refine q18 ?_ | refine q19 ?_ | refine q20 ?_); conv => whnf)))
    refine IdxA.elem (sz := 1) (h.row.ex he) (fun _ => rfl) (by decide) rfl k rfl hlt (fun bb oo hb hcell => ?_)
    ((conv => whnf); repeat' (first | ((with_reducible first | refine q1 ?_ | refine q2 ?_); conv => whnf) | (with_reducible refine q3 ?_) | ((with_reducible refine q4 (fun _ => ?_) (fun _ => ?_)) <;> first | (exfalso; omega) | (conv => whnf)) | ((with_reducible first | refine q5 ?_ | refine q6 ?_ | refine q7 ?_ | refine q8 ?_ | refine q9 ?_ | refine q10 ?_ | refine q11 ?_ | refine q12 ?_ | refine q13 ?_ | refine q14 ?_ | refine q15 ?_); conv => whnf) | ((refine q16 (fun _ _ _ _ _ => ?_)); conv => whnf) | ((with_reducible first | refine q17 ?_ | refine q18 ?_ | refine q19 ?_ | refine q20 ?_); conv => whnf)))
    refine Load1.mk' (hcell 0 _ rfl) ?_
    ((conv => whnf); repeat' (first | ((with_reducible first | refine q1 ?_ | refine q2 ?_); conv => whnf) | (with_reducible refine q3 ?_) | ((with_reducible refine q4 (fun _ => ?_) (fun _ => ?_)) <;> first | (exfalso; omega) | (conv => whnf)) | ((with_reducible first | refine q5 ?_ | refine q6 ?_ | refine q7 ?_ | refine q8 ?_ | refine q9 ?_ | refine q10 ?_ | refine q11 ?_ | refine q12 ?_ | refine q13 ?_ | refine q14 ?_ | refine q15 ?_); conv => whnf) | ((refine q16 (fun _ _ _ _ _ => ?_)); conv => whnf) | ((with_reducible first | refine q17 ?_ | refine q18 ?_ | refine q19 ?_ | refine q20 ?_); conv => whnf)))
    have hmem : cs[k] ∈ cs := List.getElem_mem hlt
    obtain ⟨hLv, hLc⟩ := h.each _ hmem
    unfold Cp.val
    refine loop_rule Tryz.tbOk (Nat × List (Int × Value) × RM) [23] (fun | (j, _, _) => [.int .i64 (j:Int)])
      (fun | (j, m, R), v => j ≤ cs[k].ls.length ∧ JM v w2.heap.size bm m R ((cs.take k).flatMap Cp.ls ++ cs[k].ls.take j) ∧ Blk v b2 (shC s) 23 ∧ Ex w v ∧ w2.heap.size ≤ v.heap.size) (fun | (j, _, _) => cs[k].ls.length - j)
      (0, m, R) rfl ⟨by omega, by simpa using hJ, hB, he, hzu⟩ ?_
    rintro ⟨j, m, R⟩ v ⟨hj, hJ, hB, he, hzv⟩ vx
    by_cases hjl : j < cs[k].ls.length
    · ((conv => whnf); repeat' (first | ((with_reducible first | refine q1 ?_ | refine q2 ?_); conv => whnf) | (with_reducible refine q3 ?_) | ((with_reducible refine q4 (fun _ => ?_) (fun _ => ?_)) <;> first | (exfalso; omega) | (conv => whnf)) | ((with_reducible first | refine q5 ?_ | refine q6 ?_ | refine q7 ?_ | refine q8 ?_ | refine q9 ?_ | refine q10 ?_ | refine q11 ?_ | refine q12 ?_ | refine q13 ?_ | refine q14 ?_ | refine q15 ?_); conv => whnf) | ((refine q16 (fun _ _ _ _ _ => ?_)); conv => whnf) | ((with_reducible first | refine q17 ?_ | refine q18 ?_ | refine q19 ?_ | refine q20 ?_); conv => whnf)))
      refine IdxA.elem (sz := 2) (hLv.row.ex he) (fun _ => rfl) (by decide) rfl j rfl hjl (fun bb oo hb hcell => ?_)
      ((conv => whnf); repeat' (first | ((with_reducible first | refine q1 ?_ | refine q2 ?_); conv => whnf) | (with_reducible refine q3 ?_) | ((with_reducible refine q4 (fun _ => ?_) (fun _ => ?_)) <;> first | (exfalso; omega) | (conv => whnf)) | ((with_reducible first | refine q5 ?_ | refine q6 ?_ | refine q7 ?_ | refine q8 ?_ | refine q9 ?_ | refine q10 ?_ | refine q11 ?_ | refine q12 ?_ | refine q13 ?_ | refine q14 ?_ | refine q15 ?_); conv => whnf) | ((refine q16 (fun _ _ _ _ _ => ?_)); conv => whnf) | ((with_reducible first | refine q17 ?_ | refine q18 ?_ | refine q19 ?_ | refine q20 ?_); conv => whnf)))
      refine LoadN.mk' (vs := lfC cs[k].ls[j]) rfl (fun j x hj => hcell j x hj) ?_
      ((conv => whnf); repeat' (first | ((with_reducible first | refine q1 ?_ | refine q2 ?_); conv => whnf) | (with_reducible refine q3 ?_) | ((with_reducible refine q4 (fun _ => ?_) (fun _ => ?_)) <;> first | (exfalso; omega) | (conv => whnf)) | ((with_reducible first | refine q5 ?_ | refine q6 ?_ | refine q7 ?_ | refine q8 ?_ | refine q9 ?_ | refine q10 ?_ | refine q11 ?_ | refine q12 ?_ | refine q13 ?_ | refine q14 ?_ | refine q15 ?_); conv => whnf) | ((refine q16 (fun _ _ _ _ _ => ?_)); conv => whnf) | ((with_reducible first | refine q17 ?_ | refine q18 ?_ | refine q19 ?_ | refine q20 ?_); conv => whnf)))
      refine NewA.mk' fun v0 b9 hb9 hs9 hf0 hB90 => ?_; ((conv => whnf); repeat' (first | ((with_reducible first | refine q1 ?_ | refine q2 ?_); conv => whnf) | (with_reducible refine q3 ?_) | ((with_reducible refine q4 (fun _ => ?_) (fun _ => ?_)) <;> first | (exfalso; omega) | (conv => whnf)) | ((with_reducible first | refine q5 ?_ | refine q6 ?_ | refine q7 ?_ | refine q8 ?_ | refine q9 ?_ | refine q10 ?_ | refine q11 ?_ | refine q12 ?_ | refine q13 ?_ | refine q14 ?_ | refine q15 ?_); conv => whnf) | ((refine q16 (fun _ _ _ _ _ => ?_)); conv => whnf) | ((with_reducible first | refine q17 ?_ | refine q18 ?_ | refine q19 ?_ | refine q20 ?_); conv => whnf)))
      refine StoreA.var hB90 rfl rfl rfl fun v1 hv1 hB9 => ?_
      have hf1 : Ex v v1 := hf0.upd hv1 (by omega)
      ((conv => whnf); repeat' (first | ((with_reducible first | refine q1 ?_ | refine q2 ?_); conv => whnf) | (with_reducible refine q3 ?_) | ((with_reducible refine q4 (fun _ => ?_) (fun _ => ?_)) <;> first | (exfalso; omega) | (conv => whnf)) | ((with_reducible first | refine q5 ?_ | refine q6 ?_ | refine q7 ?_ | refine q8 ?_ | refine q9 ?_ | refine q10 ?_ | refine q11 ?_ | refine q12 ?_ | refine q13 ?_ | refine q14 ?_ | refine q15 ?_); conv => whnf) | ((refine q16 (fun _ _ _ _ _ => ?_)); conv => whnf) | ((with_reducible first | refine q17 ?_ | refine q18 ?_ | refine q19 ?_ | refine q20 ?_); conv => whnf)))
      obtain ⟨nu, hnu⟩ : ∃ nu, nu = cs[k].ls[j].number := ⟨_, rfl⟩
      have hrl := hJ.own nu
      have hbl : ∀ x, blkOf (R nu).1 = some x → x < v.heap.size := fun x hx => (hrl.blk_ge x hx).2
      have hb9n : some b9 ≠ blkOf (R nu).1 := fun e => by have := hbl b9 e.symm; omega
      refine draw_rule Tryz.tbOk Tryz.mix (fun u2 => v1.grownBy u2 (blkOf (R nu).1)) (.take 0 (.take 1 (.take 2 (.take 3 (.take 4 (.take 5 (.take 6 (.take 7 (.one 8 (.one 9 (.fin 10))))))))))) (by kernel_rfl) (by kernel_rfl) ?_
      intro v2 hd2
      have hg2 : ∀ {z : World}, Ex v2 z → v1.grownBy z (blkOf (R nu).1) := fun {z} e => (hd2.ex.tr e).grown _
      refine ⟨hg2 (Ex.refl _), ?_⟩
      ((conv => whnf); repeat' (first | ((with_reducible first | refine q1 ?_ | refine q2 ?_); conv => whnf) | (with_reducible refine q3 ?_) | ((with_reducible refine q4 (fun _ => ?_) (fun _ => ?_)) <;> first | (exfalso; omega) | (conv => whnf)) | ((with_reducible first | refine q5 ?_ | refine q6 ?_ | refine q7 ?_ | refine q8 ?_ | refine q9 ?_ | refine q10 ?_ | refine q11 ?_ | refine q12 ?_ | refine q13 ?_ | refine q14 ?_ | refine q15 ?_); conv => whnf) | ((refine q16 (fun _ _ _ _ _ => ?_)); conv => whnf) | ((with_reducible first | refine q17 ?_ | refine q18 ?_ | refine q19 ?_ | refine q20 ?_); conv => whnf)))
      refine Hold1.butR hB9 rfl hb9n ?_
      ((conv => whnf); repeat' (first | ((with_reducible first | refine q1 ?_ | refine q2 ?_); conv => whnf) | (with_reducible refine q3 ?_) | ((with_reducible refine q4 (fun _ => ?_) (fun _ => ?_)) <;> first | (exfalso; omega) | (conv => whnf)) | ((with_reducible first | refine q5 ?_ | refine q6 ?_ | refine q7 ?_ | refine q8 ?_ | refine q9 ?_ | refine q10 ?_ | refine q11 ?_ | refine q12 ?_ | refine q13 ?_ | refine q14 ?_ | refine q15 ?_); conv => whnf) | ((refine q16 (fun _ _ _ _ _ => ?_)); conv => whnf) | ((with_reducible first | refine q17 ?_ | refine q18 ?_ | refine q19 ?_ | refine q20 ?_); conv => whnf)))
      refine Hold1.butR hB9 rfl hb9n ?_
      ((conv => whnf); repeat' (first | ((with_reducible first | refine q1 ?_ | refine q2 ?_); conv => whnf) | (with_reducible refine q3 ?_) | ((with_reducible refine q4 (fun _ => ?_) (fun _ => ?_)) <;> first | (exfalso; omega) | (conv => whnf)) | ((with_reducible first | refine q5 ?_ | refine q6 ?_ | refine q7 ?_ | refine q8 ?_ | refine q9 ?_ | refine q10 ?_ | refine q11 ?_ | refine q12 ?_ | refine q13 ?_ | refine q14 ?_ | refine q15 ?_); conv => whnf) | ((refine q16 (fun _ _ _ _ _ => ?_)); conv => whnf) | ((with_reducible first | refine q17 ?_ | refine q18 ?_ | refine q19 ?_ | refine q20 ?_); conv => whnf)))
      rw [← hnu]
      have hbmn : some bm ≠ blkOf (R nu).1 := by
        rcases hJ.off nu with h1 | h1
        · rw [h1]; simp [blkOf]
        · exact Ne.symm h1
      refine HoldV.lookup (t := 158) (kt := 3) (e := 52) (k := nu) (m := m) Tryz.tbOk rfl Tryz.key3 (fun z hz => (hJ.map.ex hf1).grown hz hbmn) ?_
      rw [hJ.get nu]
      ((conv => whnf); repeat' (first | ((with_reducible first | refine q1 ?_ | refine q2 ?_); conv => whnf) | (with_reducible refine q3 ?_) | ((with_reducible refine q4 (fun _ => ?_) (fun _ => ?_)) <;> first | (exfalso; omega) | (conv => whnf)) | ((with_reducible first | refine q5 ?_ | refine q6 ?_ | refine q7 ?_ | refine q8 ?_ | refine q9 ?_ | refine q10 ?_ | refine q11 ?_ | refine q12 ?_ | refine q13 ?_ | refine q14 ?_ | refine q15 ?_); conv => whnf) | ((refine q16 (fun _ _ _ _ _ => ?_)); conv => whnf) | ((with_reducible first | refine q17 ?_ | refine q18 ?_ | refine q19 ?_ | refine q20 ?_); conv => whnf)))
      refine HoldN.butR (vs := lfC cs[k].ls[j]) rfl (fun j x hj => by rw [Nat.zero_add]; exact hB9.cell' hj) hb9n ?_
      ((conv => whnf); repeat' (first | ((with_reducible first | refine q1 ?_ | refine q2 ?_); conv => whnf) | (with_reducible refine q3 ?_) | ((with_reducible refine q4 (fun _ => ?_) (fun _ => ?_)) <;> first | (exfalso; omega) | (conv => whnf)) | ((with_reducible first | refine q5 ?_ | refine q6 ?_ | refine q7 ?_ | refine q8 ?_ | refine q9 ?_ | refine q10 ?_ | refine q11 ?_ | refine q12 ?_ | refine q13 ?_ | refine q14 ?_ | refine q15 ?_); conv => whnf) | ((refine q16 (fun _ _ _ _ _ => ?_)); conv => whnf) | ((with_reducible first | refine q17 ?_ | refine q18 ?_ | refine q19 ?_ | refine q20 ?_); conv => whnf)))
      refine NewS.mk' (cs := lfC cs[k].ls[j]) fun v3 b6 hb6 hs6 he6 hB6 => ?_
      refine Anew.mk (hg2 he6) ?_
      ((conv => whnf); repeat' (first | ((with_reducible first | refine q1 ?_ | refine q2 ?_); conv => whnf) | (with_reducible refine q3 ?_) | ((with_reducible refine q4 (fun _ => ?_) (fun _ => ?_)) <;> first | (exfalso; omega) | (conv => whnf)) | ((with_reducible first | refine q5 ?_ | refine q6 ?_ | refine q7 ?_ | refine q8 ?_ | refine q9 ?_ | refine q10 ?_ | refine q11 ?_ | refine q12 ?_ | refine q13 ?_ | refine q14 ?_ | refine q15 ?_); conv => whnf) | ((refine q16 (fun _ _ _ _ _ => ?_)); conv => whnf) | ((with_reducible first | refine q17 ?_ | refine q18 ?_ | refine q19 ?_ | refine q20 ?_); conv => whnf)))
      have he3 : Ex v v3 := (hf1.tr hd2.ex).tr he6
      have hlen : (R nu).2.2.length ≤ 1000 := by
        rw [hJ.ls nu]
        refine Nat.le_trans (List.length_filter_le _ _) (Nat.le_trans ?_ h.all)
        have hpre : ((cs.take k).flatMap Cp.ls ++ cs[k].ls.take j) <+: cs.flatMap Cp.ls := by
          conv => rhs; rw [← List.take_append_drop k cs, List.flatMap_append, List.drop_eq_getElem_cons hlt, List.flatMap_cons]
          refine List.prefix_append_right_inj _ |>.2 ?_
          exact (List.take_prefix _ _).trans (List.prefix_append _ _)
        exact hpre.length_le
      refine RunV.append (e := 59) (sz := 2) (by_ := 32) (m := 1) (news := lfC cs[k].ls[j]) Tryz.tbOk w2.heap.size (hrl.ex he3) hB6.row rfl rfl (all_one rfl) (by omega) (by omega) rfl (by decide) (by have := he3.size; omega) fun v5 b7 c7 ho7 hg7 hb7 => ?_
      refine Anew.mk (grown_then' (hg2 he6) hg7) ?_
      ((conv => whnf); repeat' (first | ((with_reducible first | refine q1 ?_ | refine q2 ?_); conv => whnf) | (with_reducible refine q3 ?_) | ((with_reducible refine q4 (fun _ => ?_) (fun _ => ?_)) <;> first | (exfalso; omega) | (conv => whnf)) | ((with_reducible first | refine q5 ?_ | refine q6 ?_ | refine q7 ?_ | refine q8 ?_ | refine q9 ?_ | refine q10 ?_ | refine q11 ?_ | refine q12 ?_ | refine q13 ?_ | refine q14 ?_ | refine q15 ?_); conv => whnf) | ((refine q16 (fun _ _ _ _ _ => ?_)); conv => whnf) | ((with_reducible first | refine q17 ?_ | refine q18 ?_ | refine q19 ?_ | refine q20 ?_); conv => whnf)))
      have hm5 := ((hJ.map.ex he3).grown hg7 hbmn)
      refine RunU.mapUpdate Tryz.tbOk (t := 158) (kt := 3) (e := 52) (k := nu) rfl Tryz.key3 hm5 fun v6 hu6 hm6 => ?_
      have hlvl := hLv.len
      have hbge : ∀ x, blkOf (R nu).1 = some x → w2.heap.size ≤ x := fun x hx => (hrl.blk_ge x hx).1
      ((conv => whnf); repeat' (first | ((with_reducible first | refine q1 ?_ | refine q2 ?_); conv => whnf) | (with_reducible refine q3 ?_) | ((with_reducible refine q4 (fun _ => ?_) (fun _ => ?_)) <;> first | (exfalso; omega) | (conv => whnf)) | ((with_reducible first | refine q5 ?_ | refine q6 ?_ | refine q7 ?_ | refine q8 ?_ | refine q9 ?_ | refine q10 ?_ | refine q11 ?_ | refine q12 ?_ | refine q13 ?_ | refine q14 ?_ | refine q15 ?_); conv => whnf) | ((refine q16 (fun _ _ _ _ _ => ?_)); conv => whnf) | ((with_reducible first | refine q17 ?_ | refine q18 ?_ | refine q19 ?_ | refine q20 ?_); conv => whnf)))
      have hb2n : some b2 ≠ blkOf (R nu).1 := fun e => by have := hbge b2 e.symm; omega
      refine ⟨(j + 1, mput m nu (.slice b7 ((R nu).2.2.length + 1) c7), RM.put R nu b7 c7 ((R nu).2.2 ++ [cs[k].ls[j]])), rfl, ⟨by omega, ?_, ?_, ?_, ?_⟩, by simp only []; omega⟩
      · rw [List.take_succ_eq_append_getElem hjl, ← List.append_assoc]
        subst hnu
        rw [← rowC_snoc] at ho7
        exact hJ.step he3 cs[k].ls[j] b7 c7 ho7 hg7 hb7 hu6 hm6
      · exact hu6.blk ((hB.ex he3).grown hg7 hb2n) (by omega)
      · exact ((he.tr he3).grow hg7 fun x hx => by have := hbge x hx; omega).upd hu6 (by omega)
      · have := he3.size; have := hg7.size; rw [hu6.size]; omega
    · ((conv => whnf); repeat' (first | ((with_reducible first | refine q1 ?_ | refine q2 ?_); conv => whnf) | (with_reducible refine q3 ?_) | ((with_reducible refine q4 (fun _ => ?_) (fun _ => ?_)) <;> first | (exfalso; omega) | (conv => whnf)) | ((with_reducible first | refine q5 ?_ | refine q6 ?_ | refine q7 ?_ | refine q8 ?_ | refine q9 ?_ | refine q10 ?_ | refine q11 ?_ | refine q12 ?_ | refine q13 ?_ | refine q14 ?_ | refine q15 ?_); conv => whnf) | ((refine q16 (fun _ _ _ _ _ => ?_)); conv => whnf) | ((with_reducible first | refine q17 ?_ | refine q18 ?_ | refine q19 ?_ | refine q20 ?_); conv => whnf)))
      have hjl : j = cs[k].ls.length := by omega
      subst hjl
      refine ⟨(k + 1, m, R), rfl, ⟨by omega, ?_, hB, he, hzv⟩, by simp only []; omega⟩
      rw [List.take_length] at hJ
      rw [List.take_succ_eq_append_getElem hlt, List.flatMap_append]
      simpa using hJ
  · ((conv => whnf); repeat' (first | ((with_reducible first | refine q1 ?_ | refine q2 ?_); conv => whnf) | (with_reducible refine q3 ?_) | ((with_reducible refine q4 (fun _ => ?_) (fun _ => ?_)) <;> first | (exfalso; omega) | (conv => whnf)) | ((with_reducible first | refine q5 ?_ | refine q6 ?_ | refine q7 ?_ | refine q8 ?_ | refine q9 ?_ | refine q10 ?_ | refine q11 ?_ | refine q12 ?_ | refine q13 ?_ | refine q14 ?_ | refine q15 ?_); conv => whnf) | ((refine q16 (fun _ _ _ _ _ => ?_)); conv => whnf) | ((with_reducible first | refine q17 ?_ | refine q18 ?_ | refine q19 ?_ | refine q20 ?_); conv => whnf)))
    have hkl : k = cs.length := by omega
    subst hkl
    rw [List.take_length] at hJ
    obtain ⟨fl, hfl⟩ : ∃ fl, fl = cs.flatMap Cp.ls := ⟨_, rfl⟩
    rw [← hfl] at hJ
    have hall : fl.length ≤ 1000 := by rw [hfl]; exact h.all
    have hflm : (cs.map Cp.m).flatten = fl.map Lf.m := by rw [hfl, List.flatMap, List.map_flatten, List.map_map]; rfl
    have hsl : ∀ x ∈ fl, slInts w x.words ∧ x.words.xs.length ≤ 1000 := by
      intro x hx
      rw [hfl] at hx
      obtain ⟨c, hc, hxc⟩ := List.mem_flatMap.1 hx
      exact ⟨(h.each c hc).1.each x hxc, h.wid c hc x hxc⟩
    have hnl : ((s.data + s.checks).toNat : Int) = s.data + s.checks := by omega
    refine loop_rule Tryz.tbOk (Nat × Option Addr × Nat × List Lf) [11, 10] (fun | (k, b, c, out) => [.int .i64 ((k : Int) + 1), .slice b out.length c])
      (fun | (k, b, c, out), v => k ≤ (s.data + s.checks).toNat ∧ out.length ≤ k ∧ Own v u.heap.size 59 2 b out.length c (rowC lfC out) ∧ Ex u v ∧ out.map Lf.m = (List.range k).filterMap (joinAt (fl.map Lf.m)) ∧ ∀ o ∈ out, o ∈ fl) (fun | (k, _, _, _) => (s.data + s.checks).toNat - k)
      (0, none, 0, []) rfl ⟨by omega, by simp, Own.nil _ _ _ _, Ex.refl _, rfl, by simp⟩ ?_
    rintro ⟨k, b, c, out⟩ v ⟨hk, hol, hO, hev, hm, hof⟩ vx
    have hBv := hB.ex hev
    have hd1 : (shC s)[0]? = some (.int .i64 s.data) := rfl
    have hd2 : (shC s)[1]? = some (.int .i64 s.checks) := rfl
    ((conv => whnf); repeat' (first | ((with_reducible first | refine q1 ?_ | refine q2 ?_); conv => whnf) | (with_reducible refine q3 ?_) | ((with_reducible refine q4 (fun _ => ?_) (fun _ => ?_)) <;> first | (exfalso; omega) | (conv => whnf)) | ((with_reducible first | refine q5 ?_ | refine q6 ?_ | refine q7 ?_ | refine q8 ?_ | refine q9 ?_ | refine q10 ?_ | refine q11 ?_ | refine q12 ?_ | refine q13 ?_ | refine q14 ?_ | refine q15 ?_); conv => whnf) | ((refine q16 (fun _ _ _ _ _ => ?_)); conv => whnf) | ((with_reducible first | refine q17 ?_ | refine q18 ?_ | refine q19 ?_ | refine q20 ?_); conv => whnf)))
    · rename_i hkn
      refine RunV.lookup Tryz.tbOk (ok := false) (t := 158) (kt := 3) (e := 52) (k := (k : Int) + 1) rfl Tryz.key3 (hJ.map.ex hev) ?_
      rw [if_neg (by decide), hJ.get]
      obtain ⟨bb, cc, lr⟩ : Σ' (bb : Option Addr) (cc : Nat), {lr : List Lf // R ((k : Int) + 1) = (bb, cc, lr)} := ⟨_, _, _, rfl⟩
      obtain ⟨lr, hlr⟩ := lr
      have hown := hJ.own ((k : Int) + 1)
      have hls := hJ.ls ((k : Int) + 1)
      rw [hlr] at hown hls
      rw [hlr]
      simp only [] at hown hls
      have hlm : ∀ x ∈ lr, x ∈ fl ∧ x.number = (k : Int) + 1 := by
        intro x hx
        rw [hls] at hx
        obtain ⟨h1, h2⟩ := List.mem_filter.1 hx
        exact ⟨h1, by simpa using h2⟩
      have hlrl : lr.length ≤ 1000 := by rw [hls]; exact Nat.le_trans (List.length_filter_le _ _) hall
      have hfm : (fl.map Lf.m).filter (fun x => decide (x.1 = (k : Int) + 1)) = lr.map Lf.m := by rw [hls, List.filter_map]; rfl
      have hewv : Ex w v := he.tr hev
      ((conv => whnf); repeat' (first | ((with_reducible first | refine q1 ?_ | refine q2 ?_); conv => whnf) | (with_reducible refine q3 ?_) | ((with_reducible refine q4 (fun _ => ?_) (fun _ => ?_)) <;> first | (exfalso; omega) | (conv => whnf)) | ((with_reducible first | refine q5 ?_ | refine q6 ?_ | refine q7 ?_ | refine q8 ?_ | refine q9 ?_ | refine q10 ?_ | refine q11 ?_ | refine q12 ?_ | refine q13 ?_ | refine q14 ?_ | refine q15 ?_); conv => whnf) | ((refine q16 (fun _ _ _ _ _ => ?_)); conv => whnf) | ((with_reducible first | refine q17 ?_ | refine q18 ?_ | refine q19 ?_ | refine q20 ?_); conv => whnf)))
      refine CallA.mono (Tryz.most bb cc lr v ⟨(hown.ex hev).row, by omega, fun x hx => (hsl x (hlm x hx).1).1.ex hewv⟩ hown.le hlrl) ?_
      rintro v1 v2 ⟨o, rfl, hom, hoo, he2⟩
      have hja : joinAt (fl.map Lf.m) k = if (mostM (lr.map Lf.m)).2 then some (mostM (lr.map Lf.m)).1 else none := by unfold joinAt; rw [hfm]
      have hrs : (List.range (k + 1)).filterMap (joinAt (fl.map Lf.m)) = (List.range k).filterMap (joinAt (fl.map Lf.m)) ++ (if (mostM (lr.map Lf.m)).2 then [(mostM (lr.map Lf.m)).1] else []) := by
        rw [List.range_succ, List.filterMap_append, List.filterMap_cons, hja]
        cases (mostM (lr.map Lf.m)).2 <;> rfl
      ((conv => whnf); repeat' (first | ((with_reducible first | refine q1 ?_ | refine q2 ?_); conv => whnf) | (with_reducible refine q3 ?_) | ((with_reducible refine q4 (fun _ => ?_) (fun _ => ?_)) <;> first | (exfalso; omega) | (conv => whnf)) | ((with_reducible first | refine q5 ?_ | refine q6 ?_ | refine q7 ?_ | refine q8 ?_ | refine q9 ?_ | refine q10 ?_ | refine q11 ?_ | refine q12 ?_ | refine q13 ?_ | refine q14 ?_ | refine q15 ?_); conv => whnf) | ((refine q16 (fun _ _ _ _ _ => ?_)); conv => whnf) | ((with_reducible first | refine q17 ?_ | refine q18 ?_ | refine q19 ?_ | refine q20 ?_); conv => whnf)))
      refine NewA.mk' fun v3 b12 hb12 hs12 he3 hB120 => ?_; ((conv => whnf); repeat' (first | ((with_reducible first | refine q1 ?_ | refine q2 ?_); conv => whnf) | (with_reducible refine q3 ?_) | ((with_reducible refine q4 (fun _ => ?_) (fun _ => ?_)) <;> first | (exfalso; omega) | (conv => whnf)) | ((with_reducible first | refine q5 ?_ | refine q6 ?_ | refine q7 ?_ | refine q8 ?_ | refine q9 ?_ | refine q10 ?_ | refine q11 ?_ | refine q12 ?_ | refine q13 ?_ | refine q14 ?_ | refine q15 ?_); conv => whnf) | ((refine q16 (fun _ _ _ _ _ => ?_)); conv => whnf) | ((with_reducible first | refine q17 ?_ | refine q18 ?_ | refine q19 ?_ | refine q20 ?_); conv => whnf)))
      refine StoreA.var hB120 rfl rfl rfl fun v4 hv4 hB12 => ?_
      have he24 : Ex v2 v4 := he3.upd hv4 (by omega)
      have he4 : Ex v v4 := he2.tr he24
      ((conv => whnf); repeat' (first | ((with_reducible first | refine q1 ?_ | refine q2 ?_); conv => whnf) | (with_reducible refine q3 ?_) | ((with_reducible refine q4 (fun _ => ?_) (fun _ => ?_)) <;> first | (exfalso; omega) | (conv => whnf)) | ((with_reducible first | refine q5 ?_ | refine q6 ?_ | refine q7 ?_ | refine q8 ?_ | refine q9 ?_ | refine q10 ?_ | refine q11 ?_ | refine q12 ?_ | refine q13 ?_ | refine q14 ?_ | refine q15 ?_); conv => whnf) | ((refine q16 (fun _ _ _ _ _ => ?_)); conv => whnf) | ((with_reducible first | refine q17 ?_ | refine q18 ?_ | refine q19 ?_ | refine q20 ?_); conv => whnf)))
      refine Br.var (fun hc => ?_) (fun hc => ?_)
      · rw [if_pos hc] at hrs
        have hmm := mostM_mem hc
        rw [← hom] at hmm hrs
        have hof2 : o ∈ fl := by
          rcases hoo with h1 | h1
          · exact (hlm o h1).1
          · obtain ⟨y, hy, hye⟩ := List.mem_map.1 hmm
            have h2 := (hlm y hy).2
            have h3 : y.number = o.number := congrArg Prod.fst hye
            rw [h1] at h3
            simp only [] at h3
            omega
        ((conv => whnf); repeat' (first | ((with_reducible first | refine q1 ?_ | refine q2 ?_); conv => whnf) | (with_reducible refine q3 ?_) | ((with_reducible refine q4 (fun _ => ?_) (fun _ => ?_)) <;> first | (exfalso; omega) | (conv => whnf)) | ((with_reducible first | refine q5 ?_ | refine q6 ?_ | refine q7 ?_ | refine q8 ?_ | refine q9 ?_ | refine q10 ?_ | refine q11 ?_ | refine q12 ?_ | refine q13 ?_ | refine q14 ?_ | refine q15 ?_); conv => whnf) | ((refine q16 (fun _ _ _ _ _ => ?_)); conv => whnf) | ((with_reducible first | refine q17 ?_ | refine q18 ?_ | refine q19 ?_ | refine q20 ?_); conv => whnf)))
        refine NewS.mk' (cs := lfC o) fun v5 b6 hb6 hs6 he6 hB6 => ?_
        ((conv => whnf); repeat' (first | ((with_reducible first | refine q1 ?_ | refine q2 ?_); conv => whnf) | (with_reducible refine q3 ?_) | ((with_reducible refine q4 (fun _ => ?_) (fun _ => ?_)) <;> first | (exfalso; omega) | (conv => whnf)) | ((with_reducible first | refine q5 ?_ | refine q6 ?_ | refine q7 ?_ | refine q8 ?_ | refine q9 ?_ | refine q10 ?_ | refine q11 ?_ | refine q12 ?_ | refine q13 ?_ | refine q14 ?_ | refine q15 ?_); conv => whnf) | ((refine q16 (fun _ _ _ _ _ => ?_)); conv => whnf) | ((with_reducible first | refine q17 ?_ | refine q18 ?_ | refine q19 ?_ | refine q20 ?_); conv => whnf)))
        have he5 : Ex v v5 := he4.tr he6
        refine RunV.append (e := 59) (sz := 2) (by_ := 32) (m := 1) (news := lfC o) Tryz.tbOk u.heap.size (hO.ex he5) hB6.row rfl rfl (all_one rfl) (by omega) (by omega) rfl (by decide) (by have := (hev.tr he5).size; omega) fun v7 b7 c7 ho7 hg7 hb7 => ?_
        ((conv => whnf); repeat' (first | ((with_reducible first | refine q1 ?_ | refine q2 ?_); conv => whnf) | (with_reducible refine q3 ?_) | ((with_reducible refine q4 (fun _ => ?_) (fun _ => ?_)) <;> first | (exfalso; omega) | (conv => whnf)) | ((with_reducible first | refine q5 ?_ | refine q6 ?_ | refine q7 ?_ | refine q8 ?_ | refine q9 ?_ | refine q10 ?_ | refine q11 ?_ | refine q12 ?_ | refine q13 ?_ | refine q14 ?_ | refine q15 ?_); conv => whnf) | ((refine q16 (fun _ _ _ _ _ => ?_)); conv => whnf) | ((with_reducible first | refine q17 ?_ | refine q18 ?_ | refine q19 ?_ | refine q20 ?_); conv => whnf)))
        rw [← rowC_snoc] at ho7
        refine ⟨(k + 1, b7, c7, out ++ [o]), by simp, ⟨by omega, by simp; omega, by rw [List.length_append]; exact ho7, (hev.tr he5).grow hg7 fun x hx => (hO.blk_ge x hx).1, by rw [List.map_append, hm, hrs]; rfl, ?_⟩, by simp only []; omega⟩
        intro y hy
        rcases List.mem_append.1 hy with hy | hy
        · exact hof y hy
        · rw [List.mem_singleton.1 hy]; exact hof2
      · rw [if_neg (by rw [hc]; simp), List.append_nil] at hrs
        ((conv => whnf); repeat' (first | ((with_reducible first | refine q1 ?_ | refine q2 ?_); conv => whnf) | (with_reducible refine q3 ?_) | ((with_reducible refine q4 (fun _ => ?_) (fun _ => ?_)) <;> first | (exfalso; omega) | (conv => whnf)) | ((with_reducible first | refine q5 ?_ | refine q6 ?_ | refine q7 ?_ | refine q8 ?_ | refine q9 ?_ | refine q10 ?_ | refine q11 ?_ | refine q12 ?_ | refine q13 ?_ | refine q14 ?_ | refine q15 ?_); conv => whnf) | ((refine q16 (fun _ _ _ _ _ => ?_)); conv => whnf) | ((with_reducible first | refine q17 ?_ | refine q18 ?_ | refine q19 ?_ | refine q20 ?_); conv => whnf)))
        refine ⟨(k + 1, b, c, out), by simp, ⟨by omega, by omega, hO.ex he4, hev.tr he4, by rw [hm, hrs], hof⟩, by simp only []; omega⟩
    · rename_i hkn
      have hkk : k = (s.data + s.checks).toNat := by omega
      have hj : joinM s (cs.map Cp.m) = out.map Lf.m := by rw [hm, hkk]; unfold joinM; rw [hflm]
      have hA := joinM_asc hs (cs.map Cp.m) (by
        intro x hx
        rw [hflm] at hx
        obtain ⟨y, hy, rfl⟩ := List.mem_map.1 hx
        exact (hsl y hy).2)
      rw [hj] at hA ⊢
      have hewv : Ex w v := he.tr hev
      refine CallA.mono (Tryz.copied b c out v ⟨hO.row, by omega, fun x hx => (hsl x (hof x hx)).1.ex hewv⟩ hA) ?_
      rintro v1 v2 ⟨b9, c9, ls9, rfl, hL9, hm9, he9⟩
      have hz9 := hewv.size
      ((conv => whnf); repeat' (first | ((with_reducible first | refine q1 ?_ | refine q2 ?_); conv => whnf) | (with_reducible refine q3 ?_) | ((with_reducible refine q4 (fun _ => ?_) (fun _ => ?_)) <;> first | (exfalso; omega) | (conv => whnf)) | ((with_reducible first | refine q5 ?_ | refine q6 ?_ | refine q7 ?_ | refine q8 ?_ | refine q9 ?_ | refine q10 ?_ | refine q11 ?_ | refine q12 ?_ | refine q13 ?_ | refine q14 ?_ | refine q15 ?_); conv => whnf) | ((refine q16 (fun _ _ _ _ _ => ?_)); conv => whnf) | ((with_reducible first | refine q17 ?_ | refine q18 ?_ | refine q19 ?_ | refine q20 ?_); conv => whnf)))
      exact ⟨b9, c9, ls9, rfl, hL9.mono hz9, hm9, hewv.tr he9⟩
end Go.Proofs
