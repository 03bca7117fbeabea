/-
  L50: a part of the proof. By an AI agent.
-/
import Derived.Test.YtpeihahmhpamoaaGreatVQ
import Derived.Test.YtpeihahmhpamoaaGreatV10
import Derived.Test.YtpeihahmhpamoaaGreatV11
import Derived.Test.YtpeihahmhpamoaaGreatL49
set_option linter.all false
namespace Go.Proofs
open Go.V
open Go.RowKit (Below)
def firstE (s : Shape) : List (List LM) → Int
  | [] => 0
  | c :: t => if checkLeavesM s c = 0 then firstE s t else checkLeavesM s c
def JoinM (s : Shape) (ms : List (List LM)) : List LM × Int :=
  if shOk s then (if 5 < ms.length then ([], 2) else (if firstE s ms = 0 then (joinM s ms, 0) else ([], firstE s ms))) else ([], 1)
theorem Tryz.Join (s : Shape) (base : Option Addr) (cap : Nat) (cs : List Cp) (w : World) (h : Cps w base cs) (hc : cs.length ≤ cap) (hc1 : cs.length ≤ 100) : CallA Tryz.prog 26 [shV s, .slice base cs.length cap] w (RetLvE w (JoinM s (cs.map Cp.m))) := by
  unfold shV
  refine callA_intro Tryz.tbOk Tryz.func26 rfl Tryz.ntmps26 Tryz.results26 (by decide) (by simp) ?_
  ((conv => whnf); repeat' (first | ((with_reducible first | refine q1 ?_ | refine q2 ?_); conv => whnf) | (with_reducible refine q3 ?_) | ((with_reducible refine q4 (fun _ => ?_) (fun _ => ?_)) <;> first | (exfalso; omega) | (conv => whnf)) | ((with_reducible first | refine q5 ?_ | refine q6 ?_ | refine q7 ?_ | refine q8 ?_ | refine q9 ?_ | refine q10 ?_ | refine q11 ?_ | refine q12 ?_ | refine q13 ?_ | refine q14 ?_ | refine q15 ?_); conv => whnf) | ((refine q16 (fun _ _ _ _ _ => ?_)); conv => whnf) | ((with_reducible first | refine q17 ?_ | refine q18 ?_ | refine q19 ?_ | refine q20 ?_); conv => whnf)))
  refine NewA.mk' fun w1 b2 hb2 hs2 he1 hB2 => ?_; ((conv => whnf); repeat' (first | ((with_reducible first | refine q1 ?_ | refine q2 ?_); conv => whnf) | (with_reducible refine q3 ?_) | ((with_reducible refine q4 (fun _ => ?_) (fun _ => ?_)) <;> first | (exfalso; omega) | (conv => whnf)) | ((with_reducible first | refine q5 ?_ | refine q6 ?_ | refine q7 ?_ | refine q8 ?_ | refine q9 ?_ | refine q10 ?_ | refine q11 ?_ | refine q12 ?_ | refine q13 ?_ | refine q14 ?_ | refine q15 ?_); conv => whnf) | ((refine q16 (fun _ _ _ _ _ => ?_)); conv => whnf) | ((with_reducible first | refine q17 ?_ | refine q18 ?_ | refine q19 ?_ | refine q20 ?_); conv => whnf)))
  refine CallA.mono (Tryz.Check s _) ?_
  rintro v w2 ⟨rfl, he2⟩
  have he12 := he1.tr he2
  have hB22 : Blk w2 b2 (shC s) 23 := hB2.ex he2
  unfold JoinM
  by_cases hsh : shOk s = true
  rotate_left
  · rw [if_neg hsh, if_neg hsh]
    ((conv => whnf); repeat' (first | ((with_reducible first | refine q1 ?_ | refine q2 ?_); conv => whnf) | (with_reducible refine q3 ?_) | ((with_reducible refine q4 (fun _ => ?_) (fun _ => ?_)) <;> first | (exfalso; omega) | (conv => whnf)) | ((with_reducible first | refine q5 ?_ | refine q6 ?_ | refine q7 ?_ | refine q8 ?_ | refine q9 ?_ | refine q10 ?_ | refine q11 ?_ | refine q12 ?_ | refine q13 ?_ | refine q14 ?_ | refine q15 ?_); conv => whnf) | ((refine q16 (fun _ _ _ _ _ => ?_)); conv => whnf) | ((with_reducible first | refine q17 ?_ | refine q18 ?_ | refine q19 ?_ | refine q20 ?_); conv => whnf)))
    exact ⟨none, 0, [], rfl, LvO.none_ _ _, rfl, he12⟩
  rw [if_pos hsh, if_pos hsh, List.length_map]
  ((conv => whnf); repeat' (first | ((with_reducible first | refine q1 ?_ | refine q2 ?_); conv => whnf) | (with_reducible refine q3 ?_) | ((with_reducible refine q4 (fun _ => ?_) (fun _ => ?_)) <;> first | (exfalso; omega) | (conv => whnf)) | ((with_reducible first | refine q5 ?_ | refine q6 ?_ | refine q7 ?_ | refine q8 ?_ | refine q9 ?_ | refine q10 ?_ | refine q11 ?_ | refine q12 ?_ | refine q13 ?_ | refine q14 ?_ | refine q15 ?_); conv => whnf) | ((refine q16 (fun _ _ _ _ _ => ?_)); conv => whnf) | ((with_reducible first | refine q17 ?_ | refine q18 ?_ | refine q19 ?_ | refine q20 ?_); conv => whnf)))
  · rename_i h5
    rw [if_pos (by omega)]
    exact ⟨none, 0, [], rfl, LvO.none_ _ _, rfl, he12⟩
  · rename_i h5
    rw [if_neg (by omega)]
    refine loop_rule Tryz.tbOk Nat [20] (fun k => [.int .i64 (k:Int)]) (fun k u => k ≤ cs.length ∧ firstE s ((cs.map Cp.m).drop k) = firstE s (cs.map Cp.m) ∧ Ex w u ∧ Blk u b2 (shC s) 23) (fun k => cs.length - k) 0 rfl ⟨by omega, by simp, he12, hB22⟩ ?_
    rintro k u ⟨hk, hf, he, hB⟩ ux
    by_cases hlt : k < cs.length
    · ((conv => whnf); repeat' (first | ((with_reducible first | refine q1 ?_ | refine q2 ?_); conv => whnf) | (with_reducible refine q3 ?_) | ((with_reducible refine q4 (fun _ => ?_) (fun _ => ?_)) <;> first | (exfalso; omega) | (conv => whnf)) | ((with_reducible first | refine q5 ?_ | refine q6 ?_ | refine q7 ?_ | refine q8 ?_ | refine q9 ?_ | refine q10 ?_ | refine q11 ?_ | refine q12 ?_ | refine q13 ?_ | refine q14 ?_ | refine q15 ?_); conv => whnf) | ((refine q16 (fun _ _ _ _ _ => ?_)); conv => whnf) | ((with_reducible first | refine q17 ?_ | refine q18 ?_ | refine q19 ?_ | refine q20 ?_); conv => whnf)))
      refine IdxA.elem (sz := 1) (h.row.ex he) (fun _ => rfl) (by decide) rfl k rfl hlt (fun bb oo hb hcell => ?_)
      ((conv => whnf); repeat' (first | ((with_reducible first | refine q1 ?_ | refine q2 ?_); conv => whnf) | (with_reducible refine q3 ?_) | ((with_reducible refine q4 (fun _ => ?_) (fun _ => ?_)) <;> first | (exfalso; omega) | (conv => whnf)) | ((with_reducible first | refine q5 ?_ | refine q6 ?_ | refine q7 ?_ | refine q8 ?_ | refine q9 ?_ | refine q10 ?_ | refine q11 ?_ | refine q12 ?_ | refine q13 ?_ | refine q14 ?_ | refine q15 ?_); conv => whnf) | ((refine q16 (fun _ _ _ _ _ => ?_)); conv => whnf) | ((with_reducible first | refine q17 ?_ | refine q18 ?_ | refine q19 ?_ | refine q20 ?_); conv => whnf)))
      refine Load1.mk' (hcell 0 _ rfl) ?_
      ((conv => whnf); repeat' (first | ((with_reducible first | refine q1 ?_ | refine q2 ?_); conv => whnf) | (with_reducible refine q3 ?_) | ((with_reducible refine q4 (fun _ => ?_) (fun _ => ?_)) <;> first | (exfalso; omega) | (conv => whnf)) | ((with_reducible first | refine q5 ?_ | refine q6 ?_ | refine q7 ?_ | refine q8 ?_ | refine q9 ?_ | refine q10 ?_ | refine q11 ?_ | refine q12 ?_ | refine q13 ?_ | refine q14 ?_ | refine q15 ?_); conv => whnf) | ((refine q16 (fun _ _ _ _ _ => ?_)); conv => whnf) | ((with_reducible first | refine q17 ?_ | refine q18 ?_ | refine q19 ?_ | refine q20 ?_); conv => whnf)))
      have hmem : cs[k] ∈ cs := List.getElem_mem hlt
      obtain ⟨hLv, hLc⟩ := h.each _ hmem
      rw [List.drop_eq_getElem_cons (by simpa using hlt), firstE, List.getElem_map] at hf
      unfold Cp.val
      refine CallA.mono (Tryz.CheckLeaves s cs[k].base cs[k].cap cs[k].ls u (hLv.ex he) hLc) ?_
      rintro v u2 ⟨rfl, he2⟩
      have hB3 := hB.ex he2
      by_cases hz : checkLeavesM s (cs[k].ls.map Lf.m) = 0
      · rw [show cs[k].m = cs[k].ls.map Lf.m from rfl, if_pos hz] at hf
        rw [hz]
        ((conv => whnf); repeat' (first | ((with_reducible first | refine q1 ?_ | refine q2 ?_); conv => whnf) | (with_reducible refine q3 ?_) | ((with_reducible refine q4 (fun _ => ?_) (fun _ => ?_)) <;> first | (exfalso; omega) | (conv => whnf)) | ((with_reducible first | refine q5 ?_ | refine q6 ?_ | refine q7 ?_ | refine q8 ?_ | refine q9 ?_ | refine q10 ?_ | refine q11 ?_ | refine q12 ?_ | refine q13 ?_ | refine q14 ?_ | refine q15 ?_); conv => whnf) | ((refine q16 (fun _ _ _ _ _ => ?_)); conv => whnf) | ((with_reducible first | refine q17 ?_ | refine q18 ?_ | refine q19 ?_ | refine q20 ?_); conv => whnf)))
        exact ⟨k + 1, rfl, ⟨by omega, hf, he.tr he2, hB3⟩, by omega⟩
      · rw [show cs[k].m = cs[k].ls.map Lf.m from rfl, if_neg hz] at hf
        ((conv => whnf); repeat' (first | ((with_reducible first | refine q1 ?_ | refine q2 ?_); conv => whnf) | (with_reducible refine q3 ?_) | ((with_reducible refine q4 (fun _ => ?_) (fun _ => ?_)) <;> first | (exfalso; omega) | (conv => whnf)) | ((with_reducible first | refine q5 ?_ | refine q6 ?_ | refine q7 ?_ | refine q8 ?_ | refine q9 ?_ | refine q10 ?_ | refine q11 ?_ | refine q12 ?_ | refine q13 ?_ | refine q14 ?_ | refine q15 ?_); conv => whnf) | ((refine q16 (fun _ _ _ _ _ => ?_)); conv => whnf) | ((with_reducible first | refine q17 ?_ | refine q18 ?_ | refine q19 ?_ | refine q20 ?_); conv => whnf)))
        rw [← hf, if_neg hz]
        exact ⟨none, 0, [], rfl, LvO.none_ _ _, rfl, he.tr he2⟩
    · ((conv => whnf); repeat' (first | ((with_reducible first | refine q1 ?_ | refine q2 ?_); conv => whnf) | (with_reducible refine q3 ?_) | ((with_reducible refine q4 (fun _ => ?_) (fun _ => ?_)) <;> first | (exfalso; omega) | (conv => whnf)) | ((with_reducible first | refine q5 ?_ | refine q6 ?_ | refine q7 ?_ | refine q8 ?_ | refine q9 ?_ | refine q10 ?_ | refine q11 ?_ | refine q12 ?_ | refine q13 ?_ | refine q14 ?_ | refine q15 ?_); conv => whnf) | ((refine q16 (fun _ _ _ _ _ => ?_)); conv => whnf) | ((with_reducible first | refine q17 ?_ | refine q18 ?_ | refine q19 ?_ | refine q20 ?_); conv => whnf)))
      have hkl : k = cs.length := by omega
      subst hkl
      rw [List.drop_eq_nil_of_le (by simp)] at hf
      have hf0 : firstE s (cs.map Cp.m) = 0 := hf.symm
      refine CallA.mono (Tryz.join s base cap cs u hsh (h.ex he) hc hc1) ?_
      rintro v u2 ⟨b, c, ls, rfl, hL, hm, he2⟩
      have hzu := he.size
      ((conv => whnf); repeat' (first | ((with_reducible first | refine q1 ?_ | refine q2 ?_); conv => whnf) | (with_reducible refine q3 ?_) | ((with_reducible refine q4 (fun _ => ?_) (fun _ => ?_)) <;> first | (exfalso; omega) | (conv => whnf)) | ((with_reducible first | refine q5 ?_ | refine q6 ?_ | refine q7 ?_ | refine q8 ?_ | refine q9 ?_ | refine q10 ?_ | refine q11 ?_ | refine q12 ?_ | refine q13 ?_ | refine q14 ?_ | refine q15 ?_); conv => whnf) | ((refine q16 (fun _ _ _ _ _ => ?_)); conv => whnf) | ((with_reducible first | refine q17 ?_ | refine q18 ?_ | refine q19 ?_ | refine q20 ?_); conv => whnf)))
      rw [if_pos hf0]
      exact ⟨b, c, ls, rfl, hL.mono hzu, hm, he.tr he2⟩
def LinesM (s : Shape) (ms : List (List LM)) : List Line × Int :=
  if (MendM s (joinM s ms)).2.2 = 0 then ReadM s (MendM s (joinM s ms)).1 else ([], (MendM s (joinM s ms)).2.2)
theorem ShO.cpsOf {w : World} {N g r : Nat} {s : Shape} {cs : List Cp} (h : ShO w N g r s cs) (hA : ∀ c ∈ cs.map Cp.m, Asc c) (hall : (cs.flatMap Cp.ls).length ≤ 1000) : Cps w (some ⟨r, 0, none⟩) cs := by
  refine ⟨h.row.row, fun c hc => ?_, hall, fun c hc x hx => (hA c.m (List.mem_map_of_mem hc)).wid _ (List.mem_map_of_mem hx)⟩
  obtain ⟨i, hi, rfl⟩ := List.mem_iff_getElem.1 hc
  have hAc := hA cs[i].m (List.mem_map_of_mem (List.getElem_mem hi))
  have hll : cs[i].ls.length ≤ 1000 := by simpa [Cp.m] using hAc.len
  refine ⟨(h.each i hi).lvs (by omega) fun x hx => ?_, (h.each i hi).len_le⟩
  have : x.words.xs.length ≤ 1000 := hAc.wid _ (List.mem_map_of_mem hx)
  omega
theorem Tryz.Lines (N g : Nat) (s : Shape) (ms : List (List LM)) (F : Nat → Prop) (w : World) (h : ShF w N g s ms F) (hs : shOk s = true) (hl : ms.length ≤ 100) (hA : ∀ c ∈ ms, Asc c) (hall : ms.flatten.length ≤ 1000) :
    CallA Tryz.prog 28 [.pointer (some ⟨g, 0, none⟩)] w (RetLE w (LinesM s ms)) := by
  obtain ⟨r, cs, hI, rfl⟩ := h
  have hO := hI.o
  have hhd := hO.hd
  have hlen : cs.length ≤ 100 := by simpa using hl
  have hcps := hO.cpsOf hA (by
    rw [List.length_flatten, List.map_map] at hall
    rw [List.length_flatMap]
    refine Nat.le_trans (Nat.le_of_eq ?_) hall
    congr 1
    refine List.map_congr_left fun c _ => ?_
    simp [Cp.m])
  refine callA_intro Tryz.tbOk Tryz.func28 rfl Tryz.ntmps28 Tryz.results28 (by decide) (by simp) ?_
  ((conv => whnf); repeat' (first | ((with_reducible first | refine q1 ?_ | refine q2 ?_); conv => whnf) | (with_reducible refine q3 ?_) | ((with_reducible refine q4 (fun _ => ?_) (fun _ => ?_)) <;> first | (exfalso; omega) | (conv => whnf)) | ((with_reducible first | refine q5 ?_ | refine q6 ?_ | refine q7 ?_ | refine q8 ?_ | refine q9 ?_ | refine q10 ?_ | refine q11 ?_ | refine q12 ?_ | refine q13 ?_ | refine q14 ?_ | refine q15 ?_); conv => whnf) | ((refine q16 (fun _ _ _ _ _ => ?_)); conv => whnf) | ((with_reducible first | refine q17 ?_ | refine q18 ?_ | refine q19 ?_ | refine q20 ?_); conv => whnf)))
  refine draw_rule Tryz.tbOk Tryz.mix (fun u2 => Ex w u2) (.take 0 (.take 1 (.take 2 (.take 3 (.take 4 (.take 5 (.take 6 (.take 7 (.take 8 (.take 9 (.take 10 (.take 11 (.two 12 (.two 13 (.take 14 (.take 15 (.take 16 (.one 17 (.one 18 (.take 19 (.done))))))) 17 (.one 13 (.take 14 (.take 15 (.take 16 (.one 18 (.take 19 (.done)))))))) 17 (.one 12 (.one 13 (.take 14 (.take 15 (.take 16 (.one 18 (.take 19 (.done))))))))))))))))))))) (by kernel_rfl) (by kernel_rfl) ?_
  intro w1 hd1
  refine ⟨hd1.ex, ?_⟩
  have hO1 := hO.ex hd1.ex
  ((conv => whnf); repeat' (first | ((with_reducible first | refine q1 ?_ | refine q2 ?_); conv => whnf) | (with_reducible refine q3 ?_) | ((with_reducible refine q4 (fun _ => ?_) (fun _ => ?_)) <;> first | (exfalso; omega) | (conv => whnf)) | ((with_reducible first | refine q5 ?_ | refine q6 ?_ | refine q7 ?_ | refine q8 ?_ | refine q9 ?_ | refine q10 ?_ | refine q11 ?_ | refine q12 ?_ | refine q13 ?_ | refine q14 ?_ | refine q15 ?_); conv => whnf) | ((refine q16 (fun _ _ _ _ _ => ?_)); conv => whnf) | ((with_reducible first | refine q17 ?_ | refine q18 ?_ | refine q19 ?_ | refine q20 ?_); conv => whnf)))
  refine HoldN.mk' (vs := shC s) rfl hO.sh (fun _ h => h) ?_
  ((conv => whnf); repeat' (first | ((with_reducible first | refine q1 ?_ | refine q2 ?_); conv => whnf) | (with_reducible refine q3 ?_) | ((with_reducible refine q4 (fun _ => ?_) (fun _ => ?_)) <;> first | (exfalso; omega) | (conv => whnf)) | ((with_reducible first | refine q5 ?_ | refine q6 ?_ | refine q7 ?_ | refine q8 ?_ | refine q9 ?_ | refine q10 ?_ | refine q11 ?_ | refine q12 ?_ | refine q13 ?_ | refine q14 ?_ | refine q15 ?_); conv => whnf) | ((refine q16 (fun _ _ _ _ _ => ?_)); conv => whnf) | ((with_reducible first | refine q17 ?_ | refine q18 ?_ | refine q19 ?_ | refine q20 ?_); conv => whnf)))
  refine HoldN.mk' (vs := shC s) rfl hO.sh (fun _ h => h) ?_
  ((conv => whnf); repeat' (first | ((with_reducible first | refine q1 ?_ | refine q2 ?_); conv => whnf) | (with_reducible refine q3 ?_) | ((with_reducible refine q4 (fun _ => ?_) (fun _ => ?_)) <;> first | (exfalso; omega) | (conv => whnf)) | ((with_reducible first | refine q5 ?_ | refine q6 ?_ | refine q7 ?_ | refine q8 ?_ | refine q9 ?_ | refine q10 ?_ | refine q11 ?_ | refine q12 ?_ | refine q13 ?_ | refine q14 ?_ | refine q15 ?_); conv => whnf) | ((refine q16 (fun _ _ _ _ _ => ?_)); conv => whnf) | ((with_reducible first | refine q17 ?_ | refine q18 ?_ | refine q19 ?_ | refine q20 ?_); conv => whnf)))
  have hAj := joinM_asc hs (cs.map Cp.m) (fun x hx => by
    obtain ⟨c, hc, hx⟩ := List.mem_flatten.1 hx
    exact (hA c hc).wid x hx)
  refine And2.mk ?_ ?_
  · ((conv => whnf); repeat' (first | ((with_reducible first | refine q1 ?_ | refine q2 ?_); conv => whnf) | (with_reducible refine q3 ?_) | ((with_reducible refine q4 (fun _ => ?_) (fun _ => ?_)) <;> first | (exfalso; omega) | (conv => whnf)) | ((with_reducible first | refine q5 ?_ | refine q6 ?_ | refine q7 ?_ | refine q8 ?_ | refine q9 ?_ | refine q10 ?_ | refine q11 ?_ | refine q12 ?_ | refine q13 ?_ | refine q14 ?_ | refine q15 ?_); conv => whnf) | ((refine q16 (fun _ _ _ _ _ => ?_)); conv => whnf) | ((with_reducible first | refine q17 ?_ | refine q18 ?_ | refine q19 ?_ | refine q20 ?_); conv => whnf)))
    refine CallA.mono (Tryz.join s (some ⟨r, 0, none⟩) cs.length cs w1 hs (hcps.ex hd1.ex) (Nat.le_refl _) hlen) ?_
    rintro v w2 ⟨b, c, ls, rfl, hL, hm, he2⟩
    have he12 := (hd1.ex).tr he2
    refine Anew.mk he12 ?_
    have hjl : (joinM s (cs.map Cp.m)).length = ls.length := by rw [← hm, List.length_map]
    have hAl := hAj
    rw [← hm] at hAl
    rw [hjl]
    have hll : ls.length ≤ 1000 := by simpa using hAl.len
    have hlw : ∀ x ∈ ls, x.words.xs.length < 140737488355328 := fun x hx => by have : x.words.xs.length ≤ 1000 := hAl.wid _ (List.mem_map_of_mem hx); omega
    ((conv => whnf); repeat' (first | ((with_reducible first | refine q1 ?_ | refine q2 ?_); conv => whnf) | (with_reducible refine q3 ?_) | ((with_reducible refine q4 (fun _ => ?_) (fun _ => ?_)) <;> first | (exfalso; omega) | (conv => whnf)) | ((with_reducible first | refine q5 ?_ | refine q6 ?_ | refine q7 ?_ | refine q8 ?_ | refine q9 ?_ | refine q10 ?_ | refine q11 ?_ | refine q12 ?_ | refine q13 ?_ | refine q14 ?_ | refine q15 ?_); conv => whnf) | ((refine q16 (fun _ _ _ _ _ => ?_)); conv => whnf) | ((with_reducible first | refine q17 ?_ | refine q18 ?_ | refine q19 ?_ | refine q20 ?_); conv => whnf)))
    refine And2.mk ?_ ?_
    · ((conv => whnf); repeat' (first | ((with_reducible first | refine q1 ?_ | refine q2 ?_); conv => whnf) | (with_reducible refine q3 ?_) | ((with_reducible refine q4 (fun _ => ?_) (fun _ => ?_)) <;> first | (exfalso; omega) | (conv => whnf)) | ((with_reducible first | refine q5 ?_ | refine q6 ?_ | refine q7 ?_ | refine q8 ?_ | refine q9 ?_ | refine q10 ?_ | refine q11 ?_ | refine q12 ?_ | refine q13 ?_ | refine q14 ?_ | refine q15 ?_); conv => whnf) | ((refine q16 (fun _ _ _ _ _ => ?_)); conv => whnf) | ((with_reducible first | refine q17 ?_ | refine q18 ?_ | refine q19 ?_ | refine q20 ?_); conv => whnf)))
      refine CallA.mono (Tryz.Mend s b c ls w2 ((hL).lvs (by omega) hlw) (hL).len_le) ?_
      rw [hm]
      rintro v w3 ⟨b3, c3, ss, bw, cw, rfl, hS3, hR3, hW3, he3, hF3, hFw⟩
      have he13 := (he12).tr he3
      refine Anew.mk he13 ?_
      ((conv => whnf); repeat' (first | ((with_reducible first | refine q1 ?_ | refine q2 ?_); conv => whnf) | (with_reducible refine q3 ?_) | ((with_reducible refine q4 (fun _ => ?_) (fun _ => ?_)) <;> first | (exfalso; omega) | (conv => whnf)) | ((with_reducible first | refine q5 ?_ | refine q6 ?_ | refine q7 ?_ | refine q8 ?_ | refine q9 ?_ | refine q10 ?_ | refine q11 ?_ | refine q12 ?_ | refine q13 ?_ | refine q14 ?_ | refine q15 ?_); conv => whnf) | ((refine q16 (fun _ _ _ _ _ => ?_)); conv => whnf) | ((with_reducible first | refine q17 ?_ | refine q18 ?_ | refine q19 ?_ | refine q20 ?_); conv => whnf)))
      refine NewA.mk' fun w4 b4 hb4 hs4 he4 hB4 => ?_; ((conv => whnf); repeat' (first | ((with_reducible first | refine q1 ?_ | refine q2 ?_); conv => whnf) | (with_reducible refine q3 ?_) | ((with_reducible refine q4 (fun _ => ?_) (fun _ => ?_)) <;> first | (exfalso; omega) | (conv => whnf)) | ((with_reducible first | refine q5 ?_ | refine q6 ?_ | refine q7 ?_ | refine q8 ?_ | refine q9 ?_ | refine q10 ?_ | refine q11 ?_ | refine q12 ?_ | refine q13 ?_ | refine q14 ?_ | refine q15 ?_); conv => whnf) | ((refine q16 (fun _ _ _ _ _ => ?_)); conv => whnf) | ((with_reducible first | refine q17 ?_ | refine q18 ?_ | refine q19 ?_ | refine q20 ?_); conv => whnf)))
      refine Anew.mk (he13.tr he4) ?_
      ((conv => whnf); repeat' (first | ((with_reducible first | refine q1 ?_ | refine q2 ?_); conv => whnf) | (with_reducible refine q3 ?_) | ((with_reducible refine q4 (fun _ => ?_) (fun _ => ?_)) <;> first | (exfalso; omega) | (conv => whnf)) | ((with_reducible first | refine q5 ?_ | refine q6 ?_ | refine q7 ?_ | refine q8 ?_ | refine q9 ?_ | refine q10 ?_ | refine q11 ?_ | refine q12 ?_ | refine q13 ?_ | refine q14 ?_ | refine q15 ?_); conv => whnf) | ((refine q16 (fun _ _ _ _ _ => ?_)); conv => whnf) | ((with_reducible first | refine q17 ?_ | refine q18 ?_ | refine q19 ?_ | refine q20 ?_); conv => whnf)))
      refine StoreA.var hB4 rfl rfl rfl fun w5 hu5 hB5 => ?_
      have he35 : Ex w3 w5 := he4.upd hu5 (by omega)
      have hS5 := hS3.ex he35
      have he5 := he13.tr he35
      
      refine Anew.mk he5 ?_
      ((conv => whnf); repeat' (first | ((with_reducible first | refine q1 ?_ | refine q2 ?_); conv => whnf) | (with_reducible refine q3 ?_) | ((with_reducible refine q4 (fun _ => ?_) (fun _ => ?_)) <;> first | (exfalso; omega) | (conv => whnf)) | ((with_reducible first | refine q5 ?_ | refine q6 ?_ | refine q7 ?_ | refine q8 ?_ | refine q9 ?_ | refine q10 ?_ | refine q11 ?_ | refine q12 ?_ | refine q13 ?_ | refine q14 ?_ | refine q15 ?_); conv => whnf) | ((refine q16 (fun _ _ _ _ _ => ?_)); conv => whnf) | ((with_reducible first | refine q17 ?_ | refine q18 ?_ | refine q19 ?_ | refine q20 ?_); conv => whnf)))
      · rename_i h0
        have hLM : LinesM s (cs.map Cp.m) = ([], (MendM s (joinM s (cs.map Cp.m))).2.2) := by unfold LinesM; rw [if_neg h0]
        rw [hLM]
        exact RetLE.nil he5
      · rename_i h0
        have h0 := Decidable.not_not.1 h0
        have hLM : LinesM s (cs.map Cp.m) = ReadM s (MendM s (joinM s (cs.map Cp.m))).1 := by unfold LinesM; rw [if_pos h0]
        rw [hLM, ← hR3]
        have hO5 := hO.ex he5
        refine draw_rule Tryz.tbOk Tryz.mix (fun u2 => Ex w5 u2) (.take 0 (.take 1 (.take 2 (.take 3 (.take 4 (.take 5 (.one 6 (.take 7 (.take 8 (.take 9 (.take 10 (.done)))))))))))) (by kernel_rfl) (by kernel_rfl) ?_
        intro w6 hd6
        refine ⟨hd6.ex, ?_⟩
        ((conv => whnf); repeat' (first | ((with_reducible first | refine q1 ?_ | refine q2 ?_); conv => whnf) | (with_reducible refine q3 ?_) | ((with_reducible refine q4 (fun _ => ?_) (fun _ => ?_)) <;> first | (exfalso; omega) | (conv => whnf)) | ((with_reducible first | refine q5 ?_ | refine q6 ?_ | refine q7 ?_ | refine q8 ?_ | refine q9 ?_ | refine q10 ?_ | refine q11 ?_ | refine q12 ?_ | refine q13 ?_ | refine q14 ?_ | refine q15 ?_); conv => whnf) | ((refine q16 (fun _ _ _ _ _ => ?_)); conv => whnf) | ((with_reducible first | refine q17 ?_ | refine q18 ?_ | refine q19 ?_ | refine q20 ?_); conv => whnf)))
        refine HoldN.mk' (vs := shC s) rfl hO5.sh (fun _ h => h) ?_
        ((conv => whnf); repeat' (first | ((with_reducible first | refine q1 ?_ | refine q2 ?_); conv => whnf) | (with_reducible refine q3 ?_) | ((with_reducible refine q4 (fun _ => ?_) (fun _ => ?_)) <;> first | (exfalso; omega) | (conv => whnf)) | ((with_reducible first | refine q5 ?_ | refine q6 ?_ | refine q7 ?_ | refine q8 ?_ | refine q9 ?_ | refine q10 ?_ | refine q11 ?_ | refine q12 ?_ | refine q13 ?_ | refine q14 ?_ | refine q15 ?_); conv => whnf) | ((refine q16 (fun _ _ _ _ _ => ?_)); conv => whnf) | ((with_reducible first | refine q17 ?_ | refine q18 ?_ | refine q19 ?_ | refine q20 ?_); conv => whnf)))
        refine CallA.mono (Tryz.Read s b3 c3 ss w6 (hS5.ex hd6.ex)) ?_
        rintro v w7 ⟨b7, c7, rfl, ho7, he7⟩
        refine Anew.mk (hd6.ex.tr he7) ?_
        have hz := (he5.tr hd6.ex).size
        ((conv => whnf); repeat' (first | ((with_reducible first | refine q1 ?_ | refine q2 ?_); conv => whnf) | (with_reducible refine q3 ?_) | ((with_reducible refine q4 (fun _ => ?_) (fun _ => ?_)) <;> first | (exfalso; omega) | (conv => whnf)) | ((with_reducible first | refine q5 ?_ | refine q6 ?_ | refine q7 ?_ | refine q8 ?_ | refine q9 ?_ | refine q10 ?_ | refine q11 ?_ | refine q12 ?_ | refine q13 ?_ | refine q14 ?_ | refine q15 ?_); conv => whnf) | ((refine q16 (fun _ _ _ _ _ => ?_)); conv => whnf) | ((with_reducible first | refine q17 ?_ | refine q18 ?_ | refine q19 ?_ | refine q20 ?_); conv => whnf)))
        exact ⟨b7, c7, rfl, ho7.mono hz, (he5.tr hd6.ex).tr he7⟩
    · ((conv => whnf); repeat' (first | ((with_reducible first | refine q1 ?_ | refine q2 ?_); conv => whnf) | (with_reducible refine q3 ?_) | ((with_reducible refine q4 (fun _ => ?_) (fun _ => ?_)) <;> first | (exfalso; omega) | (conv => whnf)) | ((with_reducible first | refine q5 ?_ | refine q6 ?_ | refine q7 ?_ | refine q8 ?_ | refine q9 ?_ | refine q10 ?_ | refine q11 ?_ | refine q12 ?_ | refine q13 ?_ | refine q14 ?_ | refine q15 ?_); conv => whnf) | ((refine q16 (fun _ _ _ _ _ => ?_)); conv => whnf) | ((with_reducible first | refine q17 ?_ | refine q18 ?_ | refine q19 ?_ | refine q20 ?_); conv => whnf)))
      refine NewA.mk' fun w2' b4 hb4 hs4 he4 hB4 => ?_; ((conv => whnf); repeat' (first | ((with_reducible first | refine q1 ?_ | refine q2 ?_); conv => whnf) | (with_reducible refine q3 ?_) | ((with_reducible refine q4 (fun _ => ?_) (fun _ => ?_)) <;> first | (exfalso; omega) | (conv => whnf)) | ((with_reducible first | refine q5 ?_ | refine q6 ?_ | refine q7 ?_ | refine q8 ?_ | refine q9 ?_ | refine q10 ?_ | refine q11 ?_ | refine q12 ?_ | refine q13 ?_ | refine q14 ?_ | refine q15 ?_); conv => whnf) | ((refine q16 (fun _ _ _ _ _ => ?_)); conv => whnf) | ((with_reducible first | refine q17 ?_ | refine q18 ?_ | refine q19 ?_ | refine q20 ?_); conv => whnf)))
      refine Anew.mk (he12.tr he4) ?_
      ((conv => whnf); repeat' (first | ((with_reducible first | refine q1 ?_ | refine q2 ?_); conv => whnf) | (with_reducible refine q3 ?_) | ((with_reducible refine q4 (fun _ => ?_) (fun _ => ?_)) <;> first | (exfalso; omega) | (conv => whnf)) | ((with_reducible first | refine q5 ?_ | refine q6 ?_ | refine q7 ?_ | refine q8 ?_ | refine q9 ?_ | refine q10 ?_ | refine q11 ?_ | refine q12 ?_ | refine q13 ?_ | refine q14 ?_ | refine q15 ?_); conv => whnf) | ((refine q16 (fun _ _ _ _ _ => ?_)); conv => whnf) | ((with_reducible first | refine q17 ?_ | refine q18 ?_ | refine q19 ?_ | refine q20 ?_); conv => whnf)))
      refine CallA.mono (Tryz.Mend s b c ls w2' ((hL.ex he4).lvs (by omega) hlw) (hL.ex he4).len_le) ?_
      rw [hm]
      rintro v w3 ⟨b3, c3, ss, bw, cw, rfl, hS3, hR3, hW3, he3, hF3, hFw⟩
      have he13 := (he12.tr he4).tr he3
      refine Anew.mk he13 ?_
      ((conv => whnf); repeat' (first | ((with_reducible first | refine q1 ?_ | refine q2 ?_); conv => whnf) | (with_reducible refine q3 ?_) | ((with_reducible refine q4 (fun _ => ?_) (fun _ => ?_)) <;> first | (exfalso; omega) | (conv => whnf)) | ((with_reducible first | refine q5 ?_ | refine q6 ?_ | refine q7 ?_ | refine q8 ?_ | refine q9 ?_ | refine q10 ?_ | refine q11 ?_ | refine q12 ?_ | refine q13 ?_ | refine q14 ?_ | refine q15 ?_); conv => whnf) | ((refine q16 (fun _ _ _ _ _ => ?_)); conv => whnf) | ((with_reducible first | refine q17 ?_ | refine q18 ?_ | refine q19 ?_ | refine q20 ?_); conv => whnf)))
      have hB43 := hB4.ex he3
      refine StoreA.var hB43 rfl rfl rfl fun w5 hu5 hB5 => ?_
      have hS5 := Sls.upd hS3 hu5 hF3 (by have := hB4.lt; omega)
      have he5 := he13.upd hu5 (by have := he12.size; omega)
      
      refine Anew.mk he5 ?_
      ((conv => whnf); repeat' (first | ((with_reducible first | refine q1 ?_ | refine q2 ?_); conv => whnf) | (with_reducible refine q3 ?_) | ((with_reducible refine q4 (fun _ => ?_) (fun _ => ?_)) <;> first | (exfalso; omega) | (conv => whnf)) | ((with_reducible first | refine q5 ?_ | refine q6 ?_ | refine q7 ?_ | refine q8 ?_ | refine q9 ?_ | refine q10 ?_ | refine q11 ?_ | refine q12 ?_ | refine q13 ?_ | refine q14 ?_ | refine q15 ?_); conv => whnf) | ((refine q16 (fun _ _ _ _ _ => ?_)); conv => whnf) | ((with_reducible first | refine q17 ?_ | refine q18 ?_ | refine q19 ?_ | refine q20 ?_); conv => whnf)))
      · rename_i h0
        have hLM : LinesM s (cs.map Cp.m) = ([], (MendM s (joinM s (cs.map Cp.m))).2.2) := by unfold LinesM; rw [if_neg h0]
        rw [hLM]
        exact RetLE.nil he5
      · rename_i h0
        have h0 := Decidable.not_not.1 h0
        have hLM : LinesM s (cs.map Cp.m) = ReadM s (MendM s (joinM s (cs.map Cp.m))).1 := by unfold LinesM; rw [if_pos h0]
        rw [hLM, ← hR3]
        have hO5 := hO.ex he5
        refine draw_rule Tryz.tbOk Tryz.mix (fun u2 => Ex w5 u2) (.take 0 (.take 1 (.take 2 (.take 3 (.take 4 (.take 5 (.one 6 (.take 7 (.take 8 (.take 9 (.take 10 (.done)))))))))))) (by kernel_rfl) (by kernel_rfl) ?_
        intro w6 hd6
        refine ⟨hd6.ex, ?_⟩
        ((conv => whnf); repeat' (first | ((with_reducible first | refine q1 ?_ | refine q2 ?_); conv => whnf) | (with_reducible refine q3 ?_) | ((with_reducible refine q4 (fun _ => ?_) (fun _ => ?_)) <;> first | (exfalso; omega) | (conv => whnf)) | ((with_reducible first | refine q5 ?_ | refine q6 ?_ | refine q7 ?_ | refine q8 ?_ | refine q9 ?_ | refine q10 ?_ | refine q11 ?_ | refine q12 ?_ | refine q13 ?_ | refine q14 ?_ | refine q15 ?_); conv => whnf) | ((refine q16 (fun _ _ _ _ _ => ?_)); conv => whnf) | ((with_reducible first | refine q17 ?_ | refine q18 ?_ | refine q19 ?_ | refine q20 ?_); conv => whnf)))
        refine HoldN.mk' (vs := shC s) rfl hO5.sh (fun _ h => h) ?_
        ((conv => whnf); repeat' (first | ((with_reducible first | refine q1 ?_ | refine q2 ?_); conv => whnf) | (with_reducible refine q3 ?_) | ((with_reducible refine q4 (fun _ => ?_) (fun _ => ?_)) <;> first | (exfalso; omega) | (conv => whnf)) | ((with_reducible first | refine q5 ?_ | refine q6 ?_ | refine q7 ?_ | refine q8 ?_ | refine q9 ?_ | refine q10 ?_ | refine q11 ?_ | refine q12 ?_ | refine q13 ?_ | refine q14 ?_ | refine q15 ?_); conv => whnf) | ((refine q16 (fun _ _ _ _ _ => ?_)); conv => whnf) | ((with_reducible first | refine q17 ?_ | refine q18 ?_ | refine q19 ?_ | refine q20 ?_); conv => whnf)))
        refine CallA.mono (Tryz.Read s b3 c3 ss w6 (hS5.ex hd6.ex)) ?_
        rintro v w7 ⟨b7, c7, rfl, ho7, he7⟩
        refine Anew.mk (hd6.ex.tr he7) ?_
        have hz := (he5.tr hd6.ex).size
        ((conv => whnf); repeat' (first | ((with_reducible first | refine q1 ?_ | refine q2 ?_); conv => whnf) | (with_reducible refine q3 ?_) | ((with_reducible refine q4 (fun _ => ?_) (fun _ => ?_)) <;> first | (exfalso; omega) | (conv => whnf)) | ((with_reducible first | refine q5 ?_ | refine q6 ?_ | refine q7 ?_ | refine q8 ?_ | refine q9 ?_ | refine q10 ?_ | refine q11 ?_ | refine q12 ?_ | refine q13 ?_ | refine q14 ?_ | refine q15 ?_); conv => whnf) | ((refine q16 (fun _ _ _ _ _ => ?_)); conv => whnf) | ((with_reducible first | refine q17 ?_ | refine q18 ?_ | refine q19 ?_ | refine q20 ?_); conv => whnf)))
        exact ⟨b7, c7, rfl, ho7.mono hz, (he5.tr hd6.ex).tr he7⟩
  · ((conv => whnf); repeat' (first | ((with_reducible first | refine q1 ?_ | refine q2 ?_); conv => whnf) | (with_reducible refine q3 ?_) | ((with_reducible refine q4 (fun _ => ?_) (fun _ => ?_)) <;> first | (exfalso; omega) | (conv => whnf)) | ((with_reducible first | refine q5 ?_ | refine q6 ?_ | refine q7 ?_ | refine q8 ?_ | refine q9 ?_ | refine q10 ?_ | refine q11 ?_ | refine q12 ?_ | refine q13 ?_ | refine q14 ?_ | refine q15 ?_); conv => whnf) | ((refine q16 (fun _ _ _ _ _ => ?_)); conv => whnf) | ((with_reducible first | refine q17 ?_ | refine q18 ?_ | refine q19 ?_ | refine q20 ?_); conv => whnf)))
    refine NewA.mk' fun w1' b4 hb4 hs4 he4 hB4 => ?_; ((conv => whnf); repeat' (first | ((with_reducible first | refine q1 ?_ | refine q2 ?_); conv => whnf) | (with_reducible refine q3 ?_) | ((with_reducible refine q4 (fun _ => ?_) (fun _ => ?_)) <;> first | (exfalso; omega) | (conv => whnf)) | ((with_reducible first | refine q5 ?_ | refine q6 ?_ | refine q7 ?_ | refine q8 ?_ | refine q9 ?_ | refine q10 ?_ | refine q11 ?_ | refine q12 ?_ | refine q13 ?_ | refine q14 ?_ | refine q15 ?_); conv => whnf) | ((refine q16 (fun _ _ _ _ _ => ?_)); conv => whnf) | ((with_reducible first | refine q17 ?_ | refine q18 ?_ | refine q19 ?_ | refine q20 ?_); conv => whnf)))
    refine Anew.mk (hd1.ex.tr he4) ?_
    ((conv => whnf); repeat' (first | ((with_reducible first | refine q1 ?_ | refine q2 ?_); conv => whnf) | (with_reducible refine q3 ?_) | ((with_reducible refine q4 (fun _ => ?_) (fun _ => ?_)) <;> first | (exfalso; omega) | (conv => whnf)) | ((with_reducible first | refine q5 ?_ | refine q6 ?_ | refine q7 ?_ | refine q8 ?_ | refine q9 ?_ | refine q10 ?_ | refine q11 ?_ | refine q12 ?_ | refine q13 ?_ | refine q14 ?_ | refine q15 ?_); conv => whnf) | ((refine q16 (fun _ _ _ _ _ => ?_)); conv => whnf) | ((with_reducible first | refine q17 ?_ | refine q18 ?_ | refine q19 ?_ | refine q20 ?_); conv => whnf)))
    refine CallA.mono (Tryz.join s (some ⟨r, 0, none⟩) cs.length cs w1' hs (hcps.ex (hd1.ex.tr he4)) (Nat.le_refl _) hlen) ?_
    rintro v w2 ⟨b, c, ls, rfl, hL, hm, he2⟩
    have he12 := (hd1.ex.tr he4).tr he2
    refine Anew.mk he12 ?_
    have hjl : (joinM s (cs.map Cp.m)).length = ls.length := by rw [← hm, List.length_map]
    have hAl := hAj
    rw [← hm] at hAl
    rw [hjl]
    have hll : ls.length ≤ 1000 := by simpa using hAl.len
    have hlw : ∀ x ∈ ls, x.words.xs.length < 140737488355328 := fun x hx => by have : x.words.xs.length ≤ 1000 := hAl.wid _ (List.mem_map_of_mem hx); omega
    ((conv => whnf); repeat' (first | ((with_reducible first | refine q1 ?_ | refine q2 ?_); conv => whnf) | (with_reducible refine q3 ?_) | ((with_reducible refine q4 (fun _ => ?_) (fun _ => ?_)) <;> first | (exfalso; omega) | (conv => whnf)) | ((with_reducible first | refine q5 ?_ | refine q6 ?_ | refine q7 ?_ | refine q8 ?_ | refine q9 ?_ | refine q10 ?_ | refine q11 ?_ | refine q12 ?_ | refine q13 ?_ | refine q14 ?_ | refine q15 ?_); conv => whnf) | ((refine q16 (fun _ _ _ _ _ => ?_)); conv => whnf) | ((with_reducible first | refine q17 ?_ | refine q18 ?_ | refine q19 ?_ | refine q20 ?_); conv => whnf)))
    refine CallA.mono (Tryz.Mend s b c ls w2 ((hL).lvs (by omega) hlw) (hL).len_le) ?_
    rw [hm]
    rintro v w3 ⟨b3, c3, ss, bw, cw, rfl, hS3, hR3, hW3, he3, hF3, hFw⟩
    have he13 := (he12).tr he3
    refine Anew.mk he13 ?_
    ((conv => whnf); repeat' (first | ((with_reducible first | refine q1 ?_ | refine q2 ?_); conv => whnf) | (with_reducible refine q3 ?_) | ((with_reducible refine q4 (fun _ => ?_) (fun _ => ?_)) <;> first | (exfalso; omega) | (conv => whnf)) | ((with_reducible first | refine q5 ?_ | refine q6 ?_ | refine q7 ?_ | refine q8 ?_ | refine q9 ?_ | refine q10 ?_ | refine q11 ?_ | refine q12 ?_ | refine q13 ?_ | refine q14 ?_ | refine q15 ?_); conv => whnf) | ((refine q16 (fun _ _ _ _ _ => ?_)); conv => whnf) | ((with_reducible first | refine q17 ?_ | refine q18 ?_ | refine q19 ?_ | refine q20 ?_); conv => whnf)))
    have hB43 := (hB4.ex he2).ex he3
    refine StoreA.var hB43 rfl rfl rfl fun w5 hu5 hB5 => ?_
    have hS5 := Sls.upd hS3 hu5 hF3 (by have := (hB4.ex he2).lt; omega)
    have he5 := he13.upd hu5 (by have := hd1.ex.size; omega)
    
    refine Anew.mk he5 ?_
    ((conv => whnf); repeat' (first | ((with_reducible first | refine q1 ?_ | refine q2 ?_); conv => whnf) | (with_reducible refine q3 ?_) | ((with_reducible refine q4 (fun _ => ?_) (fun _ => ?_)) <;> first | (exfalso; omega) | (conv => whnf)) | ((with_reducible first | refine q5 ?_ | refine q6 ?_ | refine q7 ?_ | refine q8 ?_ | refine q9 ?_ | refine q10 ?_ | refine q11 ?_ | refine q12 ?_ | refine q13 ?_ | refine q14 ?_ | refine q15 ?_); conv => whnf) | ((refine q16 (fun _ _ _ _ _ => ?_)); conv => whnf) | ((with_reducible first | refine q17 ?_ | refine q18 ?_ | refine q19 ?_ | refine q20 ?_); conv => whnf)))
    · rename_i h0
      have hLM : LinesM s (cs.map Cp.m) = ([], (MendM s (joinM s (cs.map Cp.m))).2.2) := by unfold LinesM; rw [if_neg h0]
      rw [hLM]
      exact RetLE.nil he5
    · rename_i h0
      have h0 := Decidable.not_not.1 h0
      have hLM : LinesM s (cs.map Cp.m) = ReadM s (MendM s (joinM s (cs.map Cp.m))).1 := by unfold LinesM; rw [if_pos h0]
      rw [hLM, ← hR3]
      have hO5 := hO.ex he5
      refine draw_rule Tryz.tbOk Tryz.mix (fun u2 => Ex w5 u2) (.take 0 (.take 1 (.take 2 (.take 3 (.take 4 (.take 5 (.one 6 (.take 7 (.take 8 (.take 9 (.take 10 (.done)))))))))))) (by kernel_rfl) (by kernel_rfl) ?_
      intro w6 hd6
      refine ⟨hd6.ex, ?_⟩
      ((conv => whnf); repeat' (first | ((with_reducible first | refine q1 ?_ | refine q2 ?_); conv => whnf) | (with_reducible refine q3 ?_) | ((with_reducible refine q4 (fun _ => ?_) (fun _ => ?_)) <;> first | (exfalso; omega) | (conv => whnf)) | ((with_reducible first | refine q5 ?_ | refine q6 ?_ | refine q7 ?_ | refine q8 ?_ | refine q9 ?_ | refine q10 ?_ | refine q11 ?_ | refine q12 ?_ | refine q13 ?_ | refine q14 ?_ | refine q15 ?_); conv => whnf) | ((refine q16 (fun _ _ _ _ _ => ?_)); conv => whnf) | ((with_reducible first | refine q17 ?_ | refine q18 ?_ | refine q19 ?_ | refine q20 ?_); conv => whnf)))
      refine HoldN.mk' (vs := shC s) rfl hO5.sh (fun _ h => h) ?_
      ((conv => whnf); repeat' (first | ((with_reducible first | refine q1 ?_ | refine q2 ?_); conv => whnf) | (with_reducible refine q3 ?_) | ((with_reducible refine q4 (fun _ => ?_) (fun _ => ?_)) <;> first | (exfalso; omega) | (conv => whnf)) | ((with_reducible first | refine q5 ?_ | refine q6 ?_ | refine q7 ?_ | refine q8 ?_ | refine q9 ?_ | refine q10 ?_ | refine q11 ?_ | refine q12 ?_ | refine q13 ?_ | refine q14 ?_ | refine q15 ?_); conv => whnf) | ((refine q16 (fun _ _ _ _ _ => ?_)); conv => whnf) | ((with_reducible first | refine q17 ?_ | refine q18 ?_ | refine q19 ?_ | refine q20 ?_); conv => whnf)))
      refine CallA.mono (Tryz.Read s b3 c3 ss w6 (hS5.ex hd6.ex)) ?_
      rintro v w7 ⟨b7, c7, rfl, ho7, he7⟩
      refine Anew.mk (hd6.ex.tr he7) ?_
      have hz := (he5.tr hd6.ex).size
      ((conv => whnf); repeat' (first | ((with_reducible first | refine q1 ?_ | refine q2 ?_); conv => whnf) | (with_reducible refine q3 ?_) | ((with_reducible refine q4 (fun _ => ?_) (fun _ => ?_)) <;> first | (exfalso; omega) | (conv => whnf)) | ((with_reducible first | refine q5 ?_ | refine q6 ?_ | refine q7 ?_ | refine q8 ?_ | refine q9 ?_ | refine q10 ?_ | refine q11 ?_ | refine q12 ?_ | refine q13 ?_ | refine q14 ?_ | refine q15 ?_); conv => whnf) | ((refine q16 (fun _ _ _ _ _ => ?_)); conv => whnf) | ((with_reducible first | refine q17 ?_ | refine q18 ?_ | refine q19 ?_ | refine q20 ?_); conv => whnf)))
      exact ⟨b7, c7, rfl, ho7.mono hz, (he5.tr hd6.ex).tr he7⟩
end Go.Proofs
namespace Go.Proofs
open Go.V
open Go.RowKit (Below)
/-! ### what stays true of a shelf: the leaves of a copy are in order, and each fits the shape -/
def GoodC (s : Shape) (c : List LM) : Prop := c.Pairwise (fun x y => x.1 < y.1) ∧ ∀ x ∈ c, leafB s x = true
theorem leafB_spec {s : Shape} {x : LM} (h : leafB s x = true) : (1 ≤ x.1 ∧ x.1 ≤ s.data + s.checks) ∧ (x.2.length : Int) = s.width ∧ Go.Proofs.words x.2 = true := by
  unfold leafB at h
  simp only [Bool.and_eq_true, decide_eq_true_eq] at h
  exact ⟨h.1, h.2.1, h.2.2⟩
theorem asc_len : ∀ (c : List LM) (lo hi : Int), c.Pairwise (fun x y => x.1 < y.1) → (∀ x ∈ c, lo ≤ x.1 ∧ x.1 ≤ hi) → lo ≤ hi + 1 → (c.length : Int) ≤ hi - lo + 1
  | [], lo, hi, _, _, hh => by simp; omega
  | x :: t, lo, hi, h, hb, hh => by
    have hx := hb x (List.mem_cons_self ..)
    obtain ⟨h1, h2⟩ := List.pairwise_cons.1 h
    have := asc_len t (x.1 + 1) hi h2 (fun y hy => ⟨by have := h1 y hy; omega, (hb y (List.mem_cons_of_mem _ hy)).2⟩) (by omega)
    rw [List.length_cons]; omega
theorem GoodC.len {s : Shape} {c : List LM} (hs : shOk s = true) (h : GoodC s c) : (c.length : Int) ≤ s.data + s.checks := by
  obtain ⟨hs1, hs2, hs3, hs4, hs5, hs6⟩ := shOk_spec hs
  have := asc_len c 1 (s.data + s.checks) h.1 (fun x hx => (leafB_spec (h.2 x hx)).1) (by omega)
  omega
theorem GoodC.asc {s : Shape} {c : List LM} (hs : shOk s = true) (h : GoodC s c) : Asc c := by
  obtain ⟨hs1, hs2, hs3, hs4, hs5, hs6⟩ := shOk_spec hs
  have hl := h.len hs
  refine ⟨h.1, by omega, fun x hx => ?_, fun x hx => ?_⟩
  · have := (leafB_spec (h.2 x hx)).1; omega
  · have := (leafB_spec (h.2 x hx)).2.1; omega
theorem checkLvG_zero {s : Shape} : ∀ (t pre : List LM), (∀ x ∈ t, leafB s x = true) → t.Pairwise (fun x y => x.1 < y.1) → (∀ x ∈ t, ∀ y ∈ pre, y.1 < x.1) → checkLvG s pre t = 0
  | [], _, _, _, _ => rfl
  | x :: t, pre, h, hp, hq => by
    obtain ⟨h1, h2⟩ := List.pairwise_cons.1 hp
    rw [checkLvG, if_pos (h x (List.mem_cons_self ..))]
    have hn : ¬ (pre.any fun q => decide (q.1 = x.1)) = true := by
      intro hc
      obtain ⟨y, hy, e⟩ := List.any_eq_true.1 hc
      have := hq x (List.mem_cons_self ..) y hy
      simp at e; omega
    rw [if_neg hn]
    refine checkLvG_zero t _ (fun y hy => h y (List.mem_cons_of_mem _ hy)) h2 fun y hy z hz => ?_
    rcases List.mem_append.1 hz with hz | hz
    · exact hq y (List.mem_cons_of_mem _ hy) z hz
    · rw [List.mem_singleton.1 hz]; exact h1 y hy
theorem GoodC.check {s : Shape} {c : List LM} (hs : shOk s = true) (h : GoodC s c) : checkLeavesM s c = 0 := by
  have hl := h.len hs
  obtain ⟨hs1, hs2, hs3, hs4, hs5, hs6⟩ := shOk_spec hs
  unfold checkLeavesM
  rw [if_pos hs, if_neg (by omega)]
  exact checkLvG_zero c [] h.2 h.1 (by simp)
theorem GoodC.erase {s : Shape} {c : List LM} (h : GoodC s c) (i : Nat) : GoodC s (c.eraseIdx i) :=
  ⟨h.1.sublist (List.eraseIdx_sublist _ _), fun x hx => h.2 x (List.mem_of_mem_eraseIdx hx)⟩
theorem GoodC.setW {s : Shape} {c : List LM} (h : GoodC s c) (i a : Nat) {n : Int} (hn : 0 ≤ n ∧ n ≤ 65520) : GoodC s (setW c i a n) := by
  unfold Go.Proofs.setW
  refine ⟨?_, fun x hx => ?_⟩
  · have h1 : (c.modify i fun x => (x.1, x.2.set a n)).map (·.1) = c.map (·.1) := by
      apply List.ext_getElem?
      intro k
      rw [List.getElem?_map, List.getElem?_map, List.getElem?_modify]
      cases c[k]? with
      | none => simp
      | some y => simp; split <;> rfl
    have h2 := h.1
    rw [← List.pairwise_map (f := fun x : LM => x.1) (R := fun a b : Int => a < b)] at h2 ⊢
    rw [h1]; exact h2
  · obtain ⟨k, hk, rfl⟩ := List.mem_iff_getElem.1 hx
    rw [List.length_modify] at hk
    rw [List.getElem_modify]
    have hb := h.2 _ (List.getElem_mem hk)
    split
    · obtain ⟨h1, h2, h3⟩ := leafB_spec hb
      unfold leafB
      simp only [Bool.and_eq_true, decide_eq_true_eq, List.length_set]
      refine ⟨h1, h2, ?_⟩
      unfold Go.Proofs.words at h3 ⊢
      rw [List.all_eq_true] at h3 ⊢
      intro y hy
      rcases List.mem_or_eq_of_mem_set hy with hy | rfl
      · exact h3 y hy
      · unfold wordB; simpa using hn
    · exact hb
def GoodM (s : Shape) (ms : List (List LM)) : Prop := ∀ c ∈ ms, GoodC s c
theorem GoodM.set {s : Shape} {ms : List (List LM)} (h : GoodM s ms) (k : Nat) {c : List LM} (hc : GoodC s c) : GoodM s (ms.set k c) := by
  intro x hx
  rcases List.mem_or_eq_of_mem_set hx with hx | rfl
  · exact h x hx
  · exact hc
theorem GoodC.nil (s : Shape) : GoodC s [] := ⟨List.Pairwise.nil, by simp⟩
theorem GoodM.getD {s : Shape} {ms : List (List LM)} (h : GoodM s ms) (k : Nat) : GoodC s (ms.getD k []) := by
  rw [List.getD_eq_getElem?_getD]
  cases hk : ms[k]? with
  | none => exact GoodC.nil s
  | some c => exact h c (List.mem_of_getElem? hk)
theorem GoodM.tear {s : Shape} {ms : List (List LM)} (h : GoodM s ms) (c n : Int) : GoodM s (tearM ms c n).1 ∧ (tearM ms c n).1.length = ms.length := by
  unfold tearM
  split
  · exact ⟨h.set _ ((h.getD _).erase _), List.length_set ..⟩
  · exact ⟨h, rfl⟩
theorem GoodM.blot {s : Shape} {ms : List (List LM)} (h : GoodM s ms) (c n a x : Int) : GoodM s (blotM s ms c n a x).1 ∧ (blotM s ms c n a x).1.length = ms.length := by
  unfold blotM
  split
  · rename_i hc
    split
    · exact ⟨h.set _ ((h.getD _).setW _ _ hc.2.2), List.length_set ..⟩
    · exact ⟨h, rfl⟩
  · exact ⟨h, rfl⟩
theorem GoodM.small {s : Shape} {ms : List (List LM)} (hs : shOk s = true) (h : GoodM s ms) (hl : ms.length ≤ 5) : SmallM ms ∧ (∀ c ∈ ms, Asc c) ∧ ms.flatten.length ≤ 1000 ∧ (∀ c ∈ ms, ∀ x ∈ c, (x.2.length : Int) = s.width) := by
  obtain ⟨hs1, hs2, hs3, hs4, hs5, hs6⟩ := shOk_spec hs
  refine ⟨⟨by omega, fun c hc => ⟨((h c hc).asc hs).len, ((h c hc).asc hs).wid⟩⟩, fun c hc => (h c hc).asc hs, ?_, fun c hc x hx => (leafB_spec ((h c hc).2 x hx)).2.1⟩
  have hb : ∀ l : List (List LM), (∀ c ∈ l, c.length ≤ 40) → l.flatten.length ≤ l.length * 40 := by
    intro l
    induction l with
    | nil => intro _; simp
    | cons a t ih =>
      intro hl
      have h1 := hl a (List.mem_cons_self ..)
      have h2 := ih fun c hc => hl c (List.mem_cons_of_mem _ hc)
      simp only [List.flatten_cons, List.length_append, List.length_cons]
      omega
  have := hb ms fun c hc => by have := (h c hc).len hs; omega
  omega
theorem GoodM.first {s : Shape} (hs : shOk s = true) : ∀ {ms : List (List LM)}, GoodM s ms → firstE s ms = 0
  | [], _ => rfl
  | c :: t, h => by
    rw [firstE, if_pos ((h c (List.mem_cons_self ..)).check hs)]
    exact GoodM.first hs fun x hx => h x (List.mem_cons_of_mem _ hx)
theorem GoodM.join {s : Shape} {ms : List (List LM)} (hs : shOk s = true) (h : GoodM s ms) (hl : ms.length ≤ 5) : JoinM s ms = (joinM s ms, 0) := by
  unfold JoinM
  rw [if_pos hs, if_neg (by omega), if_pos (GoodM.first hs h)]
theorem valM_word (c : List Int) (x : Int) : 0 ≤ valM c x ∧ valM c x ≤ 65520 := by
  cases c with
  | nil => simp [valM]
  | cons a t => simp only [valM, List.foldr_cons]; omega
theorem whole_good {s : Shape} (hs : shOk s = true) (rows : List (List Int)) : GoodC s (wholeM s rows) := by
  obtain ⟨hs1, hs2, hs3, hs4, hs5, hs6⟩ := shOk_spec hs
  unfold wholeM
  refine ⟨?_, fun x hx => ?_⟩
  · rw [List.pairwise_map]
    refine List.pairwise_lt_range.imp ?_
    intro a b h; simp only []; omega
  · obtain ⟨i, hi, rfl⟩ := List.mem_map.1 hx
    have := List.mem_range.1 hi
    unfold leafB
    simp only [Bool.and_eq_true, decide_eq_true_eq]
    refine ⟨by omega, ?_, ?_⟩
    · simp [wordsAt]; omega
    · unfold Go.Proofs.words wordsAt
      rw [List.all_eq_true]
      intro y hy
      obtain ⟨j, hj, rfl⟩ := List.mem_map.1 hy
      unfold wordB
      simpa using valM_word _ _
/-- a copy of a stored shelf: its leaves -/
def wrongN (book j : List LM) : Nat := j.countP fun x => !decide (x.2 = (book.getD (x.1 - 1).toNat (0, [])).2)
/-- what has to be shown of the numbers: if enough of the leaves are right, the lines are those that were stored -/
def StoredLaw : Prop := ∀ (s : Shape) (ls : List Line) (ms : List (List LM)), (WriteM s ls).2 = 0 → GoodM s ms → s.data + 2 * (wrongN (wholeM s (WriteM s ls).1) (joinM s ms) : Int) ≤ ((joinM s ms).length : Int) → LinesM s ms = (ls, 0)
end Go.Proofs
namespace Go.Proofs
open Go.V
/-! ### what was written is read -/
theorem chunks_flat (xs : List Int) (W : Nat) : ∀ D, D * W ≤ xs.length → ((List.range D).map (rowM W xs)).flatten = xs.take (D * W) := by
  intro D
  induction D with
  | zero => intro _; simp
  | succ D ih =>
    intro h
    rw [List.range_succ, List.map_append, List.flatten_append, ih (by rw [Nat.add_mul] at h; omega)]
    simp only [List.map_cons, List.map_nil, List.flatten_cons, List.flatten_nil, List.append_nil, rowM]
    rw [Nat.add_mul, Nat.one_mul, List.take_add]
theorem flat_get {α : Type} {c : α → List Int} {sz : Nat} (hc : ∀ x, (c x).length = sz) : ∀ (xs : List α) (k j : Nat) (hk : k < xs.length), j < sz → (xs.flatMap c)[k * sz + j]? = (c xs[k])[j]? := by
  intro xs
  induction xs with
  | nil => intro k j hk; simp at hk
  | cons x r ih =>
    intro k j hk hj
    simp only [List.flatMap_cons]
    cases k with
    | zero => rw [List.getElem?_append_left (by rw [hc]; omega)]; simp
    | succ k =>
      rw [List.getElem?_append_right (by rw [hc, Nat.add_mul]; omega), hc, show (k + 1) * sz + j - sz = k * sz + j by rw [Nat.add_mul]; omega]
      exact ih k j (by simpa using hk) hj
theorem lineW_len (x : Line) : (lineW x).length = 7 := rfl
theorem linesW_len (l : List Line) : (linesW l).length = 1 + 7 * l.length := by
  have : (l.flatMap lineW).length = 7 * l.length := by
    induction l with
    | nil => rfl
    | cons a t ih => rw [List.flatMap_cons, List.length_append, ih, lineW_len, List.length_cons]; omega
  simp only [linesW, List.length_cons, this]; omega
theorem lineOf_words {x : Line} (h : validB x = true) : lineOfM (x.id / 65521 / 65521) (x.id / 65521 % 65521) (x.id % 65521) x.day x.what (x.worth / 65521) (x.worth % 65521) = x := by
  obtain ⟨i, d, wh, wo⟩ := x
  simp only [lineOfM]
  congr 1
  · omega
  · omega
theorem lineW_words {x : Line} (h : validB x = true) : ∀ n ∈ lineW x, 0 ≤ n ∧ n ≤ 65520 := by
  simp only [validB, decide_eq_true_eq] at h
  intro n hn
  simp only [lineW, List.mem_cons, List.not_mem_nil, or_false] at hn
  omega
theorem read_write {s : Shape} {a : List Line} (h : (WriteM s a).2 = 0) : ReadM s (WriteM s a).1 = (a, 0) := by
  unfold WriteM at h ⊢
  by_cases hs : shOk s = true
  rotate_left
  · rw [if_neg hs] at h; simp at h
  rw [if_pos hs] at h ⊢
  by_cases hc : checkLinesM a = 0
  rotate_left
  · rw [if_neg hc] at h; exact absurd h hc
  rw [if_pos hc] at h ⊢
  obtain ⟨hl60, hval⟩ := checkLinesM_ok hc
  obtain ⟨hs1, hs2, hs3, hs4, hs5, hs6⟩ := shOk_spec hs
  cases hw : writeM s a with
  | none => rw [hw] at h; simp at h
  | some rows =>
    simp only []
    have hw0 := hw
    unfold writeM at hw
    have hlw := linesW_len a
    split at hw
    · cases hw
    rename_i hfit
    simp only [Option.some.injEq] at hw
    obtain ⟨D, hD⟩ : ∃ D, D = s.data.toNat := ⟨_, rfl⟩
    obtain ⟨W, hW⟩ : ∃ W, W = s.width.toNat := ⟨_, rfl⟩
    rw [← hD, ← hW] at hw hfit
    obtain ⟨pad, hpad⟩ : ∃ p, p = padM D W a := ⟨_, rfl⟩
    rw [← hpad] at hw
    have hpl : pad.length = D * W := by rw [hpad, padM, List.length_append, List.length_replicate]; omega
    have hflat : rows.flatten = pad := by rw [← hw, chunks_flat _ _ _ (by omega), List.take_of_length_le (by omega)]
    have hpw : ∀ n ∈ pad, 0 ≤ n ∧ n ≤ 65520 := by
      intro n hn
      rw [hpad, padM] at hn
      rcases List.mem_append.1 hn with hn | hn
      · rcases List.mem_cons.1 hn with hn | hn
        · omega
        · obtain ⟨x, hx, hn⟩ := List.mem_flatMap.1 hn
          exact lineW_words (hval x hx) n hn
      · have := (List.mem_replicate.1 hn).2; omega
    have hdB : dataB s rows = true := by
      simp only [dataB, Bool.and_eq_true, decide_eq_true_eq, List.all_eq_true]
      refine ⟨by rw [← hw]; simp; omega, ?_⟩
      intro r hr
      rw [← hw] at hr
      obtain ⟨k, hk, rfl⟩ := List.mem_map.1 hr
      have hk := List.mem_range.1 hk
      have hkw : (k + 1) * W ≤ D * W := Nat.mul_le_mul_right _ hk
      rw [Nat.add_mul] at hkw
      refine ⟨by simp only [rowM, List.length_take, List.length_drop, hpl]; omega, ?_⟩
      refine List.all_eq_true.2 fun n hn => ?_
      have := hpw n (List.mem_of_mem_drop (List.mem_of_mem_take hn))
      simpa [wordB] using this
    have hhead : pad.headD 0 = (a.length : Int) := by rw [hpad]; rfl
    have hout : (List.range a.length).map (lineAt (pad.drop 1)) = a := by
      apply List.ext_getElem (by simp)
      intro i h1 h2
      rw [List.getElem_map, List.getElem_range]
      have hg : ∀ j, j < 7 → (pad.drop 1).getD (i * 7 + j) 0 = (lineW a[i]).getD j 0 := by
        intro j hj
        have hd : pad.drop 1 = a.flatMap lineW ++ List.replicate (D * W - (linesW a).length) 0 := by rw [hpad]; rfl
        have hlen : (a.flatMap lineW).length = 7 * a.length := by
          have := linesW_len a
          simp only [linesW, List.length_cons] at this; omega
        rw [hd, List.getD_eq_getElem?_getD, List.getElem?_append_left (by rw [hlen]; omega), flat_get lineW_len a i j h2 hj, ← List.getD_eq_getElem?_getD]
      unfold lineAt
      have h0 := hg 0 (by decide)
      rw [Nat.add_zero] at h0
      rw [h0, hg 1 (by decide), hg 2 (by decide), hg 3 (by decide), hg 4 (by decide), hg 5 (by decide), hg 6 (by decide)]
      exact lineOf_words (hval _ (List.getElem_mem h2))
    unfold ReadM
    rw [if_pos hs, if_pos hdB]
    simp only [hflat, hhead, hpl, Int.toNat_natCast, hout]
    rw [if_neg (by omega), if_pos hc, if_pos hw0]
theorem write_data {s : Shape} {a : List Line} (h : (WriteM s a).2 = 0) : dataB s (WriteM s a).1 = true := by
  unfold WriteM at h ⊢
  by_cases hs : shOk s = true
  rotate_left
  · rw [if_neg hs] at h; simp at h
  rw [if_pos hs] at h ⊢
  by_cases hc : checkLinesM a = 0
  rotate_left
  · rw [if_neg hc] at h; exact absurd h hc
  rw [if_pos hc] at h ⊢
  obtain ⟨hl60, hval⟩ := checkLinesM_ok hc
  obtain ⟨hs1, hs2, hs3, hs4, hs5, hs6⟩ := shOk_spec hs
  cases hw : writeM s a with
  | none => rw [hw] at h; simp at h
  | some rows =>
    simp only []
    have hw0 := hw
    unfold writeM at hw
    have hlw := linesW_len a
    split at hw
    · cases hw
    rename_i hfit
    simp only [Option.some.injEq] at hw
    obtain ⟨D, hD⟩ : ∃ D, D = s.data.toNat := ⟨_, rfl⟩
    obtain ⟨W, hW⟩ : ∃ W, W = s.width.toNat := ⟨_, rfl⟩
    rw [← hD, ← hW] at hw hfit
    obtain ⟨pad, hpad⟩ : ∃ p, p = padM D W a := ⟨_, rfl⟩
    rw [← hpad] at hw
    have hpl : pad.length = D * W := by rw [hpad, padM, List.length_append, List.length_replicate]; omega
    have hflat : rows.flatten = pad := by rw [← hw, chunks_flat _ _ _ (by omega), List.take_of_length_le (by omega)]
    have hpw : ∀ n ∈ pad, 0 ≤ n ∧ n ≤ 65520 := by
      intro n hn
      rw [hpad, padM] at hn
      rcases List.mem_append.1 hn with hn | hn
      · rcases List.mem_cons.1 hn with hn | hn
        · omega
        · obtain ⟨x, hx, hn⟩ := List.mem_flatMap.1 hn
          exact lineW_words (hval x hx) n hn
      · have := (List.mem_replicate.1 hn).2; omega
    have hdB : dataB s rows = true := by
      simp only [dataB, Bool.and_eq_true, decide_eq_true_eq, List.all_eq_true]
      refine ⟨by rw [← hw]; simp; omega, ?_⟩
      intro r hr
      rw [← hw] at hr
      obtain ⟨k, hk, rfl⟩ := List.mem_map.1 hr
      have hk := List.mem_range.1 hk
      have hkw : (k + 1) * W ≤ D * W := Nat.mul_le_mul_right _ hk
      rw [Nat.add_mul] at hkw
      refine ⟨by simp only [rowM, List.length_take, List.length_drop, hpl]; omega, ?_⟩
      refine List.all_eq_true.2 fun n hn => ?_
      have := hpw n (List.mem_of_mem_drop (List.mem_of_mem_take hn))
      simpa [wordB] using this
    exact hdB
end Go.Proofs
