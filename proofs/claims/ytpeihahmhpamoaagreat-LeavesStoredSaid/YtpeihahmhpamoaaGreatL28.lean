/-
  L28: a part of the proof. By an AI agent.
-/
import Derived.Test.YtpeihahmhpamoaaGreatVQ
import Derived.Test.YtpeihahmhpamoaaGreatV10
import Derived.Test.YtpeihahmhpamoaaGreatL27
set_option linter.all false
namespace Go.Proofs
open Go.V
open Go.RowKit (Below)
/-! ### leaves that came in -/
abbrev LM := Int × List Int
structure Lvs (w : World) (base : Option Addr) (ls : List Lf) : Prop where
  row : Row w base (rowC lfC ls)
  len : ls.length < 140737488355328
  each : ∀ x ∈ ls, slInts w x.words
theorem Lvs.ex {w w' : World} {base : Option Addr} {ls : List Lf} (h : Lvs w base ls) (e : Ex w w') : Lvs w' base ls := ⟨h.row.ex e, h.len, fun x hx => (h.each x hx).ex e⟩
def leafB (s : Shape) (x : LM) : Bool := decide (1 ≤ x.1 ∧ x.1 ≤ s.data + s.checks) && (decide ((x.2.length : Int) = s.width) && Go.Proofs.words x.2)
def checkLvG (s : Shape) (pre : List LM) : List LM → Int
  | [] => 0
  | x :: t => if leafB s x then (if pre.any (fun q => decide (q.1 = x.1)) then 6 else checkLvG s (pre ++ [x]) t) else 1
def checkLeavesM (s : Shape) (l : List LM) : Int := if shOk s then (if 40 < l.length then 2 else checkLvG s [] l) else 1
theorem Tryz.CheckLeaves1 (x : Lf) (b T : Nat) (ls : List Lf) : PredA Tryz.prog 111 [.pointer (some ⟨b, 0, none⟩)] (fun x => Value.agg (lfC x).toArray) ls (fun q => decide (q.number = x.number)) fun w => Blk w b (lfC x) T := by
  intro q hm w hB
  show CallA Tryz.prog 111 [Value.agg (lfC q).toArray, .pointer (some ⟨b, 0, none⟩)] w _
  refine callA_intro Tryz.tbOk Tryz.func111 rfl Tryz.ntmps111 Tryz.results111 (by decide) (by simp) ?_
  ((conv => whnf); repeat' (first | ((with_reducible first | refine q1 ?_ | refine q2 ?_); conv => whnf) | (with_reducible refine q3 ?_) | ((with_reducible refine q4 (fun _ => ?_) (fun _ => ?_)) <;> first | (exfalso; omega) | (conv => whnf)) | ((with_reducible first | refine q5 ?_ | refine q6 ?_ | refine q7 ?_ | refine q8 ?_ | refine q9 ?_ | refine q10 ?_ | refine q11 ?_ | refine q12 ?_ | refine q13 ?_ | refine q14 ?_ | refine q15 ?_); conv => whnf) | ((refine q16 (fun _ _ _ _ _ => ?_)); conv => whnf) | ((with_reducible first | refine q17 ?_ | refine q18 ?_ | refine q19 ?_ | refine q20 ?_); conv => whnf)))
  refine NewA.mk' fun w1 b2 hb hs he hB2 => ?_; ((conv => whnf); repeat' (first | ((with_reducible first | refine q1 ?_ | refine q2 ?_); conv => whnf) | (with_reducible refine q3 ?_) | ((with_reducible refine q4 (fun _ => ?_) (fun _ => ?_)) <;> first | (exfalso; omega) | (conv => whnf)) | ((with_reducible first | refine q5 ?_ | refine q6 ?_ | refine q7 ?_ | refine q8 ?_ | refine q9 ?_ | refine q10 ?_ | refine q11 ?_ | refine q12 ?_ | refine q13 ?_ | refine q14 ?_ | refine q15 ?_); conv => whnf) | ((refine q16 (fun _ _ _ _ _ => ?_)); conv => whnf) | ((with_reducible first | refine q17 ?_ | refine q18 ?_ | refine q19 ?_ | refine q20 ?_); conv => whnf)))
  have hB' := hB.ex he
  ((conv => whnf); repeat' (first | ((with_reducible first | refine q1 ?_ | refine q2 ?_); conv => whnf) | (with_reducible refine q3 ?_) | ((with_reducible refine q4 (fun _ => ?_) (fun _ => ?_)) <;> first | (exfalso; omega) | (conv => whnf)) | ((with_reducible first | refine q5 ?_ | refine q6 ?_ | refine q7 ?_ | refine q8 ?_ | refine q9 ?_ | refine q10 ?_ | refine q11 ?_ | refine q12 ?_ | refine q13 ?_ | refine q14 ?_ | refine q15 ?_); conv => whnf) | ((refine q16 (fun _ _ _ _ _ => ?_)); conv => whnf) | ((with_reducible first | refine q17 ?_ | refine q18 ?_ | refine q19 ?_ | refine q20 ?_); conv => whnf)))
  exact ⟨rfl, he⟩
theorem Tryz.CheckLeaves (s : Shape) (base : Option Addr) (cap : Nat) (ls : List Lf) (w : World) (h : Lvs w base ls) (hl : ls.length ≤ cap) : CallA Tryz.prog 69 [shV s, .slice base ls.length cap] w fun v w' => v = .int .i64 (checkLeavesM s (ls.map Lf.m)) ∧ Ex w w' := by
  have hr := h.row
  have hl2 := h.len
  unfold shV
  refine callA_intro Tryz.tbOk Tryz.func69 rfl Tryz.ntmps69 Tryz.results69 (by decide) (by simp) ?_
  ((conv => whnf); repeat' (first | ((with_reducible first | refine q1 ?_ | refine q2 ?_); conv => whnf) | (with_reducible refine q3 ?_) | ((with_reducible refine q4 (fun _ => ?_) (fun _ => ?_)) <;> first | (exfalso; omega) | (conv => whnf)) | ((with_reducible first | refine q5 ?_ | refine q6 ?_ | refine q7 ?_ | refine q8 ?_ | refine q9 ?_ | refine q10 ?_ | refine q11 ?_ | refine q12 ?_ | refine q13 ?_ | refine q14 ?_ | refine q15 ?_); conv => whnf) | ((refine q16 (fun _ _ _ _ _ => ?_)); conv => whnf) | ((with_reducible first | refine q17 ?_ | refine q18 ?_ | refine q19 ?_ | refine q20 ?_); conv => whnf)))
  refine NewA.mk' fun w0 b2 hb2 hs2 he0 hB0 => ?_; ((conv => whnf); repeat' (first | ((with_reducible first | refine q1 ?_ | refine q2 ?_); conv => whnf) | (with_reducible refine q3 ?_) | ((with_reducible refine q4 (fun _ => ?_) (fun _ => ?_)) <;> first | (exfalso; omega) | (conv => whnf)) | ((with_reducible first | refine q5 ?_ | refine q6 ?_ | refine q7 ?_ | refine q8 ?_ | refine q9 ?_ | refine q10 ?_ | refine q11 ?_ | refine q12 ?_ | refine q13 ?_ | refine q14 ?_ | refine q15 ?_); conv => whnf) | ((refine q16 (fun _ _ _ _ _ => ?_)); conv => whnf) | ((with_reducible first | refine q17 ?_ | refine q18 ?_ | refine q19 ?_ | refine q20 ?_); conv => whnf)))
  refine CallA.mono (Tryz.Check s _) ?_
  rintro v w0' ⟨rfl, he0'⟩
  have he00 := he0.tr he0'
  have hBs : Blk w0' b2 (shC s) 23 := hB0.ex he0'
  by_cases hsh : shOk s = true
  rotate_left
  · rw [if_neg hsh]
    ((conv => whnf); repeat' (first | ((with_reducible first | refine q1 ?_ | refine q2 ?_); conv => whnf) | (with_reducible refine q3 ?_) | ((with_reducible refine q4 (fun _ => ?_) (fun _ => ?_)) <;> first | (exfalso; omega) | (conv => whnf)) | ((with_reducible first | refine q5 ?_ | refine q6 ?_ | refine q7 ?_ | refine q8 ?_ | refine q9 ?_ | refine q10 ?_ | refine q11 ?_ | refine q12 ?_ | refine q13 ?_ | refine q14 ?_ | refine q15 ?_); conv => whnf) | ((refine q16 (fun _ _ _ _ _ => ?_)); conv => whnf) | ((with_reducible first | refine q17 ?_ | refine q18 ?_ | refine q19 ?_ | refine q20 ?_); conv => whnf)))
    refine ⟨?_, he00⟩
    rw [checkLeavesM, if_neg hsh]
  rw [if_pos hsh]
  obtain ⟨hs1, hs2', hs3, hs4, hs5, hs6⟩ := shOk_spec hsh
  have hM : checkLeavesM s (ls.map Lf.m) = if 40 < ls.length then 2 else checkLvG s [] (ls.map Lf.m) := by rw [checkLeavesM, if_pos hsh, List.length_map]
  rw [hM]
  ((conv => whnf); repeat' (first | ((with_reducible first | refine q1 ?_ | refine q2 ?_); conv => whnf) | (with_reducible refine q3 ?_) | ((with_reducible refine q4 (fun _ => ?_) (fun _ => ?_)) <;> first | (exfalso; omega) | (conv => whnf)) | ((with_reducible first | refine q5 ?_ | refine q6 ?_ | refine q7 ?_ | refine q8 ?_ | refine q9 ?_ | refine q10 ?_ | refine q11 ?_ | refine q12 ?_ | refine q13 ?_ | refine q14 ?_ | refine q15 ?_); conv => whnf) | ((refine q16 (fun _ _ _ _ _ => ?_)); conv => whnf) | ((with_reducible first | refine q17 ?_ | refine q18 ?_ | refine q19 ?_ | refine q20 ?_); conv => whnf)))
  · rename_i h40
    refine ⟨?_, he00⟩
    rw [if_pos (by omega)]
  · rename_i h40
    rw [if_neg (by omega)]
    refine loop_rule Tryz.tbOk Nat [18] (fun k => [.int .i64 (k:Int)]) (fun k w' => k ≤ ls.length ∧ checkLvG s ((ls.map Lf.m).take k) ((ls.map Lf.m).drop k) = checkLvG s [] (ls.map Lf.m) ∧ Ex w w' ∧ Blk w' b2 (shC s) 23) (fun k => ls.length - k) 0 rfl ⟨by omega, by simp, he00, hBs⟩ ?_
    rintro k w' ⟨hk, hG, he, hBs'⟩ u
    have hr' := hr.ex he
    by_cases hlt : k < ls.length
    · rw [List.drop_eq_getElem_cons (by simpa using hlt), checkLvG] at hG
      rw [List.getElem_map] at hG
      have hsl := (h.each _ (List.getElem_mem hlt)).ex he
      ((conv => whnf); repeat' (first | ((with_reducible first | refine q1 ?_ | refine q2 ?_); conv => whnf) | (with_reducible refine q3 ?_) | ((with_reducible refine q4 (fun _ => ?_) (fun _ => ?_)) <;> first | (exfalso; omega) | (conv => whnf)) | ((with_reducible first | refine q5 ?_ | refine q6 ?_ | refine q7 ?_ | refine q8 ?_ | refine q9 ?_ | refine q10 ?_ | refine q11 ?_ | refine q12 ?_ | refine q13 ?_ | refine q14 ?_ | refine q15 ?_); conv => whnf) | ((refine q16 (fun _ _ _ _ _ => ?_)); conv => whnf) | ((with_reducible first | refine q17 ?_ | refine q18 ?_ | refine q19 ?_ | refine q20 ?_); conv => whnf)))
      refine IdxA.elem (sz := 2) hr' (fun _ => rfl) (by decide) rfl k rfl hlt (fun b o hb hc => ?_)
      (conv => whnf)
      refine LoadN.mk' (vs := lfC ls[k]) rfl hc ?_
      ((conv => whnf); repeat' (first | ((with_reducible first | refine q1 ?_ | refine q2 ?_); conv => whnf) | (with_reducible refine q3 ?_) | ((with_reducible refine q4 (fun _ => ?_) (fun _ => ?_)) <;> first | (exfalso; omega) | (conv => whnf)) | ((with_reducible first | refine q5 ?_ | refine q6 ?_ | refine q7 ?_ | refine q8 ?_ | refine q9 ?_ | refine q10 ?_ | refine q11 ?_ | refine q12 ?_ | refine q13 ?_ | refine q14 ?_ | refine q15 ?_); conv => whnf) | ((refine q16 (fun _ _ _ _ _ => ?_)); conv => whnf) | ((with_reducible first | refine q17 ?_ | refine q18 ?_ | refine q19 ?_ | refine q20 ?_); conv => whnf)))
      refine NewA.mk' fun w1 b4 hb4 hs4 he4 hB4 => ?_; ((conv => whnf); repeat' (first | ((with_reducible first | refine q1 ?_ | refine q2 ?_); conv => whnf) | (with_reducible refine q3 ?_) | ((with_reducible refine q4 (fun _ => ?_) (fun _ => ?_)) <;> first | (exfalso; omega) | (conv => whnf)) | ((with_reducible first | refine q5 ?_ | refine q6 ?_ | refine q7 ?_ | refine q8 ?_ | refine q9 ?_ | refine q10 ?_ | refine q11 ?_ | refine q12 ?_ | refine q13 ?_ | refine q14 ?_ | refine q15 ?_); conv => whnf) | ((refine q16 (fun _ _ _ _ _ => ?_)); conv => whnf) | ((with_reducible first | refine q17 ?_ | refine q18 ?_ | refine q19 ?_ | refine q20 ?_); conv => whnf)))
      refine StoreA.var hB4 rfl rfl rfl fun w2 hu2 hB2 => ?_
      have he2 : Ex w' w2 := ((Ex.refl _).tr he4).upd hu2 (by omega)
      have hBs2 := hBs'.ex he2
      ((conv => whnf); repeat' (first | ((with_reducible first | refine q1 ?_ | refine q2 ?_); conv => whnf) | (with_reducible refine q3 ?_) | ((with_reducible refine q4 (fun _ => ?_) (fun _ => ?_)) <;> first | (exfalso; omega) | (conv => whnf)) | ((with_reducible first | refine q5 ?_ | refine q6 ?_ | refine q7 ?_ | refine q8 ?_ | refine q9 ?_ | refine q10 ?_ | refine q11 ?_ | refine q12 ?_ | refine q13 ?_ | refine q14 ?_ | refine q15 ?_); conv => whnf) | ((refine q16 (fun _ _ _ _ _ => ?_)); conv => whnf) | ((with_reducible first | refine q17 ?_ | refine q18 ?_ | refine q19 ?_ | refine q20 ?_); conv => whnf)))
      refine CallA.mono (Tryz.within _ _ _ _) ?_
      rintro v w3 ⟨rfl, rfl⟩
      have hL : leafB s (Lf.m ls[k]) = (decide (1 ≤ ls[k].number ∧ ls[k].number ≤ s.data + s.checks) && (decide ((ls[k].words.xs.length : Int) = s.width) && Go.Proofs.words ls[k].words.xs)) := rfl
      ((conv => whnf); repeat' (first | ((with_reducible first | refine q1 ?_ | refine q2 ?_); conv => whnf) | (with_reducible refine q3 ?_) | ((with_reducible refine q4 (fun _ => ?_) (fun _ => ?_)) <;> first | (exfalso; omega) | (conv => whnf)) | ((with_reducible first | refine q5 ?_ | refine q6 ?_ | refine q7 ?_ | refine q8 ?_ | refine q9 ?_ | refine q10 ?_ | refine q11 ?_ | refine q12 ?_ | refine q13 ?_ | refine q14 ?_ | refine q15 ?_); conv => whnf) | ((refine q16 (fun _ _ _ _ _ => ?_)); conv => whnf) | ((with_reducible first | refine q17 ?_ | refine q18 ?_ | refine q19 ?_ | refine q20 ?_); conv => whnf)))
      rotate_left
      · rename_i hin hwd
        have hlw : ls[k].words.xs.length < 140737488355328 := hsl.2
        refine CallA.mono (Tryz.allInts ls[k].words.base ls[k].words.cap ls[k].words.xs _ wordB _ (Tryz.word' _ rfl ls[k].words.xs) (hsl.1.ex he2) hlw) ?_
        rintro v w4 ⟨rfl, he5⟩
        have hL' : leafB s (Lf.m ls[k]) = ls[k].words.xs.all wordB := by rw [hL, decide_eq_true (show _ ∧ _ from hin), decide_eq_true (by omega : (ls[k].words.xs.length : Int) = s.width)]; rfl
        rw [hL'] at hG
        ((conv => whnf); repeat' (first | ((with_reducible first | refine q1 ?_ | refine q2 ?_); conv => whnf) | (with_reducible refine q3 ?_) | ((with_reducible refine q4 (fun _ => ?_) (fun _ => ?_)) <;> first | (exfalso; omega) | (conv => whnf)) | ((with_reducible first | refine q5 ?_ | refine q6 ?_ | refine q7 ?_ | refine q8 ?_ | refine q9 ?_ | refine q10 ?_ | refine q11 ?_ | refine q12 ?_ | refine q13 ?_ | refine q14 ?_ | refine q15 ?_); conv => whnf) | ((refine q16 (fun _ _ _ _ _ => ?_)); conv => whnf) | ((with_reducible first | refine q17 ?_ | refine q18 ?_ | refine q19 ?_ | refine q20 ?_); conv => whnf)))
        refine Br.var (fun h => ?_) (fun h => ?_)
        · rw [if_pos h] at hG
          ((conv => whnf); repeat' (first | ((with_reducible first | refine q1 ?_ | refine q2 ?_); conv => whnf) | (with_reducible refine q3 ?_) | ((with_reducible refine q4 (fun _ => ?_) (fun _ => ?_)) <;> first | (exfalso; omega) | (conv => whnf)) | ((with_reducible first | refine q5 ?_ | refine q6 ?_ | refine q7 ?_ | refine q8 ?_ | refine q9 ?_ | refine q10 ?_ | refine q11 ?_ | refine q12 ?_ | refine q13 ?_ | refine q14 ?_ | refine q15 ?_); conv => whnf) | ((refine q16 (fun _ _ _ _ _ => ?_)); conv => whnf) | ((with_reducible first | refine q17 ?_ | refine q18 ?_ | refine q19 ?_ | refine q20 ?_); conv => whnf)))
          refine RunV.sliceRow (e := 59) (sz := 2) (by_ := 32) Tryz.tbOk rfl (hr'.ex (he2.tr he5)) 0 k cap k (.inr ⟨rfl, rfl⟩) (.inl rfl) (.inr ⟨rfl, rfl⟩) (by simp) (by omega) (by omega) (by omega) fun bs cs hcs _ hrs => ?_
          rw [Nat.zero_mul, List.drop_zero, rowC_take (sz := 2) (fun _ => rfl)] at hrs
          have hlk : (ls.take k).length = k := by simp; omega
          ((conv => whnf); repeat' (first | ((with_reducible first | refine q1 ?_ | refine q2 ?_); conv => whnf) | (with_reducible refine q3 ?_) | ((with_reducible refine q4 (fun _ => ?_) (fun _ => ?_)) <;> first | (exfalso; omega) | (conv => whnf)) | ((with_reducible first | refine q5 ?_ | refine q6 ?_ | refine q7 ?_ | refine q8 ?_ | refine q9 ?_ | refine q10 ?_ | refine q11 ?_ | refine q12 ?_ | refine q13 ?_ | refine q14 ?_ | refine q15 ?_); conv => whnf) | ((refine q16 (fun _ _ _ _ _ => ?_)); conv => whnf) | ((with_reducible first | refine q17 ?_ | refine q18 ?_ | refine q19 ?_ | refine q20 ?_); conv => whnf)))
          have hcl := Tryz.containsLfs bs cs (ls.take k) 111 #[.pointer (some ⟨b4, 0, none⟩)] _ _ w4 (Tryz.CheckLeaves1 ls[k] b4 59 _) (fun u u' h e => h.ex e) (Blk.ex hB2 he5) hrs (by omega)
          rw [hlk] at hcl
          refine CallA.mono hcl ?_
          rintro v w5 ⟨rfl, he6⟩
          have hany : (ls.take k).any (fun q => decide (q.number = ls[k].number)) = ((ls.map Lf.m).take k).any (fun q => decide (q.1 = (Lf.m ls[k]).1)) := by
            rw [← List.map_take, List.any_map]; rfl
          rw [hany]
          ((conv => whnf); repeat' (first | ((with_reducible first | refine q1 ?_ | refine q2 ?_); conv => whnf) | (with_reducible refine q3 ?_) | ((with_reducible refine q4 (fun _ => ?_) (fun _ => ?_)) <;> first | (exfalso; omega) | (conv => whnf)) | ((with_reducible first | refine q5 ?_ | refine q6 ?_ | refine q7 ?_ | refine q8 ?_ | refine q9 ?_ | refine q10 ?_ | refine q11 ?_ | refine q12 ?_ | refine q13 ?_ | refine q14 ?_ | refine q15 ?_); conv => whnf) | ((refine q16 (fun _ _ _ _ _ => ?_)); conv => whnf) | ((with_reducible first | refine q17 ?_ | refine q18 ?_ | refine q19 ?_ | refine q20 ?_); conv => whnf)))
          refine Br.var (fun h => ?_) (fun h => ?_)
          · rw [if_pos h] at hG
            ((conv => whnf); repeat' (first | ((with_reducible first | refine q1 ?_ | refine q2 ?_); conv => whnf) | (with_reducible refine q3 ?_) | ((with_reducible refine q4 (fun _ => ?_) (fun _ => ?_)) <;> first | (exfalso; omega) | (conv => whnf)) | ((with_reducible first | refine q5 ?_ | refine q6 ?_ | refine q7 ?_ | refine q8 ?_ | refine q9 ?_ | refine q10 ?_ | refine q11 ?_ | refine q12 ?_ | refine q13 ?_ | refine q14 ?_ | refine q15 ?_); conv => whnf) | ((refine q16 (fun _ _ _ _ _ => ?_)); conv => whnf) | ((with_reducible first | refine q17 ?_ | refine q18 ?_ | refine q19 ?_ | refine q20 ?_); conv => whnf)))
            refine ⟨?_, he.tr (he2.tr (he5.tr he6))⟩
            rw [← hG]
          · rw [if_neg (by rw [h]; simp)] at hG
            ((conv => whnf); repeat' (first | ((with_reducible first | refine q1 ?_ | refine q2 ?_); conv => whnf) | (with_reducible refine q3 ?_) | ((with_reducible refine q4 (fun _ => ?_) (fun _ => ?_)) <;> first | (exfalso; omega) | (conv => whnf)) | ((with_reducible first | refine q5 ?_ | refine q6 ?_ | refine q7 ?_ | refine q8 ?_ | refine q9 ?_ | refine q10 ?_ | refine q11 ?_ | refine q12 ?_ | refine q13 ?_ | refine q14 ?_ | refine q15 ?_); conv => whnf) | ((refine q16 (fun _ _ _ _ _ => ?_)); conv => whnf) | ((with_reducible first | refine q17 ?_ | refine q18 ?_ | refine q19 ?_ | refine q20 ?_); conv => whnf)))
            refine ⟨k + 1, rfl, ⟨by omega, ?_, he.tr (he2.tr (he5.tr he6)), hBs2.ex (he5.tr he6)⟩, by omega⟩
            rw [List.take_succ_eq_append_getElem (by simpa using hlt), List.getElem_map, hG]
        · rw [if_neg (by rw [h]; simp)] at hG
          ((conv => whnf); repeat' (first | ((with_reducible first | refine q1 ?_ | refine q2 ?_); conv => whnf) | (with_reducible refine q3 ?_) | ((with_reducible refine q4 (fun _ => ?_) (fun _ => ?_)) <;> first | (exfalso; omega) | (conv => whnf)) | ((with_reducible first | refine q5 ?_ | refine q6 ?_ | refine q7 ?_ | refine q8 ?_ | refine q9 ?_ | refine q10 ?_ | refine q11 ?_ | refine q12 ?_ | refine q13 ?_ | refine q14 ?_ | refine q15 ?_); conv => whnf) | ((refine q16 (fun _ _ _ _ _ => ?_)); conv => whnf) | ((with_reducible first | refine q17 ?_ | refine q18 ?_ | refine q19 ?_ | refine q20 ?_); conv => whnf)))
          refine ⟨?_, he.tr (he2.tr he5)⟩
          rw [← hG]
      all_goals
        refine ⟨?_, he.tr he2⟩
        rw [← hG, if_neg]
        rw [hL]
        simp
        intros
        exfalso
        omega
    · have : k = ls.length := by omega
      subst this
      rw [List.drop_of_length_le (by simp), checkLvG] at hG
      ((conv => whnf); repeat' (first | ((with_reducible first | refine q1 ?_ | refine q2 ?_); conv => whnf) | (with_reducible refine q3 ?_) | ((with_reducible refine q4 (fun _ => ?_) (fun _ => ?_)) <;> first | (exfalso; omega) | (conv => whnf)) | ((with_reducible first | refine q5 ?_ | refine q6 ?_ | refine q7 ?_ | refine q8 ?_ | refine q9 ?_ | refine q10 ?_ | refine q11 ?_ | refine q12 ?_ | refine q13 ?_ | refine q14 ?_ | refine q15 ?_); conv => whnf) | ((refine q16 (fun _ _ _ _ _ => ?_)); conv => whnf) | ((with_reducible first | refine q17 ?_ | refine q18 ?_ | refine q19 ?_ | refine q20 ?_); conv => whnf)))
      refine ⟨?_, he⟩
      rw [← hG]
end Go.Proofs
