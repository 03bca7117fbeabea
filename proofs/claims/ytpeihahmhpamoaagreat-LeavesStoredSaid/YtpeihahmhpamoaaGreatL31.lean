/-
  L31: a part of the proof. By an AI agent.
-/
import Derived.Test.YtpeihahmhpamoaaGreatVQ
import Derived.Test.YtpeihahmhpamoaaGreatV10
import Derived.Test.YtpeihahmhpamoaaGreatL30
set_option linter.all false
namespace Go.Proofs
open Go.V
open Go.RowKit (Below)
/-! ### Mend, Spare -/
def MendM (s : Shape) (lm : List LM) : List (List Int) × List Int × Int :=
  if checkLeavesM s lm ≠ 0 then ([], [], checkLeavesM s lm)
  else if (lm.length : Int) < s.data then ([], [], 5)
  else match mendM s lm with
    | none => ([], [], 9)
    | some (d, wrong, ok) => if ok then (d, wrong, 0) else ([], [], 9)
def RetMd (w : World) (r : List (List Int) × List Int × Int) (v : Value) (w' : World) : Prop :=
  ∃ b c ss bw cw, v = .tuple #[.agg #[.slice b ss.length c, .slice bw r.2.1.length cw], .int .i64 r.2.2] ∧ Sls w' b ss ∧ rowsOf ss = r.1 ∧ Row w' bw (ints r.2.1) ∧ Ex w w' ∧ FreshS w.heap.size b ss ∧ (∀ a, bw = some a → w.heap.size ≤ a.block)
theorem FreshS.none_ (N : Nat) : FreshS N none [] := ⟨(by intro a h; cases h), (by intro s hs; simp at hs)⟩
theorem checkLeaves_zero {s : Shape} {lm : List LM} (h : checkLeavesM s lm = 0) : shOk s = true ∧ lm.length ≤ 40 ∧ ∀ x ∈ lm, leafB s x = true := by
  unfold checkLeavesM at h
  split at h
  · rename_i h1
    split at h
    · omega
    · exact ⟨h1, by omega, checkLv_spec h⟩
  · omega
theorem Sls.none_ (w : World) : Sls w none [] := ⟨Row.nil _ _, by simp, by intro s hs; simp at hs⟩
theorem Tryz.Mend (s : Shape) (base : Option Addr) (cap : Nat) (ls : List Lf) (w : World) (h : Lvs w base ls) (hl : ls.length ≤ cap) : CallA Tryz.prog 34 [shV s, .slice base ls.length cap] w (RetMd w (MendM s (ls.map Lf.m))) := by
  have hch := Tryz.CheckLeaves s base cap ls
  unfold shV
  refine callA_intro Tryz.tbOk Tryz.func34 rfl Tryz.ntmps34 Tryz.results34 (by decide) (by simp) ?_
  ((conv => whnf); repeat' (first | ((with_reducible first | refine q1 ?_ | refine q2 ?_); conv => whnf) | (with_reducible refine q3 ?_) | ((with_reducible refine q4 (fun _ => ?_) (fun _ => ?_)) <;> first | (exfalso; omega) | (conv => whnf)) | ((with_reducible first | refine q5 ?_ | refine q6 ?_ | refine q7 ?_ | refine q8 ?_ | refine q9 ?_ | refine q10 ?_ | refine q11 ?_ | refine q12 ?_ | refine q13 ?_ | refine q14 ?_ | refine q15 ?_); conv => whnf) | ((refine q16 (fun _ _ _ _ _ => ?_)); conv => whnf) | ((with_reducible first | refine q17 ?_ | refine q18 ?_ | refine q19 ?_ | refine q20 ?_); conv => whnf)))
  refine NewA.mk' fun w1 b2 hb2 hs2 he1 hB2 => ?_; ((conv => whnf); repeat' (first | ((with_reducible first | refine q1 ?_ | refine q2 ?_); conv => whnf) | (with_reducible refine q3 ?_) | ((with_reducible refine q4 (fun _ => ?_) (fun _ => ?_)) <;> first | (exfalso; omega) | (conv => whnf)) | ((with_reducible first | refine q5 ?_ | refine q6 ?_ | refine q7 ?_ | refine q8 ?_ | refine q9 ?_ | refine q10 ?_ | refine q11 ?_ | refine q12 ?_ | refine q13 ?_ | refine q14 ?_ | refine q15 ?_); conv => whnf) | ((refine q16 (fun _ _ _ _ _ => ?_)); conv => whnf) | ((with_reducible first | refine q17 ?_ | refine q18 ?_ | refine q19 ?_ | refine q20 ?_); conv => whnf)))
  refine NewA.mk' fun w2 b4 hb4 hs4 he2 hB4 => ?_
  have hB4 : Blk w2 b4 [.slice none 0 0, .slice none 0 0] 74 := hB4
  have hB22 : Blk w2 b2 (shC s) 23 := hB2.ex he2
  have he12 := he1.tr he2
  have hs1 := he1.size
  ((conv => whnf); repeat' (first | ((with_reducible first | refine q1 ?_ | refine q2 ?_); conv => whnf) | (with_reducible refine q3 ?_) | ((with_reducible refine q4 (fun _ => ?_) (fun _ => ?_)) <;> first | (exfalso; omega) | (conv => whnf)) | ((with_reducible first | refine q5 ?_ | refine q6 ?_ | refine q7 ?_ | refine q8 ?_ | refine q9 ?_ | refine q10 ?_ | refine q11 ?_ | refine q12 ?_ | refine q13 ?_ | refine q14 ?_ | refine q15 ?_); conv => whnf) | ((refine q16 (fun _ _ _ _ _ => ?_)); conv => whnf) | ((with_reducible first | refine q17 ?_ | refine q18 ?_ | refine q19 ?_ | refine q20 ?_); conv => whnf)))
  refine CallA.mono (hch w2 (h.ex he12) hl) ?_
  rintro v w3 ⟨rfl, he3⟩
  have hB43 := hB4.ex he3
  have hB23 := hB22.ex he3
  have he13 := he12.tr he3
  unfold MendM
  by_cases hc : checkLeavesM s (ls.map Lf.m) = 0
  rotate_left
  · rw [if_pos hc]
    ((conv => whnf); repeat' (first | ((with_reducible first | refine q1 ?_ | refine q2 ?_); conv => whnf) | (with_reducible refine q3 ?_) | ((with_reducible refine q4 (fun _ => ?_) (fun _ => ?_)) <;> first | (exfalso; omega) | (conv => whnf)) | ((with_reducible first | refine q5 ?_ | refine q6 ?_ | refine q7 ?_ | refine q8 ?_ | refine q9 ?_ | refine q10 ?_ | refine q11 ?_ | refine q12 ?_ | refine q13 ?_ | refine q14 ?_ | refine q15 ?_); conv => whnf) | ((refine q16 (fun _ _ _ _ _ => ?_)); conv => whnf) | ((with_reducible first | refine q17 ?_ | refine q18 ?_ | refine q19 ?_ | refine q20 ?_); conv => whnf)))
    refine StoreA.var hB43 rfl rfl rfl fun w4 hu4 hB44 => ?_
    ((conv => whnf); repeat' (first | ((with_reducible first | refine q1 ?_ | refine q2 ?_); conv => whnf) | (with_reducible refine q3 ?_) | ((with_reducible refine q4 (fun _ => ?_) (fun _ => ?_)) <;> first | (exfalso; omega) | (conv => whnf)) | ((with_reducible first | refine q5 ?_ | refine q6 ?_ | refine q7 ?_ | refine q8 ?_ | refine q9 ?_ | refine q10 ?_ | refine q11 ?_ | refine q12 ?_ | refine q13 ?_ | refine q14 ?_ | refine q15 ?_); conv => whnf) | ((refine q16 (fun _ _ _ _ _ => ?_)); conv => whnf) | ((with_reducible first | refine q17 ?_ | refine q18 ?_ | refine q19 ?_ | refine q20 ?_); conv => whnf)))
    exact ⟨none, 0, [], none, 0, rfl, Sls.none_ _, rfl, Row.nil _ _, he13.upd hu4 (by omega), FreshS.none_ _, (by intro a h; cases h)⟩
  rw [if_neg (by rw [hc]; simp)]
  rw [hc]
  obtain ⟨hsh, hl40, hlv⟩ := checkLeaves_zero hc
  rw [List.length_map] at hl40 ⊢
  ((conv => whnf); repeat' (first | ((with_reducible first | refine q1 ?_ | refine q2 ?_); conv => whnf) | (with_reducible refine q3 ?_) | ((with_reducible refine q4 (fun _ => ?_) (fun _ => ?_)) <;> first | (exfalso; omega) | (conv => whnf)) | ((with_reducible first | refine q5 ?_ | refine q6 ?_ | refine q7 ?_ | refine q8 ?_ | refine q9 ?_ | refine q10 ?_ | refine q11 ?_ | refine q12 ?_ | refine q13 ?_ | refine q14 ?_ | refine q15 ?_); conv => whnf) | ((refine q16 (fun _ _ _ _ _ => ?_)); conv => whnf) | ((with_reducible first | refine q17 ?_ | refine q18 ?_ | refine q19 ?_ | refine q20 ?_); conv => whnf)))
  · rename_i hlt
    rw [if_pos hlt]
    refine StoreA.var hB43 rfl rfl rfl fun w4 hu4 hB44 => ?_
    ((conv => whnf); repeat' (first | ((with_reducible first | refine q1 ?_ | refine q2 ?_); conv => whnf) | (with_reducible refine q3 ?_) | ((with_reducible refine q4 (fun _ => ?_) (fun _ => ?_)) <;> first | (exfalso; omega) | (conv => whnf)) | ((with_reducible first | refine q5 ?_ | refine q6 ?_ | refine q7 ?_ | refine q8 ?_ | refine q9 ?_ | refine q10 ?_ | refine q11 ?_ | refine q12 ?_ | refine q13 ?_ | refine q14 ?_ | refine q15 ?_); conv => whnf) | ((refine q16 (fun _ _ _ _ _ => ?_)); conv => whnf) | ((with_reducible first | refine q17 ?_ | refine q18 ?_ | refine q19 ?_ | refine q20 ?_); conv => whnf)))
    exact ⟨none, 0, [], none, 0, rfl, Sls.none_ _, rfl, Row.nil _ _, he13.upd hu4 (by omega), FreshS.none_ _, (by intro a h; cases h)⟩
  · rename_i hlt
    rw [if_neg hlt]
    refine CallA.mono (Tryz.mend s base cap ls w3 (h.ex he13) hsh (fun x hx => hlv _ (List.mem_map_of_mem hx)) ⟨by omega, hl40⟩) ?_
    rintro v w4 ⟨he4, hr⟩
    have hB44 := hB43.ex he4
    have he14 := he13.tr he4
    cases hm : mendM s (ls.map Lf.m) with
    | none =>
      rw [hm] at hr
      subst hr
      ((conv => whnf); repeat' (first | ((with_reducible first | refine q1 ?_ | refine q2 ?_); conv => whnf) | (with_reducible refine q3 ?_) | ((with_reducible refine q4 (fun _ => ?_) (fun _ => ?_)) <;> first | (exfalso; omega) | (conv => whnf)) | ((with_reducible first | refine q5 ?_ | refine q6 ?_ | refine q7 ?_ | refine q8 ?_ | refine q9 ?_ | refine q10 ?_ | refine q11 ?_ | refine q12 ?_ | refine q13 ?_ | refine q14 ?_ | refine q15 ?_); conv => whnf) | ((refine q16 (fun _ _ _ _ _ => ?_)); conv => whnf) | ((with_reducible first | refine q17 ?_ | refine q18 ?_ | refine q19 ?_ | refine q20 ?_); conv => whnf)))
      refine NewA.mk' fun w5 b7 hb7 hs7 he5 hB7 => ?_
      ((conv => whnf); repeat' (first | ((with_reducible first | refine q1 ?_ | refine q2 ?_); conv => whnf) | (with_reducible refine q3 ?_) | ((with_reducible refine q4 (fun _ => ?_) (fun _ => ?_)) <;> first | (exfalso; omega) | (conv => whnf)) | ((with_reducible first | refine q5 ?_ | refine q6 ?_ | refine q7 ?_ | refine q8 ?_ | refine q9 ?_ | refine q10 ?_ | refine q11 ?_ | refine q12 ?_ | refine q13 ?_ | refine q14 ?_ | refine q15 ?_); conv => whnf) | ((refine q16 (fun _ _ _ _ _ => ?_)); conv => whnf) | ((with_reducible first | refine q17 ?_ | refine q18 ?_ | refine q19 ?_ | refine q20 ?_); conv => whnf)))
      refine StoreA.var hB7 rfl rfl rfl fun w6 hu6 hB6 => ?_
      have hB46 := hu6.blk (hB44.ex he5) (by have := hB44.lt; omega)
      ((conv => whnf); repeat' (first | ((with_reducible first | refine q1 ?_ | refine q2 ?_); conv => whnf) | (with_reducible refine q3 ?_) | ((with_reducible refine q4 (fun _ => ?_) (fun _ => ?_)) <;> first | (exfalso; omega) | (conv => whnf)) | ((with_reducible first | refine q5 ?_ | refine q6 ?_ | refine q7 ?_ | refine q8 ?_ | refine q9 ?_ | refine q10 ?_ | refine q11 ?_ | refine q12 ?_ | refine q13 ?_ | refine q14 ?_ | refine q15 ?_); conv => whnf) | ((refine q16 (fun _ _ _ _ _ => ?_)); conv => whnf) | ((with_reducible first | refine q17 ?_ | refine q18 ?_ | refine q19 ?_ | refine q20 ?_); conv => whnf)))
      refine StoreA.var hB46 rfl rfl rfl fun w7 hu7 hB77 => ?_
      ((conv => whnf); repeat' (first | ((with_reducible first | refine q1 ?_ | refine q2 ?_); conv => whnf) | (with_reducible refine q3 ?_) | ((with_reducible refine q4 (fun _ => ?_) (fun _ => ?_)) <;> first | (exfalso; omega) | (conv => whnf)) | ((with_reducible first | refine q5 ?_ | refine q6 ?_ | refine q7 ?_ | refine q8 ?_ | refine q9 ?_ | refine q10 ?_ | refine q11 ?_ | refine q12 ?_ | refine q13 ?_ | refine q14 ?_ | refine q15 ?_); conv => whnf) | ((refine q16 (fun _ _ _ _ _ => ?_)); conv => whnf) | ((with_reducible first | refine q17 ?_ | refine q18 ?_ | refine q19 ?_ | refine q20 ?_); conv => whnf)))
      refine ⟨none, 0, [], none, 0, rfl, Sls.none_ _, rfl, Row.nil _ _, ?_, FreshS.none_ _, (by intro a h; cases h)⟩
      exact ((he14.tr he5).upd hu6 (by have := he14.size; omega)).upd hu7 (by omega)
    | some p =>
      obtain ⟨d, wrong, ok⟩ := p
      rw [hm] at hr
      obtain ⟨b, c, ss, bw, cw, rfl, hS, hR, hW, hF, hFw⟩ := hr
      ((conv => whnf); repeat' (first | ((with_reducible first | refine q1 ?_ | refine q2 ?_); conv => whnf) | (with_reducible refine q3 ?_) | ((with_reducible refine q4 (fun _ => ?_) (fun _ => ?_)) <;> first | (exfalso; omega) | (conv => whnf)) | ((with_reducible first | refine q5 ?_ | refine q6 ?_ | refine q7 ?_ | refine q8 ?_ | refine q9 ?_ | refine q10 ?_ | refine q11 ?_ | refine q12 ?_ | refine q13 ?_ | refine q14 ?_ | refine q15 ?_); conv => whnf) | ((refine q16 (fun _ _ _ _ _ => ?_)); conv => whnf) | ((with_reducible first | refine q17 ?_ | refine q18 ?_ | refine q19 ?_ | refine q20 ?_); conv => whnf)))
      refine NewA.mk' fun w5 b7 hb7 hs7 he5 hB7 => ?_
      ((conv => whnf); repeat' (first | ((with_reducible first | refine q1 ?_ | refine q2 ?_); conv => whnf) | (with_reducible refine q3 ?_) | ((with_reducible refine q4 (fun _ => ?_) (fun _ => ?_)) <;> first | (exfalso; omega) | (conv => whnf)) | ((with_reducible first | refine q5 ?_ | refine q6 ?_ | refine q7 ?_ | refine q8 ?_ | refine q9 ?_ | refine q10 ?_ | refine q11 ?_ | refine q12 ?_ | refine q13 ?_ | refine q14 ?_ | refine q15 ?_); conv => whnf) | ((refine q16 (fun _ _ _ _ _ => ?_)); conv => whnf) | ((with_reducible first | refine q17 ?_ | refine q18 ?_ | refine q19 ?_ | refine q20 ?_); conv => whnf)))
      refine StoreA.var hB7 rfl rfl rfl fun w6 hu6 hB6 => ?_
      have he56 : Ex w4 w6 := he5.upd hu6 (by omega)
      have hB46 := hB44.ex he56
      have hB6 : Blk w6 b7 [.slice b ss.length c, .slice bw wrong.length cw] 74 := hB6
      have he16 := he14.tr he56
      cases ok with
      | true =>
        ((conv => whnf); repeat' (first | ((with_reducible first | refine q1 ?_ | refine q2 ?_); conv => whnf) | (with_reducible refine q3 ?_) | ((with_reducible refine q4 (fun _ => ?_) (fun _ => ?_)) <;> first | (exfalso; omega) | (conv => whnf)) | ((with_reducible first | refine q5 ?_ | refine q6 ?_ | refine q7 ?_ | refine q8 ?_ | refine q9 ?_ | refine q10 ?_ | refine q11 ?_ | refine q12 ?_ | refine q13 ?_ | refine q14 ?_ | refine q15 ?_); conv => whnf) | ((refine q16 (fun _ _ _ _ _ => ?_)); conv => whnf) | ((with_reducible first | refine q17 ?_ | refine q18 ?_ | refine q19 ?_ | refine q20 ?_); conv => whnf)))
        refine StoreA.var hB46 rfl rfl rfl fun w7 hu7 hB77 => ?_
        ((conv => whnf); repeat' (first | ((with_reducible first | refine q1 ?_ | refine q2 ?_); conv => whnf) | (with_reducible refine q3 ?_) | ((with_reducible refine q4 (fun _ => ?_) (fun _ => ?_)) <;> first | (exfalso; omega) | (conv => whnf)) | ((with_reducible first | refine q5 ?_ | refine q6 ?_ | refine q7 ?_ | refine q8 ?_ | refine q9 ?_ | refine q10 ?_ | refine q11 ?_ | refine q12 ?_ | refine q13 ?_ | refine q14 ?_ | refine q15 ?_); conv => whnf) | ((refine q16 (fun _ _ _ _ _ => ?_)); conv => whnf) | ((with_reducible first | refine q17 ?_ | refine q18 ?_ | refine q19 ?_ | refine q20 ?_); conv => whnf)))
        refine ⟨b, c, ss, bw, cw, rfl, Sls.upd (hS.ex he56) hu7 hF (by have := hB43.lt; omega), hR, (hW.ex he56).upd hu7 (fun a ha => by have := hFw a ha; have := hB43.lt; omega), he16.upd hu7 (by omega), ⟨fun a ha => Nat.le_trans he13.size (hF.1 a ha), fun t ht a ha => Nat.le_trans he13.size (hF.2 t ht a ha)⟩, fun a ha => Nat.le_trans he13.size (hFw a ha)⟩
      | false =>
        ((conv => whnf); repeat' (first | ((with_reducible first | refine q1 ?_ | refine q2 ?_); conv => whnf) | (with_reducible refine q3 ?_) | ((with_reducible refine q4 (fun _ => ?_) (fun _ => ?_)) <;> first | (exfalso; omega) | (conv => whnf)) | ((with_reducible first | refine q5 ?_ | refine q6 ?_ | refine q7 ?_ | refine q8 ?_ | refine q9 ?_ | refine q10 ?_ | refine q11 ?_ | refine q12 ?_ | refine q13 ?_ | refine q14 ?_ | refine q15 ?_); conv => whnf) | ((refine q16 (fun _ _ _ _ _ => ?_)); conv => whnf) | ((with_reducible first | refine q17 ?_ | refine q18 ?_ | refine q19 ?_ | refine q20 ?_); conv => whnf)))
        refine StoreA.var hB46 rfl rfl rfl fun w7 hu7 hB77 => ?_
        ((conv => whnf); repeat' (first | ((with_reducible first | refine q1 ?_ | refine q2 ?_); conv => whnf) | (with_reducible refine q3 ?_) | ((with_reducible refine q4 (fun _ => ?_) (fun _ => ?_)) <;> first | (exfalso; omega) | (conv => whnf)) | ((with_reducible first | refine q5 ?_ | refine q6 ?_ | refine q7 ?_ | refine q8 ?_ | refine q9 ?_ | refine q10 ?_ | refine q11 ?_ | refine q12 ?_ | refine q13 ?_ | refine q14 ?_ | refine q15 ?_); conv => whnf) | ((refine q16 (fun _ _ _ _ _ => ?_)); conv => whnf) | ((with_reducible first | refine q17 ?_ | refine q18 ?_ | refine q19 ?_ | refine q20 ?_); conv => whnf)))
        exact ⟨none, 0, [], none, 0, rfl, Sls.none_ _, rfl, Row.nil _ _, he16.upd hu7 (by omega), FreshS.none_ _, (by intro a h; cases h)⟩
def SpareM (s : Shape) (lm : List LM) : Int × Int := if (MendM s lm).2.2 ≠ 0 then (0, (MendM s lm).2.2) else ((lm.length : Int) - s.data - 2 * ((MendM s lm).2.1.length : Int), 0)
theorem MendM_ok {s : Shape} {lm : List LM} (h : (MendM s lm).2.2 = 0) : lm.length ≤ 40 ∧ shOk s = true ∧ (MendM s lm).2.1.length ≤ 40 := by
  unfold MendM at h
  split at h
  · rename_i h1; exact absurd h h1
  · rename_i h1
    have h1 : checkLeavesM s lm = 0 := by simpa using h1
    obtain ⟨h2, h3, h4⟩ := checkLeaves_zero h1
    refine ⟨h3, h2, ?_⟩
    unfold MendM
    rw [if_neg (by rw [h1]; simp)]
    split
    · simp
    · cases hm : mendM s lm with
      | none => simp
      | some p =>
        obtain ⟨d, wr, ok⟩ := p
        unfold mendM at hm
        split at hm
        · cases hm
        · simp only [Option.some.injEq, Prod.mk.injEq] at hm
          obtain ⟨_, hwr, _⟩ := hm
          cases ok with
          | false => simp
          | true =>
            simp only [if_true]
            rw [← hwr, sortI_length, wrongU, List.length_map]
            exact Nat.le_trans (List.length_filter_le _ _) h3
theorem Tryz.Spare (s : Shape) (base : Option Addr) (cap : Nat) (ls : List Lf) (w : World) (h : Lvs w base ls) (hl : ls.length ≤ cap) : CallA Tryz.prog 35 [shV s, .slice base ls.length cap] w fun v w' => v = .tuple #[.int .i64 (SpareM s (ls.map Lf.m)).1, .int .i64 (SpareM s (ls.map Lf.m)).2] ∧ Ex w w' := by
  have hch := Tryz.Mend s base cap ls
  unfold shV
  refine callA_intro Tryz.tbOk Tryz.func35 rfl Tryz.ntmps35 Tryz.results35 (by decide) (by simp) ?_
  ((conv => whnf); repeat' (first | ((with_reducible first | refine q1 ?_ | refine q2 ?_); conv => whnf) | (with_reducible refine q3 ?_) | ((with_reducible refine q4 (fun _ => ?_) (fun _ => ?_)) <;> first | (exfalso; omega) | (conv => whnf)) | ((with_reducible first | refine q5 ?_ | refine q6 ?_ | refine q7 ?_ | refine q8 ?_ | refine q9 ?_ | refine q10 ?_ | refine q11 ?_ | refine q12 ?_ | refine q13 ?_ | refine q14 ?_ | refine q15 ?_); conv => whnf) | ((refine q16 (fun _ _ _ _ _ => ?_)); conv => whnf) | ((with_reducible first | refine q17 ?_ | refine q18 ?_ | refine q19 ?_ | refine q20 ?_); conv => whnf)))
  refine NewA.mk' fun w1 b2 hb2 hs2 he1 hB2 => ?_; ((conv => whnf); repeat' (first | ((with_reducible first | refine q1 ?_ | refine q2 ?_); conv => whnf) | (with_reducible refine q3 ?_) | ((with_reducible refine q4 (fun _ => ?_) (fun _ => ?_)) <;> first | (exfalso; omega) | (conv => whnf)) | ((with_reducible first | refine q5 ?_ | refine q6 ?_ | refine q7 ?_ | refine q8 ?_ | refine q9 ?_ | refine q10 ?_ | refine q11 ?_ | refine q12 ?_ | refine q13 ?_ | refine q14 ?_ | refine q15 ?_); conv => whnf) | ((refine q16 (fun _ _ _ _ _ => ?_)); conv => whnf) | ((with_reducible first | refine q17 ?_ | refine q18 ?_ | refine q19 ?_ | refine q20 ?_); conv => whnf)))
  refine CallA.mono (hch w1 (h.ex he1) hl) ?_
  rintro v w2 ⟨b, c, ss, bw, cw, rfl, hS, hR, hW, he2, -, -⟩
  have hB22 : Blk w2 b2 (shC s) 23 := hB2.ex he2
  ((conv => whnf); repeat' (first | ((with_reducible first | refine q1 ?_ | refine q2 ?_); conv => whnf) | (with_reducible refine q3 ?_) | ((with_reducible refine q4 (fun _ => ?_) (fun _ => ?_)) <;> first | (exfalso; omega) | (conv => whnf)) | ((with_reducible first | refine q5 ?_ | refine q6 ?_ | refine q7 ?_ | refine q8 ?_ | refine q9 ?_ | refine q10 ?_ | refine q11 ?_ | refine q12 ?_ | refine q13 ?_ | refine q14 ?_ | refine q15 ?_); conv => whnf) | ((refine q16 (fun _ _ _ _ _ => ?_)); conv => whnf) | ((with_reducible first | refine q17 ?_ | refine q18 ?_ | refine q19 ?_ | refine q20 ?_); conv => whnf)))
  refine NewA.mk' fun w3 b3 hb3 hs3 he3 hB3 => ?_; ((conv => whnf); repeat' (first | ((with_reducible first | refine q1 ?_ | refine q2 ?_); conv => whnf) | (with_reducible refine q3 ?_) | ((with_reducible refine q4 (fun _ => ?_) (fun _ => ?_)) <;> first | (exfalso; omega) | (conv => whnf)) | ((with_reducible first | refine q5 ?_ | refine q6 ?_ | refine q7 ?_ | refine q8 ?_ | refine q9 ?_ | refine q10 ?_ | refine q11 ?_ | refine q12 ?_ | refine q13 ?_ | refine q14 ?_ | refine q15 ?_); conv => whnf) | ((refine q16 (fun _ _ _ _ _ => ?_)); conv => whnf) | ((with_reducible first | refine q17 ?_ | refine q18 ?_ | refine q19 ?_ | refine q20 ?_); conv => whnf)))
  refine StoreA.var hB3 rfl rfl rfl fun w4 hu4 hB4 => ?_
  have he4 : Ex w2 w4 := he3.upd hu4 (by omega)
  have hB4 : Blk w4 b3 [.slice b ss.length c, .slice bw (MendM s (ls.map Lf.m)).2.1.length cw] 74 := hB4
  have hB24 := hB22.ex he4
  have hew := (he1.tr he2).tr he4
  unfold SpareM
  by_cases h0 : (MendM s (ls.map Lf.m)).2.2 = 0
  · rw [if_neg (by rw [h0]; simp)]
    obtain ⟨h1, h2, h3⟩ := MendM_ok h0
    obtain ⟨hs1, hs2, _⟩ := shOk_spec h2
    rw [List.length_map] at h1 ⊢
    rw [h0]
    ((conv => whnf); repeat' (first | ((with_reducible first | refine q1 ?_ | refine q2 ?_); conv => whnf) | (with_reducible refine q3 ?_) | ((with_reducible refine q4 (fun _ => ?_) (fun _ => ?_)) <;> first | (exfalso; omega) | (conv => whnf)) | ((with_reducible first | refine q5 ?_ | refine q6 ?_ | refine q7 ?_ | refine q8 ?_ | refine q9 ?_ | refine q10 ?_ | refine q11 ?_ | refine q12 ?_ | refine q13 ?_ | refine q14 ?_ | refine q15 ?_); conv => whnf) | ((refine q16 (fun _ _ _ _ _ => ?_)); conv => whnf) | ((with_reducible first | refine q17 ?_ | refine q18 ?_ | refine q19 ?_ | refine q20 ?_); conv => whnf)))
    exact ⟨rfl, hew⟩
  · rw [if_pos h0]
    ((conv => whnf); repeat' (first | ((with_reducible first | refine q1 ?_ | refine q2 ?_); conv => whnf) | (with_reducible refine q3 ?_) | ((with_reducible refine q4 (fun _ => ?_) (fun _ => ?_)) <;> first | (exfalso; omega) | (conv => whnf)) | ((with_reducible first | refine q5 ?_ | refine q6 ?_ | refine q7 ?_ | refine q8 ?_ | refine q9 ?_ | refine q10 ?_ | refine q11 ?_ | refine q12 ?_ | refine q13 ?_ | refine q14 ?_ | refine q15 ?_); conv => whnf) | ((refine q16 (fun _ _ _ _ _ => ?_)); conv => whnf) | ((with_reducible first | refine q17 ?_ | refine q18 ?_ | refine q19 ?_ | refine q20 ?_); conv => whnf)))
    exact ⟨rfl, hew⟩
end Go.Proofs
