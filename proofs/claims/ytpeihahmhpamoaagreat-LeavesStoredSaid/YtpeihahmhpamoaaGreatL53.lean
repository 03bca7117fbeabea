/-
  L53: a part of the proof. By an AI agent.
-/
import Derived.Test.YtpeihahmhpamoaaGreatVQ
import Derived.Test.YtpeihahmhpamoaaGreatV10
import Derived.Test.YtpeihahmhpamoaaGreatV11
import Derived.Test.YtpeihahmhpamoaaGreatL50
import Derived.Test.YtpeihahmhpamoaaGreatL33
set_option linter.all false
namespace Go.V
open Go
theorem RunV.ptrNil {P : Program} {w : World} {t e : Nat} {x y : Operand} {p : Option Addr} {K : Value → World → Prop} (hu : P.underlying t = some (.pointer e)) (hk : K (.bool p.isNone) w) :
    RunV P (do eqGuard .eql t x y (.pointer p) (.pointer none); binOp .eql t (.pointer p) (.pointer none)) w K := by
  refine ⟨_, _, ?_, hk⟩
  have h1 : (Op.equal t (.pointer p) (.pointer none)).run P w = .ok p.isNone w := by
    have hE : ∀ d, (Op.equalIn (d + 1) t (.pointer p) (.pointer none)).run P w = .ok p.isNone w := by
      intro d; cases p <;> simp [Op.equalIn, run_underlying hu]
    exact hE 9999
  simp only [eqGuard_at_pointer, binOp]
  simp [h1]
open Go.RowKit (Below) in
theorem Fr.bel {F : Nat → Prop} {a b : World} {N : Nat} (h : Fr F a b) (k : ∀ x, F x → N ≤ x) (hN : N ≤ a.heap.size) : Below N a b := by
  induction h with
  | refl w => exact Below.mono (Ex.refl w) hN
  | step g f _ ih =>
    exact Below.trans (ex_grown g (fun x hx => k x (f x hx)) hN) (ih (Nat.le_trans hN g.size))
end Go.V
namespace Go.Proofs
open Go.V
open Go.RowKit (Below)
theorem ShF.cut {w : World} {N g : Nat} {s : Shape} {ms : List (List LM)} {F : Nat → Prop} (h : ShF w N g s ms F) : ShF w N g s ms fun x => F x ∧ x < w.heap.size := by
  obtain ⟨r, cs, hI, hm⟩ := h
  exact ⟨r, cs, ⟨hI.o, ⟨hI.fg, hI.o.hd.lt⟩, ⟨hI.fr, (hI.o.row.at_ rfl).2⟩, fun i hi x hx => ⟨hI.fp i hi x hx, ((hI.o.each i hi).fp_lt x hx).2⟩⟩, hm⟩
theorem copyM_all (ms : List (List LM)) : (List.range ms.length).map (fun (i : Nat) => copyM ms (i : Int)) = ms := by
  apply List.ext_getElem
  · simp
  · intro i h1 h2
    rw [List.getElem_map, List.getElem_range]
    unfold copyM
    rw [if_pos (by omega), Int.toNat_natCast, getD_get h2]
/-- what happens to a shelf -/
structure Stp where
  kind : Int
  copy : Int
  number : Int
  at_ : Int
  word : Int
  rest : Value
def stC (x : Stp) : List Value := [.int .i64 x.kind, .int .i64 x.copy, .int .i64 x.number, .int .i64 x.at_, .int .i64 x.word, x.rest]
def stepM (s : Shape) (ms : List (List LM)) (t : Stp) : List (List LM) := if t.kind = 2 then (tearM ms t.copy t.number).1 else (blotM s ms t.copy t.number t.at_ t.word).1
theorem GoodM.step {s : Shape} {ms : List (List LM)} (h : GoodM s ms) (t : Stp) : GoodM s (stepM s ms t) ∧ (stepM s ms t).length = ms.length := by
  unfold stepM
  split
  · exact h.tear _ _
  · exact h.blot _ _ _ _
set_option maxRecDepth 20000 in
set_option maxHeartbeats 2000000 in
theorem Tryz.LeavesStored (hlaw : StoredLaw) (s : Shape) (copies : Int) (bl bs : Option Addr) (cl cst : Nat) (l : List Line) (steps : List Stp) (w : World) (hrl : Row w bl (rowC lineC l)) (hrs : Row w bs (rowC stC steps)) (hll : l.length ≤ cl ∧ l.length < 140737488355328) (hls : steps.length ≤ cst ∧ steps.length < 140737488355328) :
    CallA Tryz.prog 5 [shV s, .int .i64 copies, .slice bl l.length cl, .slice bs steps.length cst] w fun v w' => v = .bool true ∧ Ex w w' := by
  unfold shV
  refine callA_intro Tryz.tbOk Tryz.func5 rfl Tryz.ntmps5 Tryz.results5 (by decide) (by simp) ?_
  ((conv => whnf); repeat' (first | ((with_reducible first | refine q1 ?_ | refine q2 ?_); conv => whnf) | (with_reducible refine q3 ?_) | ((with_reducible refine q4 (fun _ => ?_) (fun _ => ?_)) <;> first | (exfalso; omega) | (conv => whnf)) | ((with_reducible first | refine q5 ?_ | refine q6 ?_ | refine q7 ?_ | refine q8 ?_ | refine q9 ?_ | refine q10 ?_ | refine q11 ?_ | refine q12 ?_ | refine q13 ?_ | refine q14 ?_ | refine q15 ?_); conv => whnf) | ((refine q16 (fun _ _ _ _ _ => ?_)); conv => whnf) | ((with_reducible first | refine q17 ?_ | refine q18 ?_ | refine q19 ?_ | refine q20 ?_); conv => whnf)))
  refine NewA.mk' fun w1 b4 hb4 hs4 he1 hB4 => ?_; ((conv => whnf); repeat' (first | ((with_reducible first | refine q1 ?_ | refine q2 ?_); conv => whnf) | (with_reducible refine q3 ?_) | ((with_reducible refine q4 (fun _ => ?_) (fun _ => ?_)) <;> first | (exfalso; omega) | (conv => whnf)) | ((with_reducible first | refine q5 ?_ | refine q6 ?_ | refine q7 ?_ | refine q8 ?_ | refine q9 ?_ | refine q10 ?_ | refine q11 ?_ | refine q12 ?_ | refine q13 ?_ | refine q14 ?_ | refine q15 ?_); conv => whnf) | ((refine q16 (fun _ _ _ _ _ => ?_)); conv => whnf) | ((with_reducible first | refine q17 ?_ | refine q18 ?_ | refine q19 ?_ | refine q20 ?_); conv => whnf)))
  refine CallA.mono (Tryz.head w1) ?_
  rintro v w2 ⟨rfl, he2⟩
  have hBs2 : Blk w2 b4 (shC s) 23 := hB4.ex he2
  have hex2 := he1.tr he2
  ((conv => whnf); repeat' (first | ((with_reducible first | refine q1 ?_ | refine q2 ?_); conv => whnf) | (with_reducible refine q3 ?_) | ((with_reducible refine q4 (fun _ => ?_) (fun _ => ?_)) <;> first | (exfalso; omega) | (conv => whnf)) | ((with_reducible first | refine q5 ?_ | refine q6 ?_ | refine q7 ?_ | refine q8 ?_ | refine q9 ?_ | refine q10 ?_ | refine q11 ?_ | refine q12 ?_ | refine q13 ?_ | refine q14 ?_ | refine q15 ?_); conv => whnf) | ((refine q16 (fun _ _ _ _ _ => ?_)); conv => whnf) | ((with_reducible first | refine q17 ?_ | refine q18 ?_ | refine q19 ?_ | refine q20 ?_); conv => whnf)))
  refine CallA.mono (Tryz.small1 s w2) ?_
  rintro v w3 ⟨rfl, he3⟩
  have hBs3 := hBs2.ex he3
  have hex3 := hex2.tr he3
  ((conv => whnf); repeat' (first | ((with_reducible first | refine q1 ?_ | refine q2 ?_); conv => whnf) | (with_reducible refine q3 ?_) | ((with_reducible refine q4 (fun _ => ?_) (fun _ => ?_)) <;> first | (exfalso; omega) | (conv => whnf)) | ((with_reducible first | refine q5 ?_ | refine q6 ?_ | refine q7 ?_ | refine q8 ?_ | refine q9 ?_ | refine q10 ?_ | refine q11 ?_ | refine q12 ?_ | refine q13 ?_ | refine q14 ?_ | refine q15 ?_); conv => whnf) | ((refine q16 (fun _ _ _ _ _ => ?_)); conv => whnf) | ((with_reducible first | refine q17 ?_ | refine q18 ?_ | refine q19 ?_ | refine q20 ?_); conv => whnf)))
  refine Br.var (fun hsm => ?_) (fun hsm => ?_)
  rotate_left
  · ((conv => whnf); repeat' (first | ((with_reducible first | refine q1 ?_ | refine q2 ?_); conv => whnf) | (with_reducible refine q3 ?_) | ((with_reducible refine q4 (fun _ => ?_) (fun _ => ?_)) <;> first | (exfalso; omega) | (conv => whnf)) | ((with_reducible first | refine q5 ?_ | refine q6 ?_ | refine q7 ?_ | refine q8 ?_ | refine q9 ?_ | refine q10 ?_ | refine q11 ?_ | refine q12 ?_ | refine q13 ?_ | refine q14 ?_ | refine q15 ?_); conv => whnf) | ((refine q16 (fun _ _ _ _ _ => ?_)); conv => whnf) | ((with_reducible first | refine q17 ?_ | refine q18 ?_ | refine q19 ?_ | refine q20 ?_); conv => whnf)))
    exact ⟨rfl, hex3⟩
  ((conv => whnf); repeat' (first | ((with_reducible first | refine q1 ?_ | refine q2 ?_); conv => whnf) | (with_reducible refine q3 ?_) | ((with_reducible refine q4 (fun _ => ?_) (fun _ => ?_)) <;> first | (exfalso; omega) | (conv => whnf)) | ((with_reducible first | refine q5 ?_ | refine q6 ?_ | refine q7 ?_ | refine q8 ?_ | refine q9 ?_ | refine q10 ?_ | refine q11 ?_ | refine q12 ?_ | refine q13 ?_ | refine q14 ?_ | refine q15 ?_); conv => whnf) | ((refine q16 (fun _ _ _ _ _ => ?_)); conv => whnf) | ((with_reducible first | refine q17 ?_ | refine q18 ?_ | refine q19 ?_ | refine q20 ?_); conv => whnf)))
  refine CallA.mono (Tryz.lines bl l.length cl w3) ?_
  rintro v w4 ⟨rfl, he4⟩
  have hBs4 := hBs3.ex he4
  have hex4 := hex3.tr he4
  ((conv => whnf); repeat' (first | ((with_reducible first | refine q1 ?_ | refine q2 ?_); conv => whnf) | (with_reducible refine q3 ?_) | ((with_reducible refine q4 (fun _ => ?_) (fun _ => ?_)) <;> first | (exfalso; omega) | (conv => whnf)) | ((with_reducible first | refine q5 ?_ | refine q6 ?_ | refine q7 ?_ | refine q8 ?_ | refine q9 ?_ | refine q10 ?_ | refine q11 ?_ | refine q12 ?_ | refine q13 ?_ | refine q14 ?_ | refine q15 ?_); conv => whnf) | ((refine q16 (fun _ _ _ _ _ => ?_)); conv => whnf) | ((with_reducible first | refine q17 ?_ | refine q18 ?_ | refine q19 ?_ | refine q20 ?_); conv => whnf)))
  refine Br.var (fun hli => ?_) (fun hli => ?_)
  rotate_left
  · ((conv => whnf); repeat' (first | ((with_reducible first | refine q1 ?_ | refine q2 ?_); conv => whnf) | (with_reducible refine q3 ?_) | ((with_reducible refine q4 (fun _ => ?_) (fun _ => ?_)) <;> first | (exfalso; omega) | (conv => whnf)) | ((with_reducible first | refine q5 ?_ | refine q6 ?_ | refine q7 ?_ | refine q8 ?_ | refine q9 ?_ | refine q10 ?_ | refine q11 ?_ | refine q12 ?_ | refine q13 ?_ | refine q14 ?_ | refine q15 ?_); conv => whnf) | ((refine q16 (fun _ _ _ _ _ => ?_)); conv => whnf) | ((with_reducible first | refine q17 ?_ | refine q18 ?_ | refine q19 ?_ | refine q20 ?_); conv => whnf)))
    exact ⟨rfl, hex4⟩
  ((conv => whnf); repeat' (first | ((with_reducible first | refine q1 ?_ | refine q2 ?_); conv => whnf) | (with_reducible refine q3 ?_) | ((with_reducible refine q4 (fun _ => ?_) (fun _ => ?_)) <;> first | (exfalso; omega) | (conv => whnf)) | ((with_reducible first | refine q5 ?_ | refine q6 ?_ | refine q7 ?_ | refine q8 ?_ | refine q9 ?_ | refine q10 ?_ | refine q11 ?_ | refine q12 ?_ | refine q13 ?_ | refine q14 ?_ | refine q15 ?_); conv => whnf) | ((refine q16 (fun _ _ _ _ _ => ?_)); conv => whnf) | ((with_reducible first | refine q17 ?_ | refine q18 ?_ | refine q19 ?_ | refine q20 ?_); conv => whnf)))
  · exact ⟨rfl, hex4⟩
  rename_i h12
  refine CallA.mono (Tryz.New s copies w4) ?_
  rintro v w5 ⟨he5, hN⟩
  have hBs5 := hBs4.ex he5
  have hex5 := hex4.tr he5
  by_cases hn : NewM s copies = 0
  rotate_left
  · rw [if_neg hn] at hN
    subst hN
    ((conv => whnf); repeat' (first | ((with_reducible first | refine q1 ?_ | refine q2 ?_); conv => whnf) | (with_reducible refine q3 ?_) | ((with_reducible refine q4 (fun _ => ?_) (fun _ => ?_)) <;> first | (exfalso; omega) | (conv => whnf)) | ((with_reducible first | refine q5 ?_ | refine q6 ?_ | refine q7 ?_ | refine q8 ?_ | refine q9 ?_ | refine q10 ?_ | refine q11 ?_ | refine q12 ?_ | refine q13 ?_ | refine q14 ?_ | refine q15 ?_); conv => whnf) | ((refine q16 (fun _ _ _ _ _ => ?_)); conv => whnf) | ((with_reducible first | refine q17 ?_ | refine q18 ?_ | refine q19 ?_ | refine q20 ?_); conv => whnf)))
    exact ⟨by rw [decide_eq_true hn], hex5⟩
  rw [if_pos hn] at hN
  obtain ⟨g, rfl, hA5⟩ := hN
  have hsh : shOk s = true := by
    unfold NewM at hn
    by_cases hsh : shOk s = true
    · exact hsh
    · rw [if_neg hsh] at hn; cases hn
  have hcop : 1 ≤ copies ∧ copies ≤ 5 := by
    unfold NewM at hn
    rw [if_pos hsh] at hn
    by_cases hcop : 1 ≤ copies ∧ copies ≤ 5
    · exact hcop
    · rw [if_neg hcop] at hn; cases hn
  obtain ⟨hs1, hs2, hs3, hs4', hs5', hs6⟩ := shOk_spec hsh
  obtain ⟨n, rfl⟩ : ∃ n : Nat, copies = (n : Int) := ⟨copies.toNat, by omega⟩
  rw [Int.toNat_natCast] at hA5
  have hz5 := he5.size
  have hF5 : ShF w5 w4.heap.size g s (List.replicate n []) fun x => w4.heap.size ≤ x := by
    obtain ⟨r, cs, h1, h2⟩ := hA5
    refine ⟨r, cs, ⟨h1, h1.gN, (h1.row.at_ rfl).1, fun i hi x hx => ((h1.each i hi).fp_lt x hx).1⟩, h2⟩
  have hty40 := (Tb.find_ty Tryz.tbOk (t := 40) rfl).und
  ((conv => whnf); repeat' (first | ((with_reducible first | refine q1 ?_ | refine q2 ?_); conv => whnf) | (with_reducible refine q3 ?_) | ((with_reducible refine q4 (fun _ => ?_) (fun _ => ?_)) <;> first | (exfalso; omega) | (conv => whnf)) | ((with_reducible first | refine q5 ?_ | refine q6 ?_ | refine q7 ?_ | refine q8 ?_ | refine q9 ?_ | refine q10 ?_ | refine q11 ?_ | refine q12 ?_ | refine q13 ?_ | refine q14 ?_ | refine q15 ?_); conv => whnf) | ((refine q16 (fun _ _ _ _ _ => ?_)); conv => whnf) | ((with_reducible first | refine q17 ?_ | refine q18 ?_ | refine q19 ?_ | refine q20 ?_); conv => whnf)))
  refine RunV.ptrNil hty40 ?_
  ((conv => whnf); repeat' (first | ((with_reducible first | refine q1 ?_ | refine q2 ?_); conv => whnf) | (with_reducible refine q3 ?_) | ((with_reducible refine q4 (fun _ => ?_) (fun _ => ?_)) <;> first | (exfalso; omega) | (conv => whnf)) | ((with_reducible first | refine q5 ?_ | refine q6 ?_ | refine q7 ?_ | refine q8 ?_ | refine q9 ?_ | refine q10 ?_ | refine q11 ?_ | refine q12 ?_ | refine q13 ?_ | refine q14 ?_ | refine q15 ?_); conv => whnf) | ((refine q16 (fun _ _ _ _ _ => ?_)); conv => whnf) | ((with_reducible first | refine q17 ?_ | refine q18 ?_ | refine q19 ?_ | refine q20 ?_); conv => whnf)))
  refine Br.var (fun h => by cases h) (fun _ => ?_)
  ((conv => whnf); repeat' (first | ((with_reducible first | refine q1 ?_ | refine q2 ?_); conv => whnf) | (with_reducible refine q3 ?_) | ((with_reducible refine q4 (fun _ => ?_) (fun _ => ?_)) <;> first | (exfalso; omega) | (conv => whnf)) | ((with_reducible first | refine q5 ?_ | refine q6 ?_ | refine q7 ?_ | refine q8 ?_ | refine q9 ?_ | refine q10 ?_ | refine q11 ?_ | refine q12 ?_ | refine q13 ?_ | refine q14 ?_ | refine q15 ?_); conv => whnf) | ((refine q16 (fun _ _ _ _ _ => ?_)); conv => whnf) | ((with_reducible first | refine q17 ?_ | refine q18 ?_ | refine q19 ?_ | refine q20 ?_); conv => whnf)))
  have hrl5 := hrl.ex hex5
  refine CallA.mono (Tryz.Store w4.heap.size g s (List.replicate n []) _ bl cl l w5 hF5 (by rw [List.length_replicate]; omega) hrl5 hll.1 hll.2 write_data) ?_
  rintro v w6 ⟨rfl, ⟨F6, hF6, hF6s⟩, hfr6⟩
  have hN5 : ∀ x, (fun x => w4.heap.size ≤ x) x → w4.heap.size ≤ x := fun x h => h
  have hbe6 := hfr6.bel hN5 hz5
  have hez4 := hex4.size
  have hex6 : Ex w w6 := Below.trans hex5 (Below.mono hbe6 hez4)
  ((conv => whnf); repeat' (first | ((with_reducible first | refine q1 ?_ | refine q2 ?_); conv => whnf) | (with_reducible refine q3 ?_) | ((with_reducible refine q4 (fun _ => ?_) (fun _ => ?_)) <;> first | (exfalso; omega) | (conv => whnf)) | ((with_reducible first | refine q5 ?_ | refine q6 ?_ | refine q7 ?_ | refine q8 ?_ | refine q9 ?_ | refine q10 ?_ | refine q11 ?_ | refine q12 ?_ | refine q13 ?_ | refine q14 ?_ | refine q15 ?_); conv => whnf) | ((refine q16 (fun _ _ _ _ _ => ?_)); conv => whnf) | ((with_reducible first | refine q17 ?_ | refine q18 ?_ | refine q19 ?_ | refine q20 ?_); conv => whnf)))
  · exact ⟨rfl, hex6⟩
  rename_i hwr
  have hwr := Decidable.not_not.1 hwr
  have hb4l : b4 < w4.heap.size := hBs4.lt
  have hBs6 := hfr6.blk hBs5 (show ¬ w4.heap.size ≤ b4 by omega)
  have hms0 : storeM s (List.replicate n []) l = List.replicate n (wholeM s (WriteM s l).1) := by unfold storeM; rw [if_pos hwr, List.length_replicate]
  rw [hms0] at hF6
  have hwg := whole_good hsh (WriteM s l).1
  obtain ⟨book, hbook⟩ : ∃ b, b = wholeM s (WriteM s l).1 := ⟨_, rfl⟩
  rw [← hbook] at hF6 hwg
  have hG0 : GoodM s (List.replicate n book) := fun c hc => by rw [(List.mem_replicate.1 hc).2]; exact hwg
  have hl0 : (List.replicate n book).length = n := List.length_replicate ..
  obtain ⟨hsm0, hac0, -, -⟩ := hG0.small hsh (by rw [hl0]; omega)
  have hF7 := hF6.cut
  refine CallA.mono (Tryz.Copy w4.heap.size g s _ _ 0 w6 hF7 (by rw [hl0]; omega) hac0) ?_
  have hcp0 : copyM (List.replicate n book) 0 = book := by
    unfold copyM
    rw [if_pos (by rw [hl0]; omega)]
    rw [List.getD_eq_getElem?_getD, List.getElem?_replicate, if_pos (by simp; omega)]; rfl
  rw [hcp0]
  rintro v w7 ⟨bb, cb, lb, rfl, hLb, hmb, he7⟩
  have hbl : book.length = lb.length := by rw [← hmb, List.length_map]
  rw [hbl]
  ((conv => whnf); repeat' (first | ((with_reducible first | refine q1 ?_ | refine q2 ?_); conv => whnf) | (with_reducible refine q3 ?_) | ((with_reducible refine q4 (fun _ => ?_) (fun _ => ?_)) <;> first | (exfalso; omega) | (conv => whnf)) | ((with_reducible first | refine q5 ?_ | refine q6 ?_ | refine q7 ?_ | refine q8 ?_ | refine q9 ?_ | refine q10 ?_ | refine q11 ?_ | refine q12 ?_ | refine q13 ?_ | refine q14 ?_ | refine q15 ?_); conv => whnf) | ((refine q16 (fun _ _ _ _ _ => ?_)); conv => whnf) | ((with_reducible first | refine q17 ?_ | refine q18 ?_ | refine q19 ?_ | refine q20 ?_); conv => whnf)))
  have hex7 := hex6.tr he7
  have hz6 := hfr6.size
  have hz67 := he7.size
  have hlvb : ∀ x ∈ (⟨bb, cb, lb⟩ : Cp).fp, w6.heap.size ≤ x := fun x hx => (LvO.fp_lt (c := ⟨bb, cb, lb⟩) hLb x hx).1
  have hFl : ∀ x, (F6 x ∧ x < w6.heap.size) → w4.heap.size ≤ x ∧ x < w6.heap.size := fun x hx => ⟨by rcases hF6s x hx.1 with h | h <;> omega, hx.2⟩
  obtain ⟨F, hFd⟩ : ∃ F : Nat → Prop, F = fun x => F6 x ∧ x < w6.heap.size := ⟨_, rfl⟩
  have hFl : ∀ x, F x → w4.heap.size ≤ x ∧ x < w6.heap.size := by rw [hFd]; exact hFl
  rw [← hFd] at hF7
  have hF8 := hF7.ex he7
  obtain ⟨msA, hmsA⟩ : ∃ f : Nat → List (List LM), f = fun k => (steps.take k).foldl (stepM s) (List.replicate n book) := ⟨_, rfl⟩
  have hms0 : msA 0 = List.replicate n book := by rw [hmsA]; rfl
  have hmsS : ∀ k (hk : k < steps.length), msA (k + 1) = stepM s (msA k) steps[k] := by
    intro k hk; rw [hmsA]; simp only []; rw [List.take_succ_eq_append_getElem hk, List.foldl_append]; rfl
  have hGA : ∀ k, k ≤ steps.length → GoodM s (msA k) ∧ (msA k).length = n := by
    intro k
    induction k with
    | zero => intro _; rw [hms0]; exact ⟨hG0, hl0⟩
    | succ k ih =>
      intro hk
      have h1 := ih (by omega)
      rw [hmsS k (by omega)]
      have h2 := h1.1.step steps[k]
      exact ⟨h2.1, by rw [h2.2, h1.2]⟩
  rw [← hms0] at hF8
  refine loop_rule Tryz.tbOk Nat [13] (fun k => [.int .i64 (k:Int)])
    (fun k u => k ≤ steps.length ∧ ShF u w4.heap.size g s (msA k) F ∧ Fr F w7 u) (fun k => steps.length - k) 0 rfl ⟨by omega, hF8, .refl _⟩ ?_
  rintro k u ⟨hk, hFu, hfu⟩ ux
  have hfub := hfu.bel (fun x hx => (hFl x hx).1) (by omega : w4.heap.size ≤ w7.heap.size)
  have hexu : Ex w u := Below.trans hex7 (Below.mono hfub hez4)
  obtain ⟨hGk, hGl⟩ := hGA k hk
  obtain ⟨hsk, hak, hfk, hwk⟩ := hGk.small hsh (by omega)
  by_cases hlt : k < steps.length
  · have hu4 : w4.heap.size ≤ u.heap.size := by have := hfu.size; omega
    ((conv => whnf); repeat' (first | ((with_reducible first | refine q1 ?_ | refine q2 ?_); conv => whnf) | (with_reducible refine q3 ?_) | ((with_reducible refine q4 (fun _ => ?_) (fun _ => ?_)) <;> first | (exfalso; omega) | (conv => whnf)) | ((with_reducible first | refine q5 ?_ | refine q6 ?_ | refine q7 ?_ | refine q8 ?_ | refine q9 ?_ | refine q10 ?_ | refine q11 ?_ | refine q12 ?_ | refine q13 ?_ | refine q14 ?_ | refine q15 ?_); conv => whnf) | ((refine q16 (fun _ _ _ _ _ => ?_)); conv => whnf) | ((with_reducible first | refine q17 ?_ | refine q18 ?_ | refine q19 ?_ | refine q20 ?_); conv => whnf)))
    refine IdxA.elem (sz := 6) (hrs.ex hexu) (fun _ => rfl) (by decide) rfl k rfl hlt (fun bq oq hbq hcell => ?_)
    ((conv => whnf); repeat' (first | ((with_reducible first | refine q1 ?_ | refine q2 ?_); conv => whnf) | (with_reducible refine q3 ?_) | ((with_reducible refine q4 (fun _ => ?_) (fun _ => ?_)) <;> first | (exfalso; omega) | (conv => whnf)) | ((with_reducible first | refine q5 ?_ | refine q6 ?_ | refine q7 ?_ | refine q8 ?_ | refine q9 ?_ | refine q10 ?_ | refine q11 ?_ | refine q12 ?_ | refine q13 ?_ | refine q14 ?_ | refine q15 ?_); conv => whnf) | ((refine q16 (fun _ _ _ _ _ => ?_)); conv => whnf) | ((with_reducible first | refine q17 ?_ | refine q18 ?_ | refine q19 ?_ | refine q20 ?_); conv => whnf)))
    refine Load1.mk' (hcell 0 _ rfl) ?_
    ((conv => whnf); repeat' (first | ((with_reducible first | refine q1 ?_ | refine q2 ?_); conv => whnf) | (with_reducible refine q3 ?_) | ((with_reducible refine q4 (fun _ => ?_) (fun _ => ?_)) <;> first | (exfalso; omega) | (conv => whnf)) | ((with_reducible first | refine q5 ?_ | refine q6 ?_ | refine q7 ?_ | refine q8 ?_ | refine q9 ?_ | refine q10 ?_ | refine q11 ?_ | refine q12 ?_ | refine q13 ?_ | refine q14 ?_ | refine q15 ?_); conv => whnf) | ((refine q16 (fun _ _ _ _ _ => ?_)); conv => whnf) | ((with_reducible first | refine q17 ?_ | refine q18 ?_ | refine q19 ?_ | refine q20 ?_); conv => whnf)))
    · rename_i hkd
      have hst : msA (k + 1) = (tearM (msA k) steps[k].copy steps[k].number).1 := by rw [hmsS k hlt]; unfold stepM; rw [if_pos hkd]
      refine draw_rule Tryz.tbOk Tryz.mix (fun u2 => Below w4.heap.size u u2) (.take 0 (.take 1 (.take 2 (.take 3 (.take 4 (.take 5 (.take 6 (.take 7 (.take 8 (.take 9 (.take 10 (.one 11 (.done))))))))))))) (by kernel_rfl) (by kernel_rfl) ?_
      intro u2 hd2
      refine ⟨Below.mono hd2.ex hu4, ?_⟩
      ((conv => whnf); repeat' (first | ((with_reducible first | refine q1 ?_ | refine q2 ?_); conv => whnf) | (with_reducible refine q3 ?_) | ((with_reducible refine q4 (fun _ => ?_) (fun _ => ?_)) <;> first | (exfalso; omega) | (conv => whnf)) | ((with_reducible first | refine q5 ?_ | refine q6 ?_ | refine q7 ?_ | refine q8 ?_ | refine q9 ?_ | refine q10 ?_ | refine q11 ?_ | refine q12 ?_ | refine q13 ?_ | refine q14 ?_ | refine q15 ?_); conv => whnf) | ((refine q16 (fun _ _ _ _ _ => ?_)); conv => whnf) | ((with_reducible first | refine q17 ?_ | refine q18 ?_ | refine q19 ?_ | refine q20 ?_); conv => whnf)))
      refine IdxA.elem (sz := 6) hrs (fun _ => rfl) (by decide) rfl k rfl hlt (fun bq oq hbq hcell => ?_)
      ((conv => whnf); repeat' (first | ((with_reducible first | refine q1 ?_ | refine q2 ?_); conv => whnf) | (with_reducible refine q3 ?_) | ((with_reducible refine q4 (fun _ => ?_) (fun _ => ?_)) <;> first | (exfalso; omega) | (conv => whnf)) | ((with_reducible first | refine q5 ?_ | refine q6 ?_ | refine q7 ?_ | refine q8 ?_ | refine q9 ?_ | refine q10 ?_ | refine q11 ?_ | refine q12 ?_ | refine q13 ?_ | refine q14 ?_ | refine q15 ?_); conv => whnf) | ((refine q16 (fun _ _ _ _ _ => ?_)); conv => whnf) | ((with_reducible first | refine q17 ?_ | refine q18 ?_ | refine q19 ?_ | refine q20 ?_); conv => whnf)))
      refine Hold1.mk' (hcell 1 _ rfl) (fun v h => Below.trans hexu (Below.mono h hez4)) ?_
      ((conv => whnf); repeat' (first | ((with_reducible first | refine q1 ?_ | refine q2 ?_); conv => whnf) | (with_reducible refine q3 ?_) | ((with_reducible refine q4 (fun _ => ?_) (fun _ => ?_)) <;> first | (exfalso; omega) | (conv => whnf)) | ((with_reducible first | refine q5 ?_ | refine q6 ?_ | refine q7 ?_ | refine q8 ?_ | refine q9 ?_ | refine q10 ?_ | refine q11 ?_ | refine q12 ?_ | refine q13 ?_ | refine q14 ?_ | refine q15 ?_); conv => whnf) | ((refine q16 (fun _ _ _ _ _ => ?_)); conv => whnf) | ((with_reducible first | refine q17 ?_ | refine q18 ?_ | refine q19 ?_ | refine q20 ?_); conv => whnf)))
      refine IdxA.elem (sz := 6) hrs (fun _ => rfl) (by decide) rfl k rfl hlt (fun bq oq hbq hcell => ?_)
      ((conv => whnf); repeat' (first | ((with_reducible first | refine q1 ?_ | refine q2 ?_); conv => whnf) | (with_reducible refine q3 ?_) | ((with_reducible refine q4 (fun _ => ?_) (fun _ => ?_)) <;> first | (exfalso; omega) | (conv => whnf)) | ((with_reducible first | refine q5 ?_ | refine q6 ?_ | refine q7 ?_ | refine q8 ?_ | refine q9 ?_ | refine q10 ?_ | refine q11 ?_ | refine q12 ?_ | refine q13 ?_ | refine q14 ?_ | refine q15 ?_); conv => whnf) | ((refine q16 (fun _ _ _ _ _ => ?_)); conv => whnf) | ((with_reducible first | refine q17 ?_ | refine q18 ?_ | refine q19 ?_ | refine q20 ?_); conv => whnf)))
      refine Hold1.mk' (hcell 2 _ rfl) (fun v h => Below.trans hexu (Below.mono h hez4)) ?_
      ((conv => whnf); repeat' (first | ((with_reducible first | refine q1 ?_ | refine q2 ?_); conv => whnf) | (with_reducible refine q3 ?_) | ((with_reducible refine q4 (fun _ => ?_) (fun _ => ?_)) <;> first | (exfalso; omega) | (conv => whnf)) | ((with_reducible first | refine q5 ?_ | refine q6 ?_ | refine q7 ?_ | refine q8 ?_ | refine q9 ?_ | refine q10 ?_ | refine q11 ?_ | refine q12 ?_ | refine q13 ?_ | refine q14 ?_ | refine q15 ?_); conv => whnf) | ((refine q16 (fun _ _ _ _ _ => ?_)); conv => whnf) | ((with_reducible first | refine q17 ?_ | refine q18 ?_ | refine q19 ?_ | refine q20 ?_); conv => whnf)))
      refine CallA.mono (Tryz.Tear w4.heap.size g s (msA k) F steps[k].copy steps[k].number u2 (hFu.ex hd2.ex) hsk) ?_
      rintro v u3 ⟨rfl, hF3, hf3⟩
      rw [← hst] at hF3
      have hf23 : Fr F u u3 := (Fr.ex hd2.ex).tr hf3
      refine Anew.mk (hf23.bel (fun x hx => (hFl x hx).1) hu4) ?_
      ((conv => whnf); repeat' (first | ((with_reducible first | refine q1 ?_ | refine q2 ?_); conv => whnf) | (with_reducible refine q3 ?_) | ((with_reducible refine q4 (fun _ => ?_) (fun _ => ?_)) <;> first | (exfalso; omega) | (conv => whnf)) | ((with_reducible first | refine q5 ?_ | refine q6 ?_ | refine q7 ?_ | refine q8 ?_ | refine q9 ?_ | refine q10 ?_ | refine q11 ?_ | refine q12 ?_ | refine q13 ?_ | refine q14 ?_ | refine q15 ?_); conv => whnf) | ((refine q16 (fun _ _ _ _ _ => ?_)); conv => whnf) | ((with_reducible first | refine q17 ?_ | refine q18 ?_ | refine q19 ?_ | refine q20 ?_); conv => whnf)))
      exact ⟨k + 1, rfl, ⟨by omega, hF3, hfu.tr hf23⟩, by omega⟩
    · rename_i hkd
      have hst : msA (k + 1) = (blotM s (msA k) steps[k].copy steps[k].number steps[k].at_ steps[k].word).1 := by rw [hmsS k hlt]; unfold stepM; rw [if_neg hkd]
      refine draw_rule Tryz.tbOk Tryz.mix (fun u2 => Below w4.heap.size u u2) (.take 0 (.take 1 (.take 2 (.take 3 (.take 4 (.take 5 (.take 6 (.take 7 (.take 8 (.take 9 (.take 10 (.take 11 (.take 12 (.take 13 (.take 14 (.take 15 (.take 16 (.take 17 (.take 18 (.take 19 (.take 20 (.one 21 (.done))))))))))))))))))))))) (by kernel_rfl) (by kernel_rfl) ?_
      intro u2 hd2
      refine ⟨Below.mono hd2.ex hu4, ?_⟩
      ((conv => whnf); repeat' (first | ((with_reducible first | refine q1 ?_ | refine q2 ?_); conv => whnf) | (with_reducible refine q3 ?_) | ((with_reducible refine q4 (fun _ => ?_) (fun _ => ?_)) <;> first | (exfalso; omega) | (conv => whnf)) | ((with_reducible first | refine q5 ?_ | refine q6 ?_ | refine q7 ?_ | refine q8 ?_ | refine q9 ?_ | refine q10 ?_ | refine q11 ?_ | refine q12 ?_ | refine q13 ?_ | refine q14 ?_ | refine q15 ?_); conv => whnf) | ((refine q16 (fun _ _ _ _ _ => ?_)); conv => whnf) | ((with_reducible first | refine q17 ?_ | refine q18 ?_ | refine q19 ?_ | refine q20 ?_); conv => whnf)))
      refine IdxA.elem (sz := 6) hrs (fun _ => rfl) (by decide) rfl k rfl hlt (fun bq oq hbq hcell => ?_)
      ((conv => whnf); repeat' (first | ((with_reducible first | refine q1 ?_ | refine q2 ?_); conv => whnf) | (with_reducible refine q3 ?_) | ((with_reducible refine q4 (fun _ => ?_) (fun _ => ?_)) <;> first | (exfalso; omega) | (conv => whnf)) | ((with_reducible first | refine q5 ?_ | refine q6 ?_ | refine q7 ?_ | refine q8 ?_ | refine q9 ?_ | refine q10 ?_ | refine q11 ?_ | refine q12 ?_ | refine q13 ?_ | refine q14 ?_ | refine q15 ?_); conv => whnf) | ((refine q16 (fun _ _ _ _ _ => ?_)); conv => whnf) | ((with_reducible first | refine q17 ?_ | refine q18 ?_ | refine q19 ?_ | refine q20 ?_); conv => whnf)))
      refine Hold1.mk' (hcell 1 _ rfl) (fun v h => Below.trans hexu (Below.mono h hez4)) ?_
      ((conv => whnf); repeat' (first | ((with_reducible first | refine q1 ?_ | refine q2 ?_); conv => whnf) | (with_reducible refine q3 ?_) | ((with_reducible refine q4 (fun _ => ?_) (fun _ => ?_)) <;> first | (exfalso; omega) | (conv => whnf)) | ((with_reducible first | refine q5 ?_ | refine q6 ?_ | refine q7 ?_ | refine q8 ?_ | refine q9 ?_ | refine q10 ?_ | refine q11 ?_ | refine q12 ?_ | refine q13 ?_ | refine q14 ?_ | refine q15 ?_); conv => whnf) | ((refine q16 (fun _ _ _ _ _ => ?_)); conv => whnf) | ((with_reducible first | refine q17 ?_ | refine q18 ?_ | refine q19 ?_ | refine q20 ?_); conv => whnf)))
      refine IdxA.elem (sz := 6) hrs (fun _ => rfl) (by decide) rfl k rfl hlt (fun bq oq hbq hcell => ?_)
      ((conv => whnf); repeat' (first | ((with_reducible first | refine q1 ?_ | refine q2 ?_); conv => whnf) | (with_reducible refine q3 ?_) | ((with_reducible refine q4 (fun _ => ?_) (fun _ => ?_)) <;> first | (exfalso; omega) | (conv => whnf)) | ((with_reducible first | refine q5 ?_ | refine q6 ?_ | refine q7 ?_ | refine q8 ?_ | refine q9 ?_ | refine q10 ?_ | refine q11 ?_ | refine q12 ?_ | refine q13 ?_ | refine q14 ?_ | refine q15 ?_); conv => whnf) | ((refine q16 (fun _ _ _ _ _ => ?_)); conv => whnf) | ((with_reducible first | refine q17 ?_ | refine q18 ?_ | refine q19 ?_ | refine q20 ?_); conv => whnf)))
      refine Hold1.mk' (hcell 2 _ rfl) (fun v h => Below.trans hexu (Below.mono h hez4)) ?_
      ((conv => whnf); repeat' (first | ((with_reducible first | refine q1 ?_ | refine q2 ?_); conv => whnf) | (with_reducible refine q3 ?_) | ((with_reducible refine q4 (fun _ => ?_) (fun _ => ?_)) <;> first | (exfalso; omega) | (conv => whnf)) | ((with_reducible first | refine q5 ?_ | refine q6 ?_ | refine q7 ?_ | refine q8 ?_ | refine q9 ?_ | refine q10 ?_ | refine q11 ?_ | refine q12 ?_ | refine q13 ?_ | refine q14 ?_ | refine q15 ?_); conv => whnf) | ((refine q16 (fun _ _ _ _ _ => ?_)); conv => whnf) | ((with_reducible first | refine q17 ?_ | refine q18 ?_ | refine q19 ?_ | refine q20 ?_); conv => whnf)))
      refine IdxA.elem (sz := 6) hrs (fun _ => rfl) (by decide) rfl k rfl hlt (fun bq oq hbq hcell => ?_)
      ((conv => whnf); repeat' (first | ((with_reducible first | refine q1 ?_ | refine q2 ?_); conv => whnf) | (with_reducible refine q3 ?_) | ((with_reducible refine q4 (fun _ => ?_) (fun _ => ?_)) <;> first | (exfalso; omega) | (conv => whnf)) | ((with_reducible first | refine q5 ?_ | refine q6 ?_ | refine q7 ?_ | refine q8 ?_ | refine q9 ?_ | refine q10 ?_ | refine q11 ?_ | refine q12 ?_ | refine q13 ?_ | refine q14 ?_ | refine q15 ?_); conv => whnf) | ((refine q16 (fun _ _ _ _ _ => ?_)); conv => whnf) | ((with_reducible first | refine q17 ?_ | refine q18 ?_ | refine q19 ?_ | refine q20 ?_); conv => whnf)))
      refine Hold1.mk' (hcell 3 _ rfl) (fun v h => Below.trans hexu (Below.mono h hez4)) ?_
      ((conv => whnf); repeat' (first | ((with_reducible first | refine q1 ?_ | refine q2 ?_); conv => whnf) | (with_reducible refine q3 ?_) | ((with_reducible refine q4 (fun _ => ?_) (fun _ => ?_)) <;> first | (exfalso; omega) | (conv => whnf)) | ((with_reducible first | refine q5 ?_ | refine q6 ?_ | refine q7 ?_ | refine q8 ?_ | refine q9 ?_ | refine q10 ?_ | refine q11 ?_ | refine q12 ?_ | refine q13 ?_ | refine q14 ?_ | refine q15 ?_); conv => whnf) | ((refine q16 (fun _ _ _ _ _ => ?_)); conv => whnf) | ((with_reducible first | refine q17 ?_ | refine q18 ?_ | refine q19 ?_ | refine q20 ?_); conv => whnf)))
      refine IdxA.elem (sz := 6) hrs (fun _ => rfl) (by decide) rfl k rfl hlt (fun bq oq hbq hcell => ?_)
      ((conv => whnf); repeat' (first | ((with_reducible first | refine q1 ?_ | refine q2 ?_); conv => whnf) | (with_reducible refine q3 ?_) | ((with_reducible refine q4 (fun _ => ?_) (fun _ => ?_)) <;> first | (exfalso; omega) | (conv => whnf)) | ((with_reducible first | refine q5 ?_ | refine q6 ?_ | refine q7 ?_ | refine q8 ?_ | refine q9 ?_ | refine q10 ?_ | refine q11 ?_ | refine q12 ?_ | refine q13 ?_ | refine q14 ?_ | refine q15 ?_); conv => whnf) | ((refine q16 (fun _ _ _ _ _ => ?_)); conv => whnf) | ((with_reducible first | refine q17 ?_ | refine q18 ?_ | refine q19 ?_ | refine q20 ?_); conv => whnf)))
      refine Hold1.mk' (hcell 4 _ rfl) (fun v h => Below.trans hexu (Below.mono h hez4)) ?_
      ((conv => whnf); repeat' (first | ((with_reducible first | refine q1 ?_ | refine q2 ?_); conv => whnf) | (with_reducible refine q3 ?_) | ((with_reducible refine q4 (fun _ => ?_) (fun _ => ?_)) <;> first | (exfalso; omega) | (conv => whnf)) | ((with_reducible first | refine q5 ?_ | refine q6 ?_ | refine q7 ?_ | refine q8 ?_ | refine q9 ?_ | refine q10 ?_ | refine q11 ?_ | refine q12 ?_ | refine q13 ?_ | refine q14 ?_ | refine q15 ?_); conv => whnf) | ((refine q16 (fun _ _ _ _ _ => ?_)); conv => whnf) | ((with_reducible first | refine q17 ?_ | refine q18 ?_ | refine q19 ?_ | refine q20 ?_); conv => whnf)))
      refine CallA.mono (Tryz.Blot w4.heap.size g s (msA k) F steps[k].copy steps[k].number steps[k].at_ steps[k].word u2 (hFu.ex hd2.ex) hsk hwk (by omega)) ?_
      rintro v u3 ⟨rfl, hF3, hf3⟩
      rw [← hst] at hF3
      have hf23 : Fr F u u3 := (Fr.ex hd2.ex).tr hf3
      refine Anew.mk (hf23.bel (fun x hx => (hFl x hx).1) hu4) ?_
      ((conv => whnf); repeat' (first | ((with_reducible first | refine q1 ?_ | refine q2 ?_); conv => whnf) | (with_reducible refine q3 ?_) | ((with_reducible refine q4 (fun _ => ?_) (fun _ => ?_)) <;> first | (exfalso; omega) | (conv => whnf)) | ((with_reducible first | refine q5 ?_ | refine q6 ?_ | refine q7 ?_ | refine q8 ?_ | refine q9 ?_ | refine q10 ?_ | refine q11 ?_ | refine q12 ?_ | refine q13 ?_ | refine q14 ?_ | refine q15 ?_); conv => whnf) | ((refine q16 (fun _ _ _ _ _ => ?_)); conv => whnf) | ((with_reducible first | refine q17 ?_ | refine q18 ?_ | refine q19 ?_ | refine q20 ?_); conv => whnf)))
      exact ⟨k + 1, rfl, ⟨by omega, hF3, hfu.tr hf23⟩, by omega⟩
  · have hkl : k = steps.length := by omega
    subst hkl
    ((conv => whnf); repeat' (first | ((with_reducible first | refine q1 ?_ | refine q2 ?_); conv => whnf) | (with_reducible refine q3 ?_) | ((with_reducible refine q4 (fun _ => ?_) (fun _ => ?_)) <;> first | (exfalso; omega) | (conv => whnf)) | ((with_reducible first | refine q5 ?_ | refine q6 ?_ | refine q7 ?_ | refine q8 ?_ | refine q9 ?_ | refine q10 ?_ | refine q11 ?_ | refine q12 ?_ | refine q13 ?_ | refine q14 ?_ | refine q15 ?_); conv => whnf) | ((refine q16 (fun _ _ _ _ _ => ?_)); conv => whnf) | ((with_reducible first | refine q17 ?_ | refine q18 ?_ | refine q19 ?_ | refine q20 ?_); conv => whnf)))
    obtain ⟨ms, hms⟩ : ∃ ms, ms = msA steps.length := ⟨_, rfl⟩
    rw [← hms] at hFu hGk hGl hsk hak hfk hwk
    have hBb : Blk u b4 (shC s) 23 := hfu.blk (hBs6.ex he7) (fun h => by have := (hFl b4 h).1; omega)
    have hLbu : LvO u w6.heap.size bb cb lb := LvO.fr (c := ⟨bb, cb, lb⟩) hLb hfu fun x hx h => by have h1 := hlvb x hx; have h2 := (hFl x h).2; omega
    have hzu := hfu.size
    clear hfub hfu
    refine loop_rule Tryz.tbOk (Nat × Option Addr × Nat × List Cp) [15, 14] (fun | (k, b, c, out) => [.int .i64 (k:Int), .slice b out.length c])
      (fun | (k, b, c, out), v => k ≤ n ∧ out.length = k ∧ Own v u.heap.size 52 1 b out.length c (rowC cpC out) ∧ Ex u v ∧ out.map Cp.m = (List.range k).map (fun (i : Nat) => copyM ms (i : Int)) ∧ ∀ cp ∈ out, LvO v u.heap.size cp.base cp.cap cp.ls ∧ ∀ x ∈ cp.fp, some x ≠ blkOf b) (fun | (k, _, _, _) => n - k)
      (0, none, 0, []) rfl ⟨by omega, rfl, Own.nil _ _ _ _, Ex.refl _, rfl, by simp⟩ ?_
    rintro ⟨k, b, c, out⟩ v ⟨hk, hol, hO, hev, hm, hcs⟩ vx
    by_cases hlt : k < n
    · ((conv => whnf); repeat' (first | ((with_reducible first | refine q1 ?_ | refine q2 ?_); conv => whnf) | (with_reducible refine q3 ?_) | ((with_reducible refine q4 (fun _ => ?_) (fun _ => ?_)) <;> first | (exfalso; omega) | (conv => whnf)) | ((with_reducible first | refine q5 ?_ | refine q6 ?_ | refine q7 ?_ | refine q8 ?_ | refine q9 ?_ | refine q10 ?_ | refine q11 ?_ | refine q12 ?_ | refine q13 ?_ | refine q14 ?_ | refine q15 ?_); conv => whnf) | ((refine q16 (fun _ _ _ _ _ => ?_)); conv => whnf) | ((with_reducible first | refine q17 ?_ | refine q18 ?_ | refine q19 ?_ | refine q20 ?_); conv => whnf)))
      refine CallA.mono (Tryz.Copy w4.heap.size g s ms F k v (hFu.ex hev) (by omega) hak) ?_
      rintro v1 v2 ⟨bq, cq, lq, rfl, hLq, hmq, he2⟩
      have hlq : (copyM ms (k : Int)).length = lq.length := by rw [← hmq, List.length_map]
      rw [hlq]
      obtain ⟨cp, hcp⟩ : ∃ cp : Cp, cp = ⟨bq, cq, lq⟩ := ⟨_, rfl⟩
      have hcv : Value.slice bq lq.length cq = cp.val := by rw [hcp]; rfl
      rw [hcv]
      ((conv => whnf); repeat' (first | ((with_reducible first | refine q1 ?_ | refine q2 ?_); conv => whnf) | (with_reducible refine q3 ?_) | ((with_reducible refine q4 (fun _ => ?_) (fun _ => ?_)) <;> first | (exfalso; omega) | (conv => whnf)) | ((with_reducible first | refine q5 ?_ | refine q6 ?_ | refine q7 ?_ | refine q8 ?_ | refine q9 ?_ | refine q10 ?_ | refine q11 ?_ | refine q12 ?_ | refine q13 ?_ | refine q14 ?_ | refine q15 ?_); conv => whnf) | ((refine q16 (fun _ _ _ _ _ => ?_)); conv => whnf) | ((with_reducible first | refine q17 ?_ | refine q18 ?_ | refine q19 ?_ | refine q20 ?_); conv => whnf)))
      refine NewS.mk' (cs := cpC cp) fun v3 b6 hb6 hs6 he6 hB6 => ?_
      ((conv => whnf); repeat' (first | ((with_reducible first | refine q1 ?_ | refine q2 ?_); conv => whnf) | (with_reducible refine q3 ?_) | ((with_reducible refine q4 (fun _ => ?_) (fun _ => ?_)) <;> first | (exfalso; omega) | (conv => whnf)) | ((with_reducible first | refine q5 ?_ | refine q6 ?_ | refine q7 ?_ | refine q8 ?_ | refine q9 ?_ | refine q10 ?_ | refine q11 ?_ | refine q12 ?_ | refine q13 ?_ | refine q14 ?_ | refine q15 ?_); conv => whnf) | ((refine q16 (fun _ _ _ _ _ => ?_)); conv => whnf) | ((with_reducible first | refine q17 ?_ | refine q18 ?_ | refine q19 ?_ | refine q20 ?_); conv => whnf)))
      have he3 := he2.tr he6
      refine RunV.append (e := 52) (sz := 1) (by_ := 24) (m := 1) (news := cpC cp) Tryz.tbOk u.heap.size (hO.ex he3) hB6.row rfl rfl (all_one rfl) (by omega) (by omega) rfl (by decide) (by have := (hev.tr he3).size; omega) fun v5 b7 c7 ho7 hg7 hb7 => ?_
      ((conv => whnf); repeat' (first | ((with_reducible first | refine q1 ?_ | refine q2 ?_); conv => whnf) | (with_reducible refine q3 ?_) | ((with_reducible refine q4 (fun _ => ?_) (fun _ => ?_)) <;> first | (exfalso; omega) | (conv => whnf)) | ((with_reducible first | refine q5 ?_ | refine q6 ?_ | refine q7 ?_ | refine q8 ?_ | refine q9 ?_ | refine q10 ?_ | refine q11 ?_ | refine q12 ?_ | refine q13 ?_ | refine q14 ?_ | refine q15 ?_); conv => whnf) | ((refine q16 (fun _ _ _ _ _ => ?_)); conv => whnf) | ((with_reducible first | refine q17 ?_ | refine q18 ?_ | refine q19 ?_ | refine q20 ?_); conv => whnf)))
      rw [← rowC_snoc] at ho7
      have hLcp : LvO v3 v.heap.size cp.base cp.cap cp.ls := by rw [hcp]; exact hLq.ex he6
      have hcpf : ∀ x ∈ cp.fp, v.heap.size ≤ x ∧ x < v3.heap.size := hLcp.fp_lt
      have hbk : ∀ x, blkOf b = some x → x < v.heap.size := fun x hx => (hO.blk_ge x hx).2
      have hevz := hev.size
      have he3z := he3.size
      refine ⟨(k + 1, b7, c7, out ++ [cp]), by simp, ⟨by omega, by simp [hol], by rw [List.length_append]; exact ho7, (hev.tr he3).grow hg7 fun x hx => (hO.blk_ge x hx).1, ?_, ?_⟩, by simp only []; omega⟩
      · rw [List.map_append, hm, List.range_succ, List.map_append]
        congr 1
        rw [hcp, List.map_singleton, List.map_singleton, ← hmq]; rfl
      · intro y hy
        rcases List.mem_append.1 hy with hy | hy
        · obtain ⟨h1, h2⟩ := hcs y hy
          refine ⟨(h1.ex he3).keep hg7 h2, fun x hx => ?_⟩
          have h3 := (h1.fp_lt x hx).2
          rcases hb7 with h7 | h7
          · rw [h7]; exact h2 x hx
          · rw [h7]; intro e; simp at e; omega
        · rw [List.mem_singleton.1 hy]
          refine ⟨(hLcp.mono hevz).keep hg7 fun x hx e => ?_, fun x hx => ?_⟩
          · have h3 := hbk x e.symm; have h4 := (hcpf x hx).1; omega
          · have h4 := hcpf x hx
            rcases hb7 with h7 | h7
            · rw [h7]; intro e; have := hbk x e.symm; omega
            · rw [h7]; intro e; simp at e; omega
    · have hkn : k = n := by omega
      subst hkn
      ((conv => whnf); repeat' (first | ((with_reducible first | refine q1 ?_ | refine q2 ?_); conv => whnf) | (with_reducible refine q3 ?_) | ((with_reducible refine q4 (fun _ => ?_) (fun _ => ?_)) <;> first | (exfalso; omega) | (conv => whnf)) | ((with_reducible first | refine q5 ?_ | refine q6 ?_ | refine q7 ?_ | refine q8 ?_ | refine q9 ?_ | refine q10 ?_ | refine q11 ?_ | refine q12 ?_ | refine q13 ?_ | refine q14 ?_ | refine q15 ?_); conv => whnf) | ((refine q16 (fun _ _ _ _ _ => ?_)); conv => whnf) | ((with_reducible first | refine q17 ?_ | refine q18 ?_ | refine q19 ?_ | refine q20 ?_); conv => whnf)))
      have hmm : out.map Cp.m = ms := by rw [hm, ← hGl]; exact copyM_all ms
      have hnd : ∀ cp ∈ out, Asc cp.m := fun cp hcp => hak _ (by rw [← hmm]; exact List.mem_map_of_mem hcp)
      have hcps : Cps v b out := by
        refine ⟨hO.row, fun cp hcp => ?_, ?_, fun cp hcp x hx => (hnd cp hcp).wid _ (List.mem_map_of_mem hx)⟩
        · have hAc := hnd cp hcp
          have hll : cp.ls.length ≤ 1000 := by simpa [Cp.m] using hAc.len
          refine ⟨(hcs cp hcp).1.lvs (by omega) fun x hx => ?_, (hcs cp hcp).1.len_le⟩
          have : x.words.xs.length ≤ 1000 := hAc.wid _ (List.mem_map_of_mem hx)
          omega
        · rw [← hmm, List.length_flatten, List.map_map] at hfk
          rw [List.length_flatMap]
          refine Nat.le_trans (Nat.le_of_eq ?_) hfk
          congr 1
          refine List.map_congr_left fun c _ => ?_
          simp [Cp.m]
      refine LoadN.blk (hBb.ex hev) rfl ?_
      ((conv => whnf); repeat' (first | ((with_reducible first | refine q1 ?_ | refine q2 ?_); conv => whnf) | (with_reducible refine q3 ?_) | ((with_reducible refine q4 (fun _ => ?_) (fun _ => ?_)) <;> first | (exfalso; omega) | (conv => whnf)) | ((with_reducible first | refine q5 ?_ | refine q6 ?_ | refine q7 ?_ | refine q8 ?_ | refine q9 ?_ | refine q10 ?_ | refine q11 ?_ | refine q12 ?_ | refine q13 ?_ | refine q14 ?_ | refine q15 ?_); conv => whnf) | ((refine q16 (fun _ _ _ _ _ => ?_)); conv => whnf) | ((with_reducible first | refine q17 ?_ | refine q18 ?_ | refine q19 ?_ | refine q20 ?_); conv => whnf)))
      have hjc := Tryz.Join s b c out v hcps hO.le (by omega)
      rw [hmm, hGk.join hsh (by omega)] at hjc
      refine CallA.mono hjc ?_
      rintro v1 v2 ⟨bj, cj, lj, rfl, hLj, hmj, he2⟩
      simp only [] at hmj
      have hjl : (joinM s ms).length = lj.length := by rw [← hmj, List.length_map]
      simp only []
      rw [hjl]
      ((conv => whnf); repeat' (first | ((with_reducible first | refine q1 ?_ | refine q2 ?_); conv => whnf) | (with_reducible refine q3 ?_) | ((with_reducible refine q4 (fun _ => ?_) (fun _ => ?_)) <;> first | (exfalso; omega) | (conv => whnf)) | ((with_reducible first | refine q5 ?_ | refine q6 ?_ | refine q7 ?_ | refine q8 ?_ | refine q9 ?_ | refine q10 ?_ | refine q11 ?_ | refine q12 ?_ | refine q13 ?_ | refine q14 ?_ | refine q15 ?_); conv => whnf) | ((refine q16 (fun _ _ _ _ _ => ?_)); conv => whnf) | ((with_reducible first | refine q17 ?_ | refine q18 ?_ | refine q19 ?_ | refine q20 ?_); conv => whnf)))
      have hev2 := hev.tr he2
      have hB2 := hBb.ex hev2
      have hLb2 := hLbu.ex hev2
      have hbn : (lb.length : Int) = s.data + s.checks := by rw [← hbl, hbook]; unfold wholeM; rw [List.length_map, List.length_range]; omega
      have hjm : ∀ x ∈ lj, 1 ≤ x.number ∧ x.number ≤ (lb.length : Int) ∧ x.words.xs.length ≤ 1000 := by
        intro x hx
        have h1 : x.m ∈ joinM s ms := by rw [← hmj]; exact List.mem_map_of_mem hx
        obtain ⟨h2, h3, h4⟩ := joinM_mem h1
        obtain ⟨c, hc, hxc⟩ := List.mem_flatten.1 h4
        exact ⟨h2, by have : x.m.1 = x.number := rfl; omega, (hak c hc).wid _ hxc⟩
      have hjll : lj.length ≤ 1000 := by
        have := (joinM_asc hsh ms (fun x hx => by obtain ⟨c, hc, hxc⟩ := List.mem_flatten.1 hx; exact (hak c hc).wid _ hxc)).len
        omega
      refine loop_rule Tryz.tbOk Nat [19, 18] (fun i => [.int .i64 (i:Int), .int .i64 (wrongN book ((lj.take i).map Lf.m) : Int)])
        (fun i z => i ≤ lj.length ∧ Ex v2 z) (fun i => lj.length - i) 0 rfl ⟨by omega, Ex.refl _⟩ ?_
      rintro i z ⟨hi', hez⟩ zx
      have hLjz := hLj.ex hez
      have hwn : wrongN book ((lj.take i).map Lf.m) ≤ i := by
        unfold wrongN
        refine Nat.le_trans List.countP_le_length ?_
        rw [List.length_map, List.length_take]; omega
      by_cases hlt : i < lj.length
      · obtain ⟨hn1, hn2, hn3⟩ := hjm _ (List.getElem_mem hlt)
        ((conv => whnf); repeat' (first | ((with_reducible first | refine q1 ?_ | refine q2 ?_); conv => whnf) | (with_reducible refine q3 ?_) | ((with_reducible refine q4 (fun _ => ?_) (fun _ => ?_)) <;> first | (exfalso; omega) | (conv => whnf)) | ((with_reducible first | refine q5 ?_ | refine q6 ?_ | refine q7 ?_ | refine q8 ?_ | refine q9 ?_ | refine q10 ?_ | refine q11 ?_ | refine q12 ?_ | refine q13 ?_ | refine q14 ?_ | refine q15 ?_); conv => whnf) | ((refine q16 (fun _ _ _ _ _ => ?_)); conv => whnf) | ((with_reducible first | refine q17 ?_ | refine q18 ?_ | refine q19 ?_ | refine q20 ?_); conv => whnf)))
        refine IdxA.elem (sz := 2) hLjz.row.row (fun _ => rfl) (by decide) rfl i rfl hlt (fun bq oq hbq hcell => ?_)
        ((conv => whnf); repeat' (first | ((with_reducible first | refine q1 ?_ | refine q2 ?_); conv => whnf) | (with_reducible refine q3 ?_) | ((with_reducible refine q4 (fun _ => ?_) (fun _ => ?_)) <;> first | (exfalso; omega) | (conv => whnf)) | ((with_reducible first | refine q5 ?_ | refine q6 ?_ | refine q7 ?_ | refine q8 ?_ | refine q9 ?_ | refine q10 ?_ | refine q11 ?_ | refine q12 ?_ | refine q13 ?_ | refine q14 ?_ | refine q15 ?_); conv => whnf) | ((refine q16 (fun _ _ _ _ _ => ?_)); conv => whnf) | ((with_reducible first | refine q17 ?_ | refine q18 ?_ | refine q19 ?_ | refine q20 ?_); conv => whnf)))
        refine Load1.mk' (hcell 0 _ rfl) ?_
        ((conv => whnf); repeat' (first | ((with_reducible first | refine q1 ?_ | refine q2 ?_); conv => whnf) | (with_reducible refine q3 ?_) | ((with_reducible refine q4 (fun _ => ?_) (fun _ => ?_)) <;> first | (exfalso; omega) | (conv => whnf)) | ((with_reducible first | refine q5 ?_ | refine q6 ?_ | refine q7 ?_ | refine q8 ?_ | refine q9 ?_ | refine q10 ?_ | refine q11 ?_ | refine q12 ?_ | refine q13 ?_ | refine q14 ?_ | refine q15 ?_); conv => whnf) | ((refine q16 (fun _ _ _ _ _ => ?_)); conv => whnf) | ((with_reducible first | refine q17 ?_ | refine q18 ?_ | refine q19 ?_ | refine q20 ?_); conv => whnf)))
        refine IdxA.elem (sz := 2) hLjz.row.row (fun _ => rfl) (by decide) rfl i rfl hlt (fun bq oq hbq hcell => ?_)
        ((conv => whnf); repeat' (first | ((with_reducible first | refine q1 ?_ | refine q2 ?_); conv => whnf) | (with_reducible refine q3 ?_) | ((with_reducible refine q4 (fun _ => ?_) (fun _ => ?_)) <;> first | (exfalso; omega) | (conv => whnf)) | ((with_reducible first | refine q5 ?_ | refine q6 ?_ | refine q7 ?_ | refine q8 ?_ | refine q9 ?_ | refine q10 ?_ | refine q11 ?_ | refine q12 ?_ | refine q13 ?_ | refine q14 ?_ | refine q15 ?_); conv => whnf) | ((refine q16 (fun _ _ _ _ _ => ?_)); conv => whnf) | ((with_reducible first | refine q17 ?_ | refine q18 ?_ | refine q19 ?_ | refine q20 ?_); conv => whnf)))
        refine Load1.mk' (hcell 0 _ rfl) ?_
        ((conv => whnf); repeat' (first | ((with_reducible first | refine q1 ?_ | refine q2 ?_); conv => whnf) | (with_reducible refine q3 ?_) | ((with_reducible refine q4 (fun _ => ?_) (fun _ => ?_)) <;> first | (exfalso; omega) | (conv => whnf)) | ((with_reducible first | refine q5 ?_ | refine q6 ?_ | refine q7 ?_ | refine q8 ?_ | refine q9 ?_ | refine q10 ?_ | refine q11 ?_ | refine q12 ?_ | refine q13 ?_ | refine q14 ?_ | refine q15 ?_); conv => whnf) | ((refine q16 (fun _ _ _ _ _ => ?_)); conv => whnf) | ((with_reducible first | refine q17 ?_ | refine q18 ?_ | refine q19 ?_ | refine q20 ?_); conv => whnf)))
        obtain ⟨t, ht⟩ : ∃ t : Nat, lj[i].number = (t : Int) + 1 := ⟨(lj[i].number - 1).toNat, by omega⟩
        have htl : t < lb.length := by omega
        have hLbz := hLb2.ex hez
        have hwnx : wrongN book ((lj.take (i + 1)).map Lf.m) = wrongN book ((lj.take i).map Lf.m) + if decide (lj[i].words.xs = lb[t].words.xs) = true then 0 else 1 := by
          have hbt : (book.getD (lj[i].m.1 - 1).toNat (0, [])).2 = lb[t].words.xs := by
            have : (lj[i].m.1 - 1).toNat = t := by have : lj[i].m.1 = lj[i].number := rfl; omega
            rw [this, ← hmb, getD_get (by simpa using htl), List.getElem_map]; rfl
          unfold wrongN
          rw [List.take_succ_eq_append_getElem hlt, List.map_append, List.countP_append, List.map_singleton, List.countP_singleton, hbt]
          congr 1
          have : lj[i].m.2 = lj[i].words.xs := rfl
          rw [this]
          by_cases hd : lj[i].words.xs = lb[t].words.xs
          · simp [hd]
          · simp [hd]
        refine draw_rule Tryz.tbOk Tryz.mix (fun z2 => Ex z z2) (.take 0 (.take 1 (.take 2 (.take 3 (.take 4 (.take 5 (.take 6 (.take 7 (.take 8 (.take 9 (.take 10 (.take 11 (.take 12 (.take 13 (.take 14 (.one 15 (.take 16 (.done)))))))))))))))))) (by kernel_rfl) (by kernel_rfl) ?_
        intro z2 hd2
        refine ⟨hd2.ex, ?_⟩
        ((conv => whnf); repeat' (first | ((with_reducible first | refine q1 ?_ | refine q2 ?_); conv => whnf) | (with_reducible refine q3 ?_) | ((with_reducible refine q4 (fun _ => ?_) (fun _ => ?_)) <;> first | (exfalso; omega) | (conv => whnf)) | ((with_reducible first | refine q5 ?_ | refine q6 ?_ | refine q7 ?_ | refine q8 ?_ | refine q9 ?_ | refine q10 ?_ | refine q11 ?_ | refine q12 ?_ | refine q13 ?_ | refine q14 ?_ | refine q15 ?_); conv => whnf) | ((refine q16 (fun _ _ _ _ _ => ?_)); conv => whnf) | ((with_reducible first | refine q17 ?_ | refine q18 ?_ | refine q19 ?_ | refine q20 ?_); conv => whnf)))
        refine IdxA.elem (sz := 2) hLjz.row.row (fun _ => rfl) (by decide) rfl i rfl hlt (fun bq oq hbq hcell => ?_)
        ((conv => whnf); repeat' (first | ((with_reducible first | refine q1 ?_ | refine q2 ?_); conv => whnf) | (with_reducible refine q3 ?_) | ((with_reducible refine q4 (fun _ => ?_) (fun _ => ?_)) <;> first | (exfalso; omega) | (conv => whnf)) | ((with_reducible first | refine q5 ?_ | refine q6 ?_ | refine q7 ?_ | refine q8 ?_ | refine q9 ?_ | refine q10 ?_ | refine q11 ?_ | refine q12 ?_ | refine q13 ?_ | refine q14 ?_ | refine q15 ?_); conv => whnf) | ((refine q16 (fun _ _ _ _ _ => ?_)); conv => whnf) | ((with_reducible first | refine q17 ?_ | refine q18 ?_ | refine q19 ?_ | refine q20 ?_); conv => whnf)))
        refine Hold1.mk' (hcell 1 _ rfl) (fun _ h => h) ?_
        ((conv => whnf); repeat' (first | ((with_reducible first | refine q1 ?_ | refine q2 ?_); conv => whnf) | (with_reducible refine q3 ?_) | ((with_reducible refine q4 (fun _ => ?_) (fun _ => ?_)) <;> first | (exfalso; omega) | (conv => whnf)) | ((with_reducible first | refine q5 ?_ | refine q6 ?_ | refine q7 ?_ | refine q8 ?_ | refine q9 ?_ | refine q10 ?_ | refine q11 ?_ | refine q12 ?_ | refine q13 ?_ | refine q14 ?_ | refine q15 ?_); conv => whnf) | ((refine q16 (fun _ _ _ _ _ => ?_)); conv => whnf) | ((with_reducible first | refine q17 ?_ | refine q18 ?_ | refine q19 ?_ | refine q20 ?_); conv => whnf)))
        refine IdxA.elem (sz := 2) hLjz.row.row (fun _ => rfl) (by decide) rfl i rfl hlt (fun bq oq hbq hcell => ?_)
        ((conv => whnf); repeat' (first | ((with_reducible first | refine q1 ?_ | refine q2 ?_); conv => whnf) | (with_reducible refine q3 ?_) | ((with_reducible refine q4 (fun _ => ?_) (fun _ => ?_)) <;> first | (exfalso; omega) | (conv => whnf)) | ((with_reducible first | refine q5 ?_ | refine q6 ?_ | refine q7 ?_ | refine q8 ?_ | refine q9 ?_ | refine q10 ?_ | refine q11 ?_ | refine q12 ?_ | refine q13 ?_ | refine q14 ?_ | refine q15 ?_); conv => whnf) | ((refine q16 (fun _ _ _ _ _ => ?_)); conv => whnf) | ((with_reducible first | refine q17 ?_ | refine q18 ?_ | refine q19 ?_ | refine q20 ?_); conv => whnf)))
        refine Hold1.mk' (hcell 0 _ rfl) (fun _ h => h) ?_
        ((conv => whnf); repeat' (first | ((with_reducible first | refine q1 ?_ | refine q2 ?_); conv => whnf) | (with_reducible refine q3 ?_) | ((with_reducible refine q4 (fun _ => ?_) (fun _ => ?_)) <;> first | (exfalso; omega) | (conv => whnf)) | ((with_reducible first | refine q5 ?_ | refine q6 ?_ | refine q7 ?_ | refine q8 ?_ | refine q9 ?_ | refine q10 ?_ | refine q11 ?_ | refine q12 ?_ | refine q13 ?_ | refine q14 ?_ | refine q15 ?_); conv => whnf) | ((refine q16 (fun _ _ _ _ _ => ?_)); conv => whnf) | ((with_reducible first | refine q17 ?_ | refine q18 ?_ | refine q19 ?_ | refine q20 ?_); conv => whnf)))
        refine IdxA.elem (sz := 2) hLbz.row.row (fun _ => rfl) (by decide) rfl t (by omega) htl (fun bq oq hbq hcell => ?_)
        ((conv => whnf); repeat' (first | ((with_reducible first | refine q1 ?_ | refine q2 ?_); conv => whnf) | (with_reducible refine q3 ?_) | ((with_reducible refine q4 (fun _ => ?_) (fun _ => ?_)) <;> first | (exfalso; omega) | (conv => whnf)) | ((with_reducible first | refine q5 ?_ | refine q6 ?_ | refine q7 ?_ | refine q8 ?_ | refine q9 ?_ | refine q10 ?_ | refine q11 ?_ | refine q12 ?_ | refine q13 ?_ | refine q14 ?_ | refine q15 ?_); conv => whnf) | ((refine q16 (fun _ _ _ _ _ => ?_)); conv => whnf) | ((with_reducible first | refine q17 ?_ | refine q18 ?_ | refine q19 ?_ | refine q20 ?_); conv => whnf)))
        refine Hold1.mk' (hcell 1 _ rfl) (fun _ h => h) ?_
        ((conv => whnf); repeat' (first | ((with_reducible first | refine q1 ?_ | refine q2 ?_); conv => whnf) | (with_reducible refine q3 ?_) | ((with_reducible refine q4 (fun _ => ?_) (fun _ => ?_)) <;> first | (exfalso; omega) | (conv => whnf)) | ((with_reducible first | refine q5 ?_ | refine q6 ?_ | refine q7 ?_ | refine q8 ?_ | refine q9 ?_ | refine q10 ?_ | refine q11 ?_ | refine q12 ?_ | refine q13 ?_ | refine q14 ?_ | refine q15 ?_); conv => whnf) | ((refine q16 (fun _ _ _ _ _ => ?_)); conv => whnf) | ((with_reducible first | refine q17 ?_ | refine q18 ?_ | refine q19 ?_ | refine q20 ?_); conv => whnf)))
        refine CallA.mono (Tryz.sameInts lj[i].words.base lb[t].words.base lj[i].words.cap lb[t].words.cap lj[i].words.xs lb[t].words.xs z2 ((hLjz.each i hlt).ex hd2.ex).row ((hLbz.each t htl).ex hd2.ex).row (by omega)) ?_
        rintro v1 z3 ⟨rfl, he3⟩
        have hez3 := hd2.ex.tr he3
        refine Anew.mk hez3 ?_
        ((conv => whnf); repeat' (first | ((with_reducible first | refine q1 ?_ | refine q2 ?_); conv => whnf) | (with_reducible refine q3 ?_) | ((with_reducible refine q4 (fun _ => ?_) (fun _ => ?_)) <;> first | (exfalso; omega) | (conv => whnf)) | ((with_reducible first | refine q5 ?_ | refine q6 ?_ | refine q7 ?_ | refine q8 ?_ | refine q9 ?_ | refine q10 ?_ | refine q11 ?_ | refine q12 ?_ | refine q13 ?_ | refine q14 ?_ | refine q15 ?_); conv => whnf) | ((refine q16 (fun _ _ _ _ _ => ?_)); conv => whnf) | ((with_reducible first | refine q17 ?_ | refine q18 ?_ | refine q19 ?_ | refine q20 ?_); conv => whnf)))
        · rename_i heq
          rw [if_pos (by simpa using heq), Nat.add_zero] at hwnx
          exact ⟨i + 1, by rw [hwnx]; rfl, ⟨by omega, hez.tr hez3⟩, by omega⟩
        · rename_i heq
          rw [if_neg (by simpa using heq)] at hwnx
          exact ⟨i + 1, by rw [hwnx]; rfl, ⟨by omega, hez.tr hez3⟩, by omega⟩
      · have hil : i = lj.length := by omega
        subst hil
        ((conv => whnf); repeat' (first | ((with_reducible first | refine q1 ?_ | refine q2 ?_); conv => whnf) | (with_reducible refine q3 ?_) | ((with_reducible refine q4 (fun _ => ?_) (fun _ => ?_)) <;> first | (exfalso; omega) | (conv => whnf)) | ((with_reducible first | refine q5 ?_ | refine q6 ?_ | refine q7 ?_ | refine q8 ?_ | refine q9 ?_ | refine q10 ?_ | refine q11 ?_ | refine q12 ?_ | refine q13 ?_ | refine q14 ?_ | refine q15 ?_); conv => whnf) | ((refine q16 (fun _ _ _ _ _ => ?_)); conv => whnf) | ((with_reducible first | refine q17 ?_ | refine q18 ?_ | refine q19 ?_ | refine q20 ?_); conv => whnf)))
        refine Load1.blk (hB2.ex hez) (show (shC s)[0]? = some (.int .i64 s.data) from rfl) ?_
        rw [List.take_length, hmj] at hwn ⊢
        ((conv => whnf); repeat' (first | ((with_reducible first | refine q1 ?_ | refine q2 ?_); conv => whnf) | (with_reducible refine q3 ?_) | ((with_reducible refine q4 (fun _ => ?_) (fun _ => ?_)) <;> first | (exfalso; omega) | (conv => whnf)) | ((with_reducible first | refine q5 ?_ | refine q6 ?_ | refine q7 ?_ | refine q8 ?_ | refine q9 ?_ | refine q10 ?_ | refine q11 ?_ | refine q12 ?_ | refine q13 ?_ | refine q14 ?_ | refine q15 ?_); conv => whnf) | ((refine q16 (fun _ _ _ _ _ => ?_)); conv => whnf) | ((with_reducible first | refine q17 ?_ | refine q18 ?_ | refine q19 ?_ | refine q20 ?_); conv => whnf)))
        · exact ⟨rfl, Below.trans hexu (Below.mono (hev2.tr hez) hexu.size)⟩
        rename_i hle
        have hres := hlaw s l ms hwr hGk (by rw [← hbook]; omega)
        refine CallA.mono (Tryz.Lines w4.heap.size g s ms F z (hFu.ex (hev2.tr hez)) hsh (by omega) hak hfk) ?_
        rw [hres]
        rintro v1 z2 ⟨bo, co, rfl, hoo, he3⟩
        simp only [] at hoo ⊢
        ((conv => whnf); repeat' (first | ((with_reducible first | refine q1 ?_ | refine q2 ?_); conv => whnf) | (with_reducible refine q3 ?_) | ((with_reducible refine q4 (fun _ => ?_) (fun _ => ?_)) <;> first | (exfalso; omega) | (conv => whnf)) | ((with_reducible first | refine q5 ?_ | refine q6 ?_ | refine q7 ?_ | refine q8 ?_ | refine q9 ?_ | refine q10 ?_ | refine q11 ?_ | refine q12 ?_ | refine q13 ?_ | refine q14 ?_ | refine q15 ?_); conv => whnf) | ((refine q16 (fun _ _ _ _ _ => ?_)); conv => whnf) | ((with_reducible first | refine q17 ?_ | refine q18 ?_ | refine q19 ?_ | refine q20 ?_); conv => whnf)))
        have hexz := Below.trans hexu (Below.mono ((hev2.tr hez).tr he3) hexu.size)
        refine CallA.mono (Tryz.sameLines bo bl co cl l l z2 hoo.row (hrl.ex hexz) hll.2) ?_
        rintro v1 z3 ⟨rfl, he4⟩
        ((conv => whnf); repeat' (first | ((with_reducible first | refine q1 ?_ | refine q2 ?_); conv => whnf) | (with_reducible refine q3 ?_) | ((with_reducible refine q4 (fun _ => ?_) (fun _ => ?_)) <;> first | (exfalso; omega) | (conv => whnf)) | ((with_reducible first | refine q5 ?_ | refine q6 ?_ | refine q7 ?_ | refine q8 ?_ | refine q9 ?_ | refine q10 ?_ | refine q11 ?_ | refine q12 ?_ | refine q13 ?_ | refine q14 ?_ | refine q15 ?_); conv => whnf) | ((refine q16 (fun _ _ _ _ _ => ?_)); conv => whnf) | ((with_reducible first | refine q17 ?_ | refine q18 ?_ | refine q19 ?_ | refine q20 ?_); conv => whnf)))
        exact ⟨by simp, Below.trans hexz (Below.mono he4 hexz.size)⟩
end Go.Proofs
