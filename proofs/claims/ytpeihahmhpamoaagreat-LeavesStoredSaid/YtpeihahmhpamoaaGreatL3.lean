/-
  L3: a part of the proof. By an AI agent.
-/
import Derived.Test.YtpeihahmhpamoaaGreatVQ
import Derived.Test.YtpeihahmhpamoaaGreatV9
import Derived.Test.YtpeihahmhpamoaaGreatL2
set_option linter.all false
namespace Go.Proofs
open Go.V
open Go.RowKit (Below)
/-- a point -/
def dotC (p : Int × Int) : List Value := [.int .i64 p.1, .int .i64 p.2]
/-- a line of a book -/
structure Line where
  id : Int
  day : Int
  what : Int
  worth : Int
deriving DecidableEq
def lineC (x : Line) : List Value := [.int .i64 x.id, .int .i64 x.day, .int .i64 x.what, .int .i64 x.worth]
/-- a leaf -/
structure Lf where
  number : Int
  words : Sl
def lfC (x : Lf) : List Value := [.int .i64 x.number, x.words.val]

theorem Tryz.indexDots (bx : Option Addr) (cx : Nat) (xs : List (Int × Int)) (f : FuncId) (cap : Array Value) (p : (Int × Int) → Bool) (I : World → Prop) (w : World) (hp : PredA Tryz.prog f cap.toList (fun x => Value.agg (dotC x).toArray) xs p I) (hI : ExK I) (h0 : I w)
    (hx : Row w bx (rowC dotC xs)) (hl : xs.length < 140737488355328) :
    CallA Tryz.prog 119 [.slice bx xs.length cx, .func (.func f) #[] cap] w fun v w' => v = .int .i64 (idxI (xs.findIdx? p)) ∧ Ex w w' := by
  refine callA_intro Tryz.tbOk Tryz.func119 rfl Tryz.ntmps119 Tryz.results119 (by decide) (by simp) ?_
  ((conv => whnf); repeat' (first | ((with_reducible first | refine q1 ?_ | refine q2 ?_); conv => whnf) | (with_reducible refine q3 ?_) | ((with_reducible refine q4 (fun _ => ?_) (fun _ => ?_)) <;> first | (exfalso; omega) | (conv => whnf)) | ((with_reducible first | refine q5 ?_ | refine q6 ?_ | refine q7 ?_ | refine q8 ?_ | refine q9 ?_ | refine q10 ?_ | refine q11 ?_ | refine q12 ?_ | refine q13 ?_ | refine q14 ?_ | refine q15 ?_); conv => whnf) | ((refine q16 (fun _ _ _ _ _ => ?_)); conv => whnf) | ((with_reducible first | refine q17 ?_ | refine q18 ?_ | refine q19 ?_ | refine q20 ?_); conv => whnf)))
  refine loop_rule Tryz.tbOk Nat [8] (fun k => [.int .i64 (k:Int)]) (fun k w' => k ≤ xs.length ∧ (∀ x ∈ xs.take k, p x = false) ∧ Ex w w') (fun k => xs.length - k) 0 rfl ⟨by omega, by simp, Ex.refl w⟩ ?_
  rintro k w' ⟨hk, ht, he⟩ u
  have hx' := hx.ex he
  ((conv => whnf); repeat' (first | ((with_reducible first | refine q1 ?_ | refine q2 ?_); conv => whnf) | (with_reducible refine q3 ?_) | ((with_reducible refine q4 (fun _ => ?_) (fun _ => ?_)) <;> first | (exfalso; omega) | (conv => whnf)) | ((with_reducible first | refine q5 ?_ | refine q6 ?_ | refine q7 ?_ | refine q8 ?_ | refine q9 ?_ | refine q10 ?_ | refine q11 ?_ | refine q12 ?_ | refine q13 ?_ | refine q14 ?_ | refine q15 ?_); conv => whnf) | ((refine q16 (fun _ _ _ _ _ => ?_)); conv => whnf) | ((with_reducible first | refine q17 ?_ | refine q18 ?_ | refine q19 ?_ | refine q20 ?_); conv => whnf)))
  · rename_i hlt
    have hlt : k < xs.length := by omega
    refine IdxA.elem (sz := 2) hx' (fun _ => rfl) (by decide) rfl k rfl hlt (fun b o hb hc => ?_)
    (conv => whnf)
    refine LoadN.mk' (vs := dotC xs[k]) rfl hc ?_
    ((conv => whnf); repeat' (first | ((with_reducible first | refine q1 ?_ | refine q2 ?_); conv => whnf) | (with_reducible refine q3 ?_) | ((with_reducible refine q4 (fun _ => ?_) (fun _ => ?_)) <;> first | (exfalso; omega) | (conv => whnf)) | ((with_reducible first | refine q5 ?_ | refine q6 ?_ | refine q7 ?_ | refine q8 ?_ | refine q9 ?_ | refine q10 ?_ | refine q11 ?_ | refine q12 ?_ | refine q13 ?_ | refine q14 ?_ | refine q15 ?_); conv => whnf) | ((refine q16 (fun _ _ _ _ _ => ?_)); conv => whnf) | ((with_reducible first | refine q17 ?_ | refine q18 ?_ | refine q19 ?_ | refine q20 ?_); conv => whnf)))
    refine CallA.mono (hp _ (List.getElem_mem hlt) _ (hI _ _ h0 he)) ?_
    rintro v w1 ⟨rfl, he1⟩
    ((conv => whnf); repeat' (first | ((with_reducible first | refine q1 ?_ | refine q2 ?_); conv => whnf) | (with_reducible refine q3 ?_) | ((with_reducible refine q4 (fun _ => ?_) (fun _ => ?_)) <;> first | (exfalso; omega) | (conv => whnf)) | ((with_reducible first | refine q5 ?_ | refine q6 ?_ | refine q7 ?_ | refine q8 ?_ | refine q9 ?_ | refine q10 ?_ | refine q11 ?_ | refine q12 ?_ | refine q13 ?_ | refine q14 ?_ | refine q15 ?_); conv => whnf) | ((refine q16 (fun _ _ _ _ _ => ?_)); conv => whnf) | ((with_reducible first | refine q17 ?_ | refine q18 ?_ | refine q19 ?_ | refine q20 ?_); conv => whnf)))
    refine Br.var (fun h => ?_) (fun h => ?_)
    · ((conv => whnf); repeat' (first | ((with_reducible first | refine q1 ?_ | refine q2 ?_); conv => whnf) | (with_reducible refine q3 ?_) | ((with_reducible refine q4 (fun _ => ?_) (fun _ => ?_)) <;> first | (exfalso; omega) | (conv => whnf)) | ((with_reducible first | refine q5 ?_ | refine q6 ?_ | refine q7 ?_ | refine q8 ?_ | refine q9 ?_ | refine q10 ?_ | refine q11 ?_ | refine q12 ?_ | refine q13 ?_ | refine q14 ?_ | refine q15 ?_); conv => whnf) | ((refine q16 (fun _ _ _ _ _ => ?_)); conv => whnf) | ((with_reducible first | refine q17 ?_ | refine q18 ?_ | refine q19 ?_ | refine q20 ?_); conv => whnf)))
      exact ⟨by rw [findIdx?_at hlt ht h]; rfl, he.tr he1⟩
    · ((conv => whnf); repeat' (first | ((with_reducible first | refine q1 ?_ | refine q2 ?_); conv => whnf) | (with_reducible refine q3 ?_) | ((with_reducible refine q4 (fun _ => ?_) (fun _ => ?_)) <;> first | (exfalso; omega) | (conv => whnf)) | ((with_reducible first | refine q5 ?_ | refine q6 ?_ | refine q7 ?_ | refine q8 ?_ | refine q9 ?_ | refine q10 ?_ | refine q11 ?_ | refine q12 ?_ | refine q13 ?_ | refine q14 ?_ | refine q15 ?_); conv => whnf) | ((refine q16 (fun _ _ _ _ _ => ?_)); conv => whnf) | ((with_reducible first | refine q17 ?_ | refine q18 ?_ | refine q19 ?_ | refine q20 ?_); conv => whnf)))
      exact ⟨k + 1, rfl, ⟨by omega, findIdx?_take_succ hlt ht h, he.tr he1⟩, by omega⟩
  · exact ⟨by rw [findIdx?_no (by omega) ht]; rfl, he⟩

theorem Tryz.containsDots (bx : Option Addr) (cx : Nat) (xs : List (Int × Int)) (f : FuncId) (cap : Array Value) (p : (Int × Int) → Bool) (I : World → Prop) (w : World) (hp : PredA Tryz.prog f cap.toList (fun x => Value.agg (dotC x).toArray) xs p I) (hI : ExK I) (h0 : I w)
    (hx : Row w bx (rowC dotC xs)) (hl : xs.length < 140737488355328) :
    CallA Tryz.prog 76 [.slice bx xs.length cx, .func (.func f) #[] cap] w fun v w' => v = .bool (xs.any p) ∧ Ex w w' := by
  refine callA_intro Tryz.tbOk Tryz.func76 rfl Tryz.ntmps76 Tryz.results76 (by decide) (by simp) ?_
  ((conv => whnf); repeat' (first | ((with_reducible first | refine q1 ?_ | refine q2 ?_); conv => whnf) | (with_reducible refine q3 ?_) | ((with_reducible refine q4 (fun _ => ?_) (fun _ => ?_)) <;> first | (exfalso; omega) | (conv => whnf)) | ((with_reducible first | refine q5 ?_ | refine q6 ?_ | refine q7 ?_ | refine q8 ?_ | refine q9 ?_ | refine q10 ?_ | refine q11 ?_ | refine q12 ?_ | refine q13 ?_ | refine q14 ?_ | refine q15 ?_); conv => whnf) | ((refine q16 (fun _ _ _ _ _ => ?_)); conv => whnf) | ((with_reducible first | refine q17 ?_ | refine q18 ?_ | refine q19 ?_ | refine q20 ?_); conv => whnf)))
  refine CallA.mono (Tryz.indexDots _ _ xs f cap p I _ hp hI h0 hx hl) ?_; rintro v w1 ⟨rfl, he1⟩; ((conv => whnf); repeat' (first | ((with_reducible first | refine q1 ?_ | refine q2 ?_); conv => whnf) | (with_reducible refine q3 ?_) | ((with_reducible refine q4 (fun _ => ?_) (fun _ => ?_)) <;> first | (exfalso; omega) | (conv => whnf)) | ((with_reducible first | refine q5 ?_ | refine q6 ?_ | refine q7 ?_ | refine q8 ?_ | refine q9 ?_ | refine q10 ?_ | refine q11 ?_ | refine q12 ?_ | refine q13 ?_ | refine q14 ?_ | refine q15 ?_); conv => whnf) | ((refine q16 (fun _ _ _ _ _ => ?_)); conv => whnf) | ((with_reducible first | refine q17 ?_ | refine q18 ?_ | refine q19 ?_ | refine q20 ?_); conv => whnf)))
  exact ⟨by rw [← any_of_idx], he1⟩

theorem Tryz.all1Dots (f : FuncId) (cap : Array Value) (p : (Int × Int) → Bool) (xs : List (Int × Int)) (b : Nat) (I : World → Prop) (hp : PredA Tryz.prog f cap.toList (fun x => Value.agg (dotC x).toArray) xs p I) (hI : ExK I) :
    PredA Tryz.prog 118 [.pointer (some ⟨b, 0, none⟩)] (fun x => Value.agg (dotC x).toArray) xs (fun x => !p x) fun w => w.cell? ⟨b, 0, none⟩ = some (.func (.func f) #[] cap) ∧ I w := by
  rintro x hm w ⟨hw, hi⟩
  show CallA Tryz.prog 118 [(Value.agg (dotC x).toArray), .pointer (some ⟨b, 0, none⟩)] w _
  refine callA_intro Tryz.tbOk Tryz.func118 rfl Tryz.ntmps118 Tryz.results118 (by decide) (by simp) ?_
  ((conv => whnf); repeat' (first | ((with_reducible first | refine q1 ?_ | refine q2 ?_); conv => whnf) | (with_reducible refine q3 ?_) | ((with_reducible refine q4 (fun _ => ?_) (fun _ => ?_)) <;> first | (exfalso; omega) | (conv => whnf)) | ((with_reducible first | refine q5 ?_ | refine q6 ?_ | refine q7 ?_ | refine q8 ?_ | refine q9 ?_ | refine q10 ?_ | refine q11 ?_ | refine q12 ?_ | refine q13 ?_ | refine q14 ?_ | refine q15 ?_); conv => whnf) | ((refine q16 (fun _ _ _ _ _ => ?_)); conv => whnf) | ((with_reducible first | refine q17 ?_ | refine q18 ?_ | refine q19 ?_ | refine q20 ?_); conv => whnf)))
  refine NewA.mk' fun w0 b1 hb1 hs1 he1 hB1 => ?_
  have hw := he1.cell hw
  ((conv => whnf); repeat' (first | ((with_reducible first | refine q1 ?_ | refine q2 ?_); conv => whnf) | (with_reducible refine q3 ?_) | ((with_reducible refine q4 (fun _ => ?_) (fun _ => ?_)) <;> first | (exfalso; omega) | (conv => whnf)) | ((with_reducible first | refine q5 ?_ | refine q6 ?_ | refine q7 ?_ | refine q8 ?_ | refine q9 ?_ | refine q10 ?_ | refine q11 ?_ | refine q12 ?_ | refine q13 ?_ | refine q14 ?_ | refine q15 ?_); conv => whnf) | ((refine q16 (fun _ _ _ _ _ => ?_)); conv => whnf) | ((with_reducible first | refine q17 ?_ | refine q18 ?_ | refine q19 ?_ | refine q20 ?_); conv => whnf)))
  refine CallA.mono (hp _ hm _ (hI _ _ hi he1)) ?_
  rintro v w1 ⟨rfl, he2⟩
  ((conv => whnf); repeat' (first | ((with_reducible first | refine q1 ?_ | refine q2 ?_); conv => whnf) | (with_reducible refine q3 ?_) | ((with_reducible refine q4 (fun _ => ?_) (fun _ => ?_)) <;> first | (exfalso; omega) | (conv => whnf)) | ((with_reducible first | refine q5 ?_ | refine q6 ?_ | refine q7 ?_ | refine q8 ?_ | refine q9 ?_ | refine q10 ?_ | refine q11 ?_ | refine q12 ?_ | refine q13 ?_ | refine q14 ?_ | refine q15 ?_); conv => whnf) | ((refine q16 (fun _ _ _ _ _ => ?_)); conv => whnf) | ((with_reducible first | refine q17 ?_ | refine q18 ?_ | refine q19 ?_ | refine q20 ?_); conv => whnf)))
  exact ⟨rfl, he1.tr he2⟩
theorem Tryz.allDots (bx : Option Addr) (cx : Nat) (xs : List (Int × Int)) (f : FuncId) (cap : Array Value) (p : (Int × Int) → Bool) (I : World → Prop) (w : World) (hp : PredA Tryz.prog f cap.toList (fun x => Value.agg (dotC x).toArray) xs p I) (hI : ExK I) (h0 : I w)
    (hx : Row w bx (rowC dotC xs)) (hl : xs.length < 140737488355328) :
    CallA Tryz.prog 74 [.slice bx xs.length cx, .func (.func f) #[] cap] w fun v w' => v = .bool (xs.all p) ∧ Ex w w' := by
  refine callA_intro Tryz.tbOk Tryz.func74 rfl Tryz.ntmps74 Tryz.results74 (by decide) (by simp) ?_
  ((conv => whnf); repeat' (first | ((with_reducible first | refine q1 ?_ | refine q2 ?_); conv => whnf) | (with_reducible refine q3 ?_) | ((with_reducible refine q4 (fun _ => ?_) (fun _ => ?_)) <;> first | (exfalso; omega) | (conv => whnf)) | ((with_reducible first | refine q5 ?_ | refine q6 ?_ | refine q7 ?_ | refine q8 ?_ | refine q9 ?_ | refine q10 ?_ | refine q11 ?_ | refine q12 ?_ | refine q13 ?_ | refine q14 ?_ | refine q15 ?_); conv => whnf) | ((refine q16 (fun _ _ _ _ _ => ?_)); conv => whnf) | ((with_reducible first | refine q17 ?_ | refine q18 ?_ | refine q19 ?_ | refine q20 ?_); conv => whnf)))
  refine NewA.mk' fun w1 b hb hs he hB => ?_
  ((conv => whnf); repeat' (first | ((with_reducible first | refine q1 ?_ | refine q2 ?_); conv => whnf) | (with_reducible refine q3 ?_) | ((with_reducible refine q4 (fun _ => ?_) (fun _ => ?_)) <;> first | (exfalso; omega) | (conv => whnf)) | ((with_reducible first | refine q5 ?_ | refine q6 ?_ | refine q7 ?_ | refine q8 ?_ | refine q9 ?_ | refine q10 ?_ | refine q11 ?_ | refine q12 ?_ | refine q13 ?_ | refine q14 ?_ | refine q15 ?_); conv => whnf) | ((refine q16 (fun _ _ _ _ _ => ?_)); conv => whnf) | ((with_reducible first | refine q17 ?_ | refine q18 ?_ | refine q19 ?_ | refine q20 ?_); conv => whnf)))
  refine CallA.mono (Tryz.containsDots _ _ xs 118 #[.pointer (some ⟨b, 0, none⟩)] _ _ _ (Tryz.all1Dots f cap p xs b I hp hI) (fun u u' h e => ⟨e.cell h.1, hI _ _ h.2 e⟩) ⟨hB.cell 0, hI _ _ h0 he⟩ (hx.ex he) hl) ?_; rintro v w2 ⟨rfl, he2⟩; ((conv => whnf); repeat' (first | ((with_reducible first | refine q1 ?_ | refine q2 ?_); conv => whnf) | (with_reducible refine q3 ?_) | ((with_reducible refine q4 (fun _ => ?_) (fun _ => ?_)) <;> first | (exfalso; omega) | (conv => whnf)) | ((with_reducible first | refine q5 ?_ | refine q6 ?_ | refine q7 ?_ | refine q8 ?_ | refine q9 ?_ | refine q10 ?_ | refine q11 ?_ | refine q12 ?_ | refine q13 ?_ | refine q14 ?_ | refine q15 ?_); conv => whnf) | ((refine q16 (fun _ _ _ _ _ => ?_)); conv => whnf) | ((with_reducible first | refine q17 ?_ | refine q18 ?_ | refine q19 ?_ | refine q20 ?_); conv => whnf)))
  exact ⟨by rw [List.all_eq_not_any_not], he.tr he2⟩

theorem Tryz.indexSls (bx : Option Addr) (cx : Nat) (xs : List Sl) (f : FuncId) (cap : Array Value) (p : Sl → Bool) (I : World → Prop) (w : World) (hp : PredA Tryz.prog f cap.toList (Sl.val) xs p I) (hI : ExK I) (h0 : I w)
    (hx : Row w bx (rowC slC xs)) (hl : xs.length < 140737488355328) :
    CallA Tryz.prog 144 [.slice bx xs.length cx, .func (.func f) #[] cap] w fun v w' => v = .int .i64 (idxI (xs.findIdx? p)) ∧ Ex w w' := by
  refine callA_intro Tryz.tbOk Tryz.func144 rfl Tryz.ntmps144 Tryz.results144 (by decide) (by simp) ?_
  ((conv => whnf); repeat' (first | ((with_reducible first | refine q1 ?_ | refine q2 ?_); conv => whnf) | (with_reducible refine q3 ?_) | ((with_reducible refine q4 (fun _ => ?_) (fun _ => ?_)) <;> first | (exfalso; omega) | (conv => whnf)) | ((with_reducible first | refine q5 ?_ | refine q6 ?_ | refine q7 ?_ | refine q8 ?_ | refine q9 ?_ | refine q10 ?_ | refine q11 ?_ | refine q12 ?_ | refine q13 ?_ | refine q14 ?_ | refine q15 ?_); conv => whnf) | ((refine q16 (fun _ _ _ _ _ => ?_)); conv => whnf) | ((with_reducible first | refine q17 ?_ | refine q18 ?_ | refine q19 ?_ | refine q20 ?_); conv => whnf)))
  refine loop_rule Tryz.tbOk Nat [8] (fun k => [.int .i64 (k:Int)]) (fun k w' => k ≤ xs.length ∧ (∀ x ∈ xs.take k, p x = false) ∧ Ex w w') (fun k => xs.length - k) 0 rfl ⟨by omega, by simp, Ex.refl w⟩ ?_
  rintro k w' ⟨hk, ht, he⟩ u
  have hx' := hx.ex he
  ((conv => whnf); repeat' (first | ((with_reducible first | refine q1 ?_ | refine q2 ?_); conv => whnf) | (with_reducible refine q3 ?_) | ((with_reducible refine q4 (fun _ => ?_) (fun _ => ?_)) <;> first | (exfalso; omega) | (conv => whnf)) | ((with_reducible first | refine q5 ?_ | refine q6 ?_ | refine q7 ?_ | refine q8 ?_ | refine q9 ?_ | refine q10 ?_ | refine q11 ?_ | refine q12 ?_ | refine q13 ?_ | refine q14 ?_ | refine q15 ?_); conv => whnf) | ((refine q16 (fun _ _ _ _ _ => ?_)); conv => whnf) | ((with_reducible first | refine q17 ?_ | refine q18 ?_ | refine q19 ?_ | refine q20 ?_); conv => whnf)))
  · rename_i hlt
    have hlt : k < xs.length := by omega
    refine IdxA.elem (sz := 1) hx' (fun _ => rfl) (by decide) rfl k rfl hlt (fun b o hb hc => ?_)
    (conv => whnf)
    refine Load1.mk' (hc 0 _ rfl) ?_
    ((conv => whnf); repeat' (first | ((with_reducible first | refine q1 ?_ | refine q2 ?_); conv => whnf) | (with_reducible refine q3 ?_) | ((with_reducible refine q4 (fun _ => ?_) (fun _ => ?_)) <;> first | (exfalso; omega) | (conv => whnf)) | ((with_reducible first | refine q5 ?_ | refine q6 ?_ | refine q7 ?_ | refine q8 ?_ | refine q9 ?_ | refine q10 ?_ | refine q11 ?_ | refine q12 ?_ | refine q13 ?_ | refine q14 ?_ | refine q15 ?_); conv => whnf) | ((refine q16 (fun _ _ _ _ _ => ?_)); conv => whnf) | ((with_reducible first | refine q17 ?_ | refine q18 ?_ | refine q19 ?_ | refine q20 ?_); conv => whnf)))
    refine CallA.mono (hp _ (List.getElem_mem hlt) _ (hI _ _ h0 he)) ?_
    rintro v w1 ⟨rfl, he1⟩
    ((conv => whnf); repeat' (first | ((with_reducible first | refine q1 ?_ | refine q2 ?_); conv => whnf) | (with_reducible refine q3 ?_) | ((with_reducible refine q4 (fun _ => ?_) (fun _ => ?_)) <;> first | (exfalso; omega) | (conv => whnf)) | ((with_reducible first | refine q5 ?_ | refine q6 ?_ | refine q7 ?_ | refine q8 ?_ | refine q9 ?_ | refine q10 ?_ | refine q11 ?_ | refine q12 ?_ | refine q13 ?_ | refine q14 ?_ | refine q15 ?_); conv => whnf) | ((refine q16 (fun _ _ _ _ _ => ?_)); conv => whnf) | ((with_reducible first | refine q17 ?_ | refine q18 ?_ | refine q19 ?_ | refine q20 ?_); conv => whnf)))
    refine Br.var (fun h => ?_) (fun h => ?_)
    · ((conv => whnf); repeat' (first | ((with_reducible first | refine q1 ?_ | refine q2 ?_); conv => whnf) | (with_reducible refine q3 ?_) | ((with_reducible refine q4 (fun _ => ?_) (fun _ => ?_)) <;> first | (exfalso; omega) | (conv => whnf)) | ((with_reducible first | refine q5 ?_ | refine q6 ?_ | refine q7 ?_ | refine q8 ?_ | refine q9 ?_ | refine q10 ?_ | refine q11 ?_ | refine q12 ?_ | refine q13 ?_ | refine q14 ?_ | refine q15 ?_); conv => whnf) | ((refine q16 (fun _ _ _ _ _ => ?_)); conv => whnf) | ((with_reducible first | refine q17 ?_ | refine q18 ?_ | refine q19 ?_ | refine q20 ?_); conv => whnf)))
      exact ⟨by rw [findIdx?_at hlt ht h]; rfl, he.tr he1⟩
    · ((conv => whnf); repeat' (first | ((with_reducible first | refine q1 ?_ | refine q2 ?_); conv => whnf) | (with_reducible refine q3 ?_) | ((with_reducible refine q4 (fun _ => ?_) (fun _ => ?_)) <;> first | (exfalso; omega) | (conv => whnf)) | ((with_reducible first | refine q5 ?_ | refine q6 ?_ | refine q7 ?_ | refine q8 ?_ | refine q9 ?_ | refine q10 ?_ | refine q11 ?_ | refine q12 ?_ | refine q13 ?_ | refine q14 ?_ | refine q15 ?_); conv => whnf) | ((refine q16 (fun _ _ _ _ _ => ?_)); conv => whnf) | ((with_reducible first | refine q17 ?_ | refine q18 ?_ | refine q19 ?_ | refine q20 ?_); conv => whnf)))
      exact ⟨k + 1, rfl, ⟨by omega, findIdx?_take_succ hlt ht h, he.tr he1⟩, by omega⟩
  · exact ⟨by rw [findIdx?_no (by omega) ht]; rfl, he⟩

theorem Tryz.containsSls (bx : Option Addr) (cx : Nat) (xs : List Sl) (f : FuncId) (cap : Array Value) (p : Sl → Bool) (I : World → Prop) (w : World) (hp : PredA Tryz.prog f cap.toList (Sl.val) xs p I) (hI : ExK I) (h0 : I w)
    (hx : Row w bx (rowC slC xs)) (hl : xs.length < 140737488355328) :
    CallA Tryz.prog 123 [.slice bx xs.length cx, .func (.func f) #[] cap] w fun v w' => v = .bool (xs.any p) ∧ Ex w w' := by
  refine callA_intro Tryz.tbOk Tryz.func123 rfl Tryz.ntmps123 Tryz.results123 (by decide) (by simp) ?_
  ((conv => whnf); repeat' (first | ((with_reducible first | refine q1 ?_ | refine q2 ?_); conv => whnf) | (with_reducible refine q3 ?_) | ((with_reducible refine q4 (fun _ => ?_) (fun _ => ?_)) <;> first | (exfalso; omega) | (conv => whnf)) | ((with_reducible first | refine q5 ?_ | refine q6 ?_ | refine q7 ?_ | refine q8 ?_ | refine q9 ?_ | refine q10 ?_ | refine q11 ?_ | refine q12 ?_ | refine q13 ?_ | refine q14 ?_ | refine q15 ?_); conv => whnf) | ((refine q16 (fun _ _ _ _ _ => ?_)); conv => whnf) | ((with_reducible first | refine q17 ?_ | refine q18 ?_ | refine q19 ?_ | refine q20 ?_); conv => whnf)))
  refine CallA.mono (Tryz.indexSls _ _ xs f cap p I _ hp hI h0 hx hl) ?_; rintro v w1 ⟨rfl, he1⟩; ((conv => whnf); repeat' (first | ((with_reducible first | refine q1 ?_ | refine q2 ?_); conv => whnf) | (with_reducible refine q3 ?_) | ((with_reducible refine q4 (fun _ => ?_) (fun _ => ?_)) <;> first | (exfalso; omega) | (conv => whnf)) | ((with_reducible first | refine q5 ?_ | refine q6 ?_ | refine q7 ?_ | refine q8 ?_ | refine q9 ?_ | refine q10 ?_ | refine q11 ?_ | refine q12 ?_ | refine q13 ?_ | refine q14 ?_ | refine q15 ?_); conv => whnf) | ((refine q16 (fun _ _ _ _ _ => ?_)); conv => whnf) | ((with_reducible first | refine q17 ?_ | refine q18 ?_ | refine q19 ?_ | refine q20 ?_); conv => whnf)))
  exact ⟨by rw [← any_of_idx], he1⟩

theorem Tryz.all1Sls (f : FuncId) (cap : Array Value) (p : Sl → Bool) (xs : List Sl) (b : Nat) (I : World → Prop) (hp : PredA Tryz.prog f cap.toList (Sl.val) xs p I) (hI : ExK I) :
    PredA Tryz.prog 124 [.pointer (some ⟨b, 0, none⟩)] (Sl.val) xs (fun x => !p x) fun w => w.cell? ⟨b, 0, none⟩ = some (.func (.func f) #[] cap) ∧ I w := by
  rintro x hm w ⟨hw, hi⟩
  show CallA Tryz.prog 124 [(Sl.val x), .pointer (some ⟨b, 0, none⟩)] w _
  refine callA_intro Tryz.tbOk Tryz.func124 rfl Tryz.ntmps124 Tryz.results124 (by decide) (by simp) ?_
  ((conv => whnf); repeat' (first | ((with_reducible first | refine q1 ?_ | refine q2 ?_); conv => whnf) | (with_reducible refine q3 ?_) | ((with_reducible refine q4 (fun _ => ?_) (fun _ => ?_)) <;> first | (exfalso; omega) | (conv => whnf)) | ((with_reducible first | refine q5 ?_ | refine q6 ?_ | refine q7 ?_ | refine q8 ?_ | refine q9 ?_ | refine q10 ?_ | refine q11 ?_ | refine q12 ?_ | refine q13 ?_ | refine q14 ?_ | refine q15 ?_); conv => whnf) | ((refine q16 (fun _ _ _ _ _ => ?_)); conv => whnf) | ((with_reducible first | refine q17 ?_ | refine q18 ?_ | refine q19 ?_ | refine q20 ?_); conv => whnf)))
  refine CallA.mono (hp _ hm _ (hi)) ?_
  rintro v w1 ⟨rfl, he2⟩
  ((conv => whnf); repeat' (first | ((with_reducible first | refine q1 ?_ | refine q2 ?_); conv => whnf) | (with_reducible refine q3 ?_) | ((with_reducible refine q4 (fun _ => ?_) (fun _ => ?_)) <;> first | (exfalso; omega) | (conv => whnf)) | ((with_reducible first | refine q5 ?_ | refine q6 ?_ | refine q7 ?_ | refine q8 ?_ | refine q9 ?_ | refine q10 ?_ | refine q11 ?_ | refine q12 ?_ | refine q13 ?_ | refine q14 ?_ | refine q15 ?_); conv => whnf) | ((refine q16 (fun _ _ _ _ _ => ?_)); conv => whnf) | ((with_reducible first | refine q17 ?_ | refine q18 ?_ | refine q19 ?_ | refine q20 ?_); conv => whnf)))
  exact ⟨rfl, he2⟩
theorem Tryz.allSls (bx : Option Addr) (cx : Nat) (xs : List Sl) (f : FuncId) (cap : Array Value) (p : Sl → Bool) (I : World → Prop) (w : World) (hp : PredA Tryz.prog f cap.toList (Sl.val) xs p I) (hI : ExK I) (h0 : I w)
    (hx : Row w bx (rowC slC xs)) (hl : xs.length < 140737488355328) :
    CallA Tryz.prog 82 [.slice bx xs.length cx, .func (.func f) #[] cap] w fun v w' => v = .bool (xs.all p) ∧ Ex w w' := by
  refine callA_intro Tryz.tbOk Tryz.func82 rfl Tryz.ntmps82 Tryz.results82 (by decide) (by simp) ?_
  ((conv => whnf); repeat' (first | ((with_reducible first | refine q1 ?_ | refine q2 ?_); conv => whnf) | (with_reducible refine q3 ?_) | ((with_reducible refine q4 (fun _ => ?_) (fun _ => ?_)) <;> first | (exfalso; omega) | (conv => whnf)) | ((with_reducible first | refine q5 ?_ | refine q6 ?_ | refine q7 ?_ | refine q8 ?_ | refine q9 ?_ | refine q10 ?_ | refine q11 ?_ | refine q12 ?_ | refine q13 ?_ | refine q14 ?_ | refine q15 ?_); conv => whnf) | ((refine q16 (fun _ _ _ _ _ => ?_)); conv => whnf) | ((with_reducible first | refine q17 ?_ | refine q18 ?_ | refine q19 ?_ | refine q20 ?_); conv => whnf)))
  refine NewA.mk' fun w1 b hb hs he hB => ?_
  ((conv => whnf); repeat' (first | ((with_reducible first | refine q1 ?_ | refine q2 ?_); conv => whnf) | (with_reducible refine q3 ?_) | ((with_reducible refine q4 (fun _ => ?_) (fun _ => ?_)) <;> first | (exfalso; omega) | (conv => whnf)) | ((with_reducible first | refine q5 ?_ | refine q6 ?_ | refine q7 ?_ | refine q8 ?_ | refine q9 ?_ | refine q10 ?_ | refine q11 ?_ | refine q12 ?_ | refine q13 ?_ | refine q14 ?_ | refine q15 ?_); conv => whnf) | ((refine q16 (fun _ _ _ _ _ => ?_)); conv => whnf) | ((with_reducible first | refine q17 ?_ | refine q18 ?_ | refine q19 ?_ | refine q20 ?_); conv => whnf)))
  refine CallA.mono (Tryz.containsSls _ _ xs 124 #[.pointer (some ⟨b, 0, none⟩)] _ _ _ (Tryz.all1Sls f cap p xs b I hp hI) (fun u u' h e => ⟨e.cell h.1, hI _ _ h.2 e⟩) ⟨hB.cell 0, hI _ _ h0 he⟩ (hx.ex he) hl) ?_; rintro v w2 ⟨rfl, he2⟩; ((conv => whnf); repeat' (first | ((with_reducible first | refine q1 ?_ | refine q2 ?_); conv => whnf) | (with_reducible refine q3 ?_) | ((with_reducible refine q4 (fun _ => ?_) (fun _ => ?_)) <;> first | (exfalso; omega) | (conv => whnf)) | ((with_reducible first | refine q5 ?_ | refine q6 ?_ | refine q7 ?_ | refine q8 ?_ | refine q9 ?_ | refine q10 ?_ | refine q11 ?_ | refine q12 ?_ | refine q13 ?_ | refine q14 ?_ | refine q15 ?_); conv => whnf) | ((refine q16 (fun _ _ _ _ _ => ?_)); conv => whnf) | ((with_reducible first | refine q17 ?_ | refine q18 ?_ | refine q19 ?_ | refine q20 ?_); conv => whnf)))
  exact ⟨by rw [List.all_eq_not_any_not], he.tr he2⟩

theorem Tryz.indexLines (bx : Option Addr) (cx : Nat) (xs : List Line) (f : FuncId) (cap : Array Value) (p : Line → Bool) (I : World → Prop) (w : World) (hp : PredA Tryz.prog f cap.toList (fun x => Value.agg (lineC x).toArray) xs p I) (hI : ExK I) (h0 : I w)
    (hx : Row w bx (rowC lineC xs)) (hl : xs.length < 140737488355328) :
    CallA Tryz.prog 89 [.slice bx xs.length cx, .func (.func f) #[] cap] w fun v w' => v = .int .i64 (idxI (xs.findIdx? p)) ∧ Ex w w' := by
  refine callA_intro Tryz.tbOk Tryz.func89 rfl Tryz.ntmps89 Tryz.results89 (by decide) (by simp) ?_
  ((conv => whnf); repeat' (first | ((with_reducible first | refine q1 ?_ | refine q2 ?_); conv => whnf) | (with_reducible refine q3 ?_) | ((with_reducible refine q4 (fun _ => ?_) (fun _ => ?_)) <;> first | (exfalso; omega) | (conv => whnf)) | ((with_reducible first | refine q5 ?_ | refine q6 ?_ | refine q7 ?_ | refine q8 ?_ | refine q9 ?_ | refine q10 ?_ | refine q11 ?_ | refine q12 ?_ | refine q13 ?_ | refine q14 ?_ | refine q15 ?_); conv => whnf) | ((refine q16 (fun _ _ _ _ _ => ?_)); conv => whnf) | ((with_reducible first | refine q17 ?_ | refine q18 ?_ | refine q19 ?_ | refine q20 ?_); conv => whnf)))
  refine loop_rule Tryz.tbOk Nat [8] (fun k => [.int .i64 (k:Int)]) (fun k w' => k ≤ xs.length ∧ (∀ x ∈ xs.take k, p x = false) ∧ Ex w w') (fun k => xs.length - k) 0 rfl ⟨by omega, by simp, Ex.refl w⟩ ?_
  rintro k w' ⟨hk, ht, he⟩ u
  have hx' := hx.ex he
  ((conv => whnf); repeat' (first | ((with_reducible first | refine q1 ?_ | refine q2 ?_); conv => whnf) | (with_reducible refine q3 ?_) | ((with_reducible refine q4 (fun _ => ?_) (fun _ => ?_)) <;> first | (exfalso; omega) | (conv => whnf)) | ((with_reducible first | refine q5 ?_ | refine q6 ?_ | refine q7 ?_ | refine q8 ?_ | refine q9 ?_ | refine q10 ?_ | refine q11 ?_ | refine q12 ?_ | refine q13 ?_ | refine q14 ?_ | refine q15 ?_); conv => whnf) | ((refine q16 (fun _ _ _ _ _ => ?_)); conv => whnf) | ((with_reducible first | refine q17 ?_ | refine q18 ?_ | refine q19 ?_ | refine q20 ?_); conv => whnf)))
  · rename_i hlt
    have hlt : k < xs.length := by omega
    refine IdxA.elem (sz := 4) hx' (fun _ => rfl) (by decide) rfl k rfl hlt (fun b o hb hc => ?_)
    (conv => whnf)
    refine LoadN.mk' (vs := lineC xs[k]) rfl hc ?_
    ((conv => whnf); repeat' (first | ((with_reducible first | refine q1 ?_ | refine q2 ?_); conv => whnf) | (with_reducible refine q3 ?_) | ((with_reducible refine q4 (fun _ => ?_) (fun _ => ?_)) <;> first | (exfalso; omega) | (conv => whnf)) | ((with_reducible first | refine q5 ?_ | refine q6 ?_ | refine q7 ?_ | refine q8 ?_ | refine q9 ?_ | refine q10 ?_ | refine q11 ?_ | refine q12 ?_ | refine q13 ?_ | refine q14 ?_ | refine q15 ?_); conv => whnf) | ((refine q16 (fun _ _ _ _ _ => ?_)); conv => whnf) | ((with_reducible first | refine q17 ?_ | refine q18 ?_ | refine q19 ?_ | refine q20 ?_); conv => whnf)))
    refine CallA.mono (hp _ (List.getElem_mem hlt) _ (hI _ _ h0 he)) ?_
    rintro v w1 ⟨rfl, he1⟩
    ((conv => whnf); repeat' (first | ((with_reducible first | refine q1 ?_ | refine q2 ?_); conv => whnf) | (with_reducible refine q3 ?_) | ((with_reducible refine q4 (fun _ => ?_) (fun _ => ?_)) <;> first | (exfalso; omega) | (conv => whnf)) | ((with_reducible first | refine q5 ?_ | refine q6 ?_ | refine q7 ?_ | refine q8 ?_ | refine q9 ?_ | refine q10 ?_ | refine q11 ?_ | refine q12 ?_ | refine q13 ?_ | refine q14 ?_ | refine q15 ?_); conv => whnf) | ((refine q16 (fun _ _ _ _ _ => ?_)); conv => whnf) | ((with_reducible first | refine q17 ?_ | refine q18 ?_ | refine q19 ?_ | refine q20 ?_); conv => whnf)))
    refine Br.var (fun h => ?_) (fun h => ?_)
    · ((conv => whnf); repeat' (first | ((with_reducible first | refine q1 ?_ | refine q2 ?_); conv => whnf) | (with_reducible refine q3 ?_) | ((with_reducible refine q4 (fun _ => ?_) (fun _ => ?_)) <;> first | (exfalso; omega) | (conv => whnf)) | ((with_reducible first | refine q5 ?_ | refine q6 ?_ | refine q7 ?_ | refine q8 ?_ | refine q9 ?_ | refine q10 ?_ | refine q11 ?_ | refine q12 ?_ | refine q13 ?_ | refine q14 ?_ | refine q15 ?_); conv => whnf) | ((refine q16 (fun _ _ _ _ _ => ?_)); conv => whnf) | ((with_reducible first | refine q17 ?_ | refine q18 ?_ | refine q19 ?_ | refine q20 ?_); conv => whnf)))
      exact ⟨by rw [findIdx?_at hlt ht h]; rfl, he.tr he1⟩
    · ((conv => whnf); repeat' (first | ((with_reducible first | refine q1 ?_ | refine q2 ?_); conv => whnf) | (with_reducible refine q3 ?_) | ((with_reducible refine q4 (fun _ => ?_) (fun _ => ?_)) <;> first | (exfalso; omega) | (conv => whnf)) | ((with_reducible first | refine q5 ?_ | refine q6 ?_ | refine q7 ?_ | refine q8 ?_ | refine q9 ?_ | refine q10 ?_ | refine q11 ?_ | refine q12 ?_ | refine q13 ?_ | refine q14 ?_ | refine q15 ?_); conv => whnf) | ((refine q16 (fun _ _ _ _ _ => ?_)); conv => whnf) | ((with_reducible first | refine q17 ?_ | refine q18 ?_ | refine q19 ?_ | refine q20 ?_); conv => whnf)))
      exact ⟨k + 1, rfl, ⟨by omega, findIdx?_take_succ hlt ht h, he.tr he1⟩, by omega⟩
  · exact ⟨by rw [findIdx?_no (by omega) ht]; rfl, he⟩

theorem Tryz.containsLines (bx : Option Addr) (cx : Nat) (xs : List Line) (f : FuncId) (cap : Array Value) (p : Line → Bool) (I : World → Prop) (w : World) (hp : PredA Tryz.prog f cap.toList (fun x => Value.agg (lineC x).toArray) xs p I) (hI : ExK I) (h0 : I w)
    (hx : Row w bx (rowC lineC xs)) (hl : xs.length < 140737488355328) :
    CallA Tryz.prog 50 [.slice bx xs.length cx, .func (.func f) #[] cap] w fun v w' => v = .bool (xs.any p) ∧ Ex w w' := by
  refine callA_intro Tryz.tbOk Tryz.func50 rfl Tryz.ntmps50 Tryz.results50 (by decide) (by simp) ?_
  ((conv => whnf); repeat' (first | ((with_reducible first | refine q1 ?_ | refine q2 ?_); conv => whnf) | (with_reducible refine q3 ?_) | ((with_reducible refine q4 (fun _ => ?_) (fun _ => ?_)) <;> first | (exfalso; omega) | (conv => whnf)) | ((with_reducible first | refine q5 ?_ | refine q6 ?_ | refine q7 ?_ | refine q8 ?_ | refine q9 ?_ | refine q10 ?_ | refine q11 ?_ | refine q12 ?_ | refine q13 ?_ | refine q14 ?_ | refine q15 ?_); conv => whnf) | ((refine q16 (fun _ _ _ _ _ => ?_)); conv => whnf) | ((with_reducible first | refine q17 ?_ | refine q18 ?_ | refine q19 ?_ | refine q20 ?_); conv => whnf)))
  refine CallA.mono (Tryz.indexLines _ _ xs f cap p I _ hp hI h0 hx hl) ?_; rintro v w1 ⟨rfl, he1⟩; ((conv => whnf); repeat' (first | ((with_reducible first | refine q1 ?_ | refine q2 ?_); conv => whnf) | (with_reducible refine q3 ?_) | ((with_reducible refine q4 (fun _ => ?_) (fun _ => ?_)) <;> first | (exfalso; omega) | (conv => whnf)) | ((with_reducible first | refine q5 ?_ | refine q6 ?_ | refine q7 ?_ | refine q8 ?_ | refine q9 ?_ | refine q10 ?_ | refine q11 ?_ | refine q12 ?_ | refine q13 ?_ | refine q14 ?_ | refine q15 ?_); conv => whnf) | ((refine q16 (fun _ _ _ _ _ => ?_)); conv => whnf) | ((with_reducible first | refine q17 ?_ | refine q18 ?_ | refine q19 ?_ | refine q20 ?_); conv => whnf)))
  exact ⟨by rw [← any_of_idx], he1⟩

theorem Tryz.indexLfs (bx : Option Addr) (cx : Nat) (xs : List Lf) (f : FuncId) (cap : Array Value) (p : Lf → Bool) (I : World → Prop) (w : World) (hp : PredA Tryz.prog f cap.toList (fun x => Value.agg (lfC x).toArray) xs p I) (hI : ExK I) (h0 : I w)
    (hx : Row w bx (rowC lfC xs)) (hl : xs.length < 140737488355328) :
    CallA Tryz.prog 103 [.slice bx xs.length cx, .func (.func f) #[] cap] w fun v w' => v = .int .i64 (idxI (xs.findIdx? p)) ∧ Ex w w' := by
  refine callA_intro Tryz.tbOk Tryz.func103 rfl Tryz.ntmps103 Tryz.results103 (by decide) (by simp) ?_
  ((conv => whnf); repeat' (first | ((with_reducible first | refine q1 ?_ | refine q2 ?_); conv => whnf) | (with_reducible refine q3 ?_) | ((with_reducible refine q4 (fun _ => ?_) (fun _ => ?_)) <;> first | (exfalso; omega) | (conv => whnf)) | ((with_reducible first | refine q5 ?_ | refine q6 ?_ | refine q7 ?_ | refine q8 ?_ | refine q9 ?_ | refine q10 ?_ | refine q11 ?_ | refine q12 ?_ | refine q13 ?_ | refine q14 ?_ | refine q15 ?_); conv => whnf) | ((refine q16 (fun _ _ _ _ _ => ?_)); conv => whnf) | ((with_reducible first | refine q17 ?_ | refine q18 ?_ | refine q19 ?_ | refine q20 ?_); conv => whnf)))
  refine loop_rule Tryz.tbOk Nat [8] (fun k => [.int .i64 (k:Int)]) (fun k w' => k ≤ xs.length ∧ (∀ x ∈ xs.take k, p x = false) ∧ Ex w w') (fun k => xs.length - k) 0 rfl ⟨by omega, by simp, Ex.refl w⟩ ?_
  rintro k w' ⟨hk, ht, he⟩ u
  have hx' := hx.ex he
  ((conv => whnf); repeat' (first | ((with_reducible first | refine q1 ?_ | refine q2 ?_); conv => whnf) | (with_reducible refine q3 ?_) | ((with_reducible refine q4 (fun _ => ?_) (fun _ => ?_)) <;> first | (exfalso; omega) | (conv => whnf)) | ((with_reducible first | refine q5 ?_ | refine q6 ?_ | refine q7 ?_ | refine q8 ?_ | refine q9 ?_ | refine q10 ?_ | refine q11 ?_ | refine q12 ?_ | refine q13 ?_ | refine q14 ?_ | refine q15 ?_); conv => whnf) | ((refine q16 (fun _ _ _ _ _ => ?_)); conv => whnf) | ((with_reducible first | refine q17 ?_ | refine q18 ?_ | refine q19 ?_ | refine q20 ?_); conv => whnf)))
  · rename_i hlt
    have hlt : k < xs.length := by omega
    refine IdxA.elem (sz := 2) hx' (fun _ => rfl) (by decide) rfl k rfl hlt (fun b o hb hc => ?_)
    (conv => whnf)
    refine LoadN.mk' (vs := lfC xs[k]) rfl hc ?_
    ((conv => whnf); repeat' (first | ((with_reducible first | refine q1 ?_ | refine q2 ?_); conv => whnf) | (with_reducible refine q3 ?_) | ((with_reducible refine q4 (fun _ => ?_) (fun _ => ?_)) <;> first | (exfalso; omega) | (conv => whnf)) | ((with_reducible first | refine q5 ?_ | refine q6 ?_ | refine q7 ?_ | refine q8 ?_ | refine q9 ?_ | refine q10 ?_ | refine q11 ?_ | refine q12 ?_ | refine q13 ?_ | refine q14 ?_ | refine q15 ?_); conv => whnf) | ((refine q16 (fun _ _ _ _ _ => ?_)); conv => whnf) | ((with_reducible first | refine q17 ?_ | refine q18 ?_ | refine q19 ?_ | refine q20 ?_); conv => whnf)))
    refine CallA.mono (hp _ (List.getElem_mem hlt) _ (hI _ _ h0 he)) ?_
    rintro v w1 ⟨rfl, he1⟩
    ((conv => whnf); repeat' (first | ((with_reducible first | refine q1 ?_ | refine q2 ?_); conv => whnf) | (with_reducible refine q3 ?_) | ((with_reducible refine q4 (fun _ => ?_) (fun _ => ?_)) <;> first | (exfalso; omega) | (conv => whnf)) | ((with_reducible first | refine q5 ?_ | refine q6 ?_ | refine q7 ?_ | refine q8 ?_ | refine q9 ?_ | refine q10 ?_ | refine q11 ?_ | refine q12 ?_ | refine q13 ?_ | refine q14 ?_ | refine q15 ?_); conv => whnf) | ((refine q16 (fun _ _ _ _ _ => ?_)); conv => whnf) | ((with_reducible first | refine q17 ?_ | refine q18 ?_ | refine q19 ?_ | refine q20 ?_); conv => whnf)))
    refine Br.var (fun h => ?_) (fun h => ?_)
    · ((conv => whnf); repeat' (first | ((with_reducible first | refine q1 ?_ | refine q2 ?_); conv => whnf) | (with_reducible refine q3 ?_) | ((with_reducible refine q4 (fun _ => ?_) (fun _ => ?_)) <;> first | (exfalso; omega) | (conv => whnf)) | ((with_reducible first | refine q5 ?_ | refine q6 ?_ | refine q7 ?_ | refine q8 ?_ | refine q9 ?_ | refine q10 ?_ | refine q11 ?_ | refine q12 ?_ | refine q13 ?_ | refine q14 ?_ | refine q15 ?_); conv => whnf) | ((refine q16 (fun _ _ _ _ _ => ?_)); conv => whnf) | ((with_reducible first | refine q17 ?_ | refine q18 ?_ | refine q19 ?_ | refine q20 ?_); conv => whnf)))
      exact ⟨by rw [findIdx?_at hlt ht h]; rfl, he.tr he1⟩
    · ((conv => whnf); repeat' (first | ((with_reducible first | refine q1 ?_ | refine q2 ?_); conv => whnf) | (with_reducible refine q3 ?_) | ((with_reducible refine q4 (fun _ => ?_) (fun _ => ?_)) <;> first | (exfalso; omega) | (conv => whnf)) | ((with_reducible first | refine q5 ?_ | refine q6 ?_ | refine q7 ?_ | refine q8 ?_ | refine q9 ?_ | refine q10 ?_ | refine q11 ?_ | refine q12 ?_ | refine q13 ?_ | refine q14 ?_ | refine q15 ?_); conv => whnf) | ((refine q16 (fun _ _ _ _ _ => ?_)); conv => whnf) | ((with_reducible first | refine q17 ?_ | refine q18 ?_ | refine q19 ?_ | refine q20 ?_); conv => whnf)))
      exact ⟨k + 1, rfl, ⟨by omega, findIdx?_take_succ hlt ht h, he.tr he1⟩, by omega⟩
  · exact ⟨by rw [findIdx?_no (by omega) ht]; rfl, he⟩

theorem Tryz.containsLfs (bx : Option Addr) (cx : Nat) (xs : List Lf) (f : FuncId) (cap : Array Value) (p : Lf → Bool) (I : World → Prop) (w : World) (hp : PredA Tryz.prog f cap.toList (fun x => Value.agg (lfC x).toArray) xs p I) (hI : ExK I) (h0 : I w)
    (hx : Row w bx (rowC lfC xs)) (hl : xs.length < 140737488355328) :
    CallA Tryz.prog 110 [.slice bx xs.length cx, .func (.func f) #[] cap] w fun v w' => v = .bool (xs.any p) ∧ Ex w w' := by
  refine callA_intro Tryz.tbOk Tryz.func110 rfl Tryz.ntmps110 Tryz.results110 (by decide) (by simp) ?_
  ((conv => whnf); repeat' (first | ((with_reducible first | refine q1 ?_ | refine q2 ?_); conv => whnf) | (with_reducible refine q3 ?_) | ((with_reducible refine q4 (fun _ => ?_) (fun _ => ?_)) <;> first | (exfalso; omega) | (conv => whnf)) | ((with_reducible first | refine q5 ?_ | refine q6 ?_ | refine q7 ?_ | refine q8 ?_ | refine q9 ?_ | refine q10 ?_ | refine q11 ?_ | refine q12 ?_ | refine q13 ?_ | refine q14 ?_ | refine q15 ?_); conv => whnf) | ((refine q16 (fun _ _ _ _ _ => ?_)); conv => whnf) | ((with_reducible first | refine q17 ?_ | refine q18 ?_ | refine q19 ?_ | refine q20 ?_); conv => whnf)))
  refine CallA.mono (Tryz.indexLfs _ _ xs f cap p I _ hp hI h0 hx hl) ?_; rintro v w1 ⟨rfl, he1⟩; ((conv => whnf); repeat' (first | ((with_reducible first | refine q1 ?_ | refine q2 ?_); conv => whnf) | (with_reducible refine q3 ?_) | ((with_reducible refine q4 (fun _ => ?_) (fun _ => ?_)) <;> first | (exfalso; omega) | (conv => whnf)) | ((with_reducible first | refine q5 ?_ | refine q6 ?_ | refine q7 ?_ | refine q8 ?_ | refine q9 ?_ | refine q10 ?_ | refine q11 ?_ | refine q12 ?_ | refine q13 ?_ | refine q14 ?_ | refine q15 ?_); conv => whnf) | ((refine q16 (fun _ _ _ _ _ => ?_)); conv => whnf) | ((with_reducible first | refine q17 ?_ | refine q18 ?_ | refine q19 ?_ | refine q20 ?_); conv => whnf)))
  exact ⟨by rw [← any_of_idx], he1⟩
end Go.Proofs
