/-
  L40: a part of the proof. By an AI agent.
-/
import Derived.Test.YtpeihahmhpamoaaGreatVQ
import Derived.Test.YtpeihahmhpamoaaGreatV10
import Derived.Test.YtpeihahmhpamoaaGreatV11
import Derived.Test.YtpeihahmhpamoaaGreatL31
set_option linter.all false
namespace Go.Proofs
open Go.V
open Go.RowKit (Below)
/-! ### a shelf in memory -/
/-- a copy: where its leaves are -/
structure Cp where
  base : Option Addr
  cap : Nat
  ls : List Lf
def Cp.val (c : Cp) : Value := .slice c.base c.ls.length c.cap
def cpC (c : Cp) : List Value := [c.val]
def Cp.m (c : Cp) : List LM := c.ls.map Lf.m
def bOf (b : Option Addr) : List Nat := match b with
  | some a => [a.block]
  | none => []
/-- the blocks of a copy -/
def Cp.fp (c : Cp) : List Nat := bOf c.base ++ c.ls.flatMap fun l => bOf l.words.base
theorem bOf_mem {b : Option Addr} {x : Nat} : x ∈ bOf b ↔ blkOf b = some x := by
  cases b with
  | none => simp [bOf, blkOf]
  | some a => simp [bOf, blkOf, eq_comm]
theorem bOf_ne {b : Option Addr} {row : Option Nat} (h : ∀ x ∈ bOf b, some x ≠ row) : b = none ∨ blkOf b ≠ row := by
  cases b with
  | none => exact .inl rfl
  | some a => exact .inr (h a.block (by simp [bOf]))
theorem LvO.keep {w w' : World} {N : Nat} {c : Cp} (h : LvO w N c.base c.cap c.ls) {row : Option Nat} (g : w.grownBy w' row) (hx : ∀ x ∈ c.fp, some x ≠ row) : LvO w' N c.base c.cap c.ls :=
  h.grown g (bOf_ne fun x hb => hx x (List.mem_append_left _ hb)) fun i hi => bOf_ne fun x hb => hx x (List.mem_append_right _ (List.mem_flatMap.2 ⟨_, List.getElem_mem hi, hb⟩))
theorem LvO.fp_lt {w : World} {N : Nat} {c : Cp} (h : LvO w N c.base c.cap c.ls) : ∀ x ∈ c.fp, N ≤ x ∧ x < w.heap.size := by
  intro x hx
  rcases List.mem_append.1 hx with hx | hx
  · exact h.row.blk_ge x (bOf_mem.1 hx)
  · obtain ⟨l, hl, hb⟩ := List.mem_flatMap.1 hx
    obtain ⟨i, hi, rfl⟩ := List.mem_iff_getElem.1 hl
    exact (h.each i hi).blk_ge x (bOf_mem.1 hb)
structure ShO (w : World) (N g r : Nat) (s : Shape) (cs : List Cp) : Prop where
  hd : Blk w g (shC s ++ [.slice (some ⟨r, 0, none⟩) cs.length cs.length]) 100
  row : Own w N 52 1 (some ⟨r, 0, none⟩) cs.length cs.length (rowC cpC cs)
  each : ∀ i (h : i < cs.length), LvO w N cs[i].base cs[i].cap cs[i].ls
  apart : ∀ i j (hi : i < cs.length) (hj : j < cs.length), i ≠ j → ∀ x ∈ cs[i].fp, x ∉ cs[j].fp
  gr : g ≠ r
  gN : N ≤ g
  off : ∀ i (hi : i < cs.length), g ∉ cs[i].fp ∧ r ∉ cs[i].fp
theorem ShO.grown {w w' : World} {N g r : Nat} {s : Shape} {cs : List Cp} (h : ShO w N g r s cs) {row : Option Nat} (e : w.grownBy w' row) (hg : some g ≠ row) (hr : some r ≠ row) (hx : ∀ i (hi : i < cs.length), ∀ x ∈ cs[i].fp, some x ≠ row) : ShO w' N g r s cs :=
  ⟨h.hd.grown e hg, h.row.grown e (.inr hr), fun i hi => (h.each i hi).keep e (hx i hi), h.apart, h.gr, h.gN, h.off⟩
theorem ShO.ex {w w' : World} {N g r : Nat} {s : Shape} {cs : List Cp} (h : ShO w N g r s cs) (e : Ex w w') : ShO w' N g r s cs :=
  h.grown (grown_ex e) (by simp) (by simp) (by simp)
theorem cpRow_get (cs : List Cp) {k : Nat} (hk : k < cs.length) : (rowC cpC cs)[k]? = some cs[k].val := by
  have := rowC_get (c := cpC) (sz := 1) (fun _ => rfl) cs k 0 hk (by decide)
  rw [Nat.mul_one, Nat.add_zero] at this; rw [this]; rfl
theorem cpRow_set (cs : List Cp) (k : Nat) (c : Cp) : (rowC cpC cs).set k c.val = rowC cpC (cs.set k c) := by
  have h : ∀ l : List Cp, rowC cpC l = l.map Cp.val := by
    intro l; induction l with
    | nil => rfl
    | cons a t ih => simp only [rowC, List.flatMap_cons, List.map_cons] at *; rw [ih]; rfl
  rw [h, h, List.map_set]
theorem ShO.cell {w : World} {N g r : Nat} {s : Shape} {cs : List Cp} (h : ShO w N g r s cs) {k : Nat} (hk : k < cs.length) : w.cell? ⟨r, k, none⟩ = some cs[k].val := Own.cell1 h.row (cpRow_get cs hk)
/-- a copy is changed for another one -/
theorem ShO.put {w w1 w2 : World} {N g r : Nat} {s : Shape} {cs : List Cp} (h : ShO w N g r s cs) {k : Nat} (hk : k < cs.length) (c : Cp) {row : Option Nat} (e : w.grownBy w1 row) (hrow : ∀ x, row = some x → x ∈ cs[k].fp) (hc : LvO w1 N c.base c.cap c.ls)
    (hnew : ∀ x ∈ c.fp, x ∈ cs[k].fp ∨ w.heap.size ≤ x) (u : Upd w1 w2 r) (ho : Own w2 N 52 1 (some ⟨r, 0, none⟩) cs.length cs.length (rowC cpC (cs.set k c))) : ShO w2 N g r s (cs.set k c) := by
  have hgN : g < w.heap.size := h.hd.lt
  have hrN : r < w.heap.size := (h.row.at_ rfl).2
  have hoff : g ∉ c.fp ∧ r ∉ c.fp := by
    constructor
    · intro hx
      rcases hnew g hx with h1 | h1
      · exact (h.off k hk).1 h1
      · omega
    · intro hx
      rcases hnew r hx with h1 | h1
      · exact (h.off k hk).2 h1
      · omega
  have hap : ∀ i (hi : i < cs.length), i ≠ k → ∀ x ∈ cs[i].fp, x ∉ c.fp := by
    intro i hi hik x hx hxc
    rcases hnew x hxc with h1 | h1
    · exact h.apart i k hi hk hik x hx h1
    · have := ((h.each i hi).fp_lt x hx).2; omega
  refine ⟨?_, by rw [List.length_set]; exact ho, ?_, ?_, h.gr, h.gN, ?_⟩
  · rw [List.length_set]
    exact u.blk (h.hd.grown e fun e1 => (h.off k hk).1 (hrow g e1.symm)) h.gr
  · intro i hi
    have hi' : i < cs.length := by simpa using hi
    rw [List.getElem_set]
    split
    · exact hc.keep (grown_upd u) fun x hx => by intro e; cases e; exact hoff.2 hx
    · rename_i hne
      refine ((h.each i hi').keep e fun x hx e1 => ?_).keep (grown_upd u) fun x hx => by intro e; cases e; exact (h.off i hi').2 hx
      exact h.apart i k hi' hk (Ne.symm hne) x hx (hrow x e1.symm)
  · intro i j hi hj hij
    have hi' : i < cs.length := by simpa using hi
    have hj' : j < cs.length := by simpa using hj
    rw [List.getElem_set, List.getElem_set]
    split
    · rename_i e1
      split
      · omega
      · rename_i e2
        intro x hx hxj
        exact hap j hj' (Ne.symm e2) x hxj hx
    · rename_i e1
      split
      · exact hap i hi' (Ne.symm e1)
      · exact h.apart i j hi' hj' hij
  · intro i hi
    have hi' : i < cs.length := by simpa using hi
    rw [List.getElem_set]
    split
    · exact hoff
    · exact h.off i hi'
/-- a shelf of a shape, with copies -/
def ShA (w : World) (N g : Nat) (s : Shape) (ms : List (List LM)) : Prop := ∃ r cs, ShO w N g r s cs ∧ cs.map Cp.m = ms
theorem ShA.ex {w w' : World} {N g : Nat} {s : Shape} {ms : List (List LM)} (h : ShA w N g s ms) (e : Ex w w') : ShA w' N g s ms := by
  obtain ⟨r, cs, h1, h2⟩ := h; exact ⟨r, cs, h1.ex e, h2⟩
theorem ShO.lvs {w : World} {N g r : Nat} {s : Shape} {cs : List Cp} (h : ShO w N g r s cs) {k : Nat} (hk : k < cs.length) (hl : cs[k].ls.length < 140737488355328) (hx : ∀ x ∈ cs[k].ls, x.words.xs.length < 140737488355328) : Lvs w cs[k].base cs[k].ls := (h.each k hk).lvs hl hx
end Go.Proofs
namespace Go.Proofs
open Go.V
open Go.RowKit (Below)
/-! ### New, find, Store -/
def NewM (s : Shape) (n : Int) : Int := if shOk s then (if 1 ≤ n ∧ n ≤ 5 then 0 else 1) else 1
theorem Tryz.New (s : Shape) (n : Int) (w : World) : CallA Tryz.prog 16 [shV s, .int .i64 n] w fun v w' => Ex w w' ∧ if NewM s n = 0 then (∃ g, v = .tuple #[.pointer (some ⟨g, 0, none⟩), .int .i64 0] ∧ ShA w' w.heap.size g s (List.replicate n.toNat [])) else v = .tuple #[.pointer none, .int .i64 (NewM s n)] := by
  unfold shV
  refine callA_intro Tryz.tbOk Tryz.func16 rfl Tryz.ntmps16 Tryz.results16 (by decide) (by simp) ?_
  ((conv => whnf); repeat' (first | ((with_reducible first | refine q1 ?_ | refine q2 ?_); conv => whnf) | (with_reducible refine q3 ?_) | ((with_reducible refine q4 (fun _ => ?_) (fun _ => ?_)) <;> first | (exfalso; omega) | (conv => whnf)) | ((with_reducible first | refine q5 ?_ | refine q6 ?_ | refine q7 ?_ | refine q8 ?_ | refine q9 ?_ | refine q10 ?_ | refine q11 ?_ | refine q12 ?_ | refine q13 ?_ | refine q14 ?_ | refine q15 ?_); conv => whnf) | ((refine q16 (fun _ _ _ _ _ => ?_)); conv => whnf) | ((with_reducible first | refine q17 ?_ | refine q18 ?_ | refine q19 ?_ | refine q20 ?_); conv => whnf)))
  refine NewA.mk' fun w1 b2 hb2 hs2 he1 hB2 => ?_; ((conv => whnf); repeat' (first | ((with_reducible first | refine q1 ?_ | refine q2 ?_); conv => whnf) | (with_reducible refine q3 ?_) | ((with_reducible refine q4 (fun _ => ?_) (fun _ => ?_)) <;> first | (exfalso; omega) | (conv => whnf)) | ((with_reducible first | refine q5 ?_ | refine q6 ?_ | refine q7 ?_ | refine q8 ?_ | refine q9 ?_ | refine q10 ?_ | refine q11 ?_ | refine q12 ?_ | refine q13 ?_ | refine q14 ?_ | refine q15 ?_); conv => whnf) | ((refine q16 (fun _ _ _ _ _ => ?_)); conv => whnf) | ((with_reducible first | refine q17 ?_ | refine q18 ?_ | refine q19 ?_ | refine q20 ?_); conv => whnf)))
  refine CallA.mono (Tryz.Check s _) ?_
  rintro v w2 ⟨rfl, he2⟩
  have he12 := he1.tr he2
  have hB22 : Blk w2 b2 (shC s) 23 := hB2.ex he2
  by_cases hsh : shOk s = true
  rotate_left
  · rw [if_neg hsh]
    have hM : NewM s n = 1 := by unfold NewM; rw [if_neg hsh]
    rw [hM]
    ((conv => whnf); repeat' (first | ((with_reducible first | refine q1 ?_ | refine q2 ?_); conv => whnf) | (with_reducible refine q3 ?_) | ((with_reducible refine q4 (fun _ => ?_) (fun _ => ?_)) <;> first | (exfalso; omega) | (conv => whnf)) | ((with_reducible first | refine q5 ?_ | refine q6 ?_ | refine q7 ?_ | refine q8 ?_ | refine q9 ?_ | refine q10 ?_ | refine q11 ?_ | refine q12 ?_ | refine q13 ?_ | refine q14 ?_ | refine q15 ?_); conv => whnf) | ((refine q16 (fun _ _ _ _ _ => ?_)); conv => whnf) | ((with_reducible first | refine q17 ?_ | refine q18 ?_ | refine q19 ?_ | refine q20 ?_); conv => whnf)))
    exact ⟨he12, by rw [if_neg (by decide)]⟩
  rw [if_pos hsh]
  ((conv => whnf); repeat' (first | ((with_reducible first | refine q1 ?_ | refine q2 ?_); conv => whnf) | (with_reducible refine q3 ?_) | ((with_reducible refine q4 (fun _ => ?_) (fun _ => ?_)) <;> first | (exfalso; omega) | (conv => whnf)) | ((with_reducible first | refine q5 ?_ | refine q6 ?_ | refine q7 ?_ | refine q8 ?_ | refine q9 ?_ | refine q10 ?_ | refine q11 ?_ | refine q12 ?_ | refine q13 ?_ | refine q14 ?_ | refine q15 ?_); conv => whnf) | ((refine q16 (fun _ _ _ _ _ => ?_)); conv => whnf) | ((with_reducible first | refine q17 ?_ | refine q18 ?_ | refine q19 ?_ | refine q20 ?_); conv => whnf)))
  refine CallA.mono (Tryz.within n 1 5 _) ?_
  rintro v w3 ⟨rfl, rfl⟩
  ((conv => whnf); repeat' (first | ((with_reducible first | refine q1 ?_ | refine q2 ?_); conv => whnf) | (with_reducible refine q3 ?_) | ((with_reducible refine q4 (fun _ => ?_) (fun _ => ?_)) <;> first | (exfalso; omega) | (conv => whnf)) | ((with_reducible first | refine q5 ?_ | refine q6 ?_ | refine q7 ?_ | refine q8 ?_ | refine q9 ?_ | refine q10 ?_ | refine q11 ?_ | refine q12 ?_ | refine q13 ?_ | refine q14 ?_ | refine q15 ?_); conv => whnf) | ((refine q16 (fun _ _ _ _ _ => ?_)); conv => whnf) | ((with_reducible first | refine q17 ?_ | refine q18 ?_ | refine q19 ?_ | refine q20 ?_); conv => whnf)))
  · rename_i hn
    have hM : NewM s n = 0 := by unfold NewM; rw [if_pos hsh, if_pos hn]
    rw [hM]
    obtain ⟨k, rfl⟩ : ∃ k : Nat, n = (k : Int) := ⟨n.toNat, by omega⟩
    refine draw_rule Tryz.tbOk Tryz.mix (fun u => Blk u b2 (shC s) 23) (.take 0 (.take 1 (.one 2 (.take 3 (.one 4 (.take 5 (.take 6 (.done)))))))) (by kernel_rfl) (by kernel_rfl) ?_
    intro w4 hd4
    have hB24 := hB22.ex hd4.ex
    refine ⟨hB24, ?_⟩
    ((conv => whnf); repeat' (first | ((with_reducible first | refine q1 ?_ | refine q2 ?_); conv => whnf) | (with_reducible refine q3 ?_) | ((with_reducible refine q4 (fun _ => ?_) (fun _ => ?_)) <;> first | (exfalso; omega) | (conv => whnf)) | ((with_reducible first | refine q5 ?_ | refine q6 ?_ | refine q7 ?_ | refine q8 ?_ | refine q9 ?_ | refine q10 ?_ | refine q11 ?_ | refine q12 ?_ | refine q13 ?_ | refine q14 ?_ | refine q15 ?_); conv => whnf) | ((refine q16 (fun _ _ _ _ _ => ?_)); conv => whnf) | ((with_reducible first | refine q17 ?_ | refine q18 ?_ | refine q19 ?_ | refine q20 ?_); conv => whnf)))
    refine HoldN.any (vs := shC s) rfl (fun u hu j x hj => by rw [Nat.zero_add]; exact hu.cell' hj) ?_
    ((conv => whnf); repeat' (first | ((with_reducible first | refine q1 ?_ | refine q2 ?_); conv => whnf) | (with_reducible refine q3 ?_) | ((with_reducible refine q4 (fun _ => ?_) (fun _ => ?_)) <;> first | (exfalso; omega) | (conv => whnf)) | ((with_reducible first | refine q5 ?_ | refine q6 ?_ | refine q7 ?_ | refine q8 ?_ | refine q9 ?_ | refine q10 ?_ | refine q11 ?_ | refine q12 ?_ | refine q13 ?_ | refine q14 ?_ | refine q15 ?_); conv => whnf) | ((refine q16 (fun _ _ _ _ _ => ?_)); conv => whnf) | ((with_reducible first | refine q17 ?_ | refine q18 ?_ | refine q19 ?_ | refine q20 ?_); conv => whnf)))
    refine RunV.make (e := 52) (sz := 1) (by_ := 24) (z := .slice none 0 0) Tryz.tbOk w.heap.size k k rfl rfl rfl (by omega) (by omega) (by omega) rfl (by decide) (by have := (he12.tr hd4.ex).size; omega) fun w5 r hr hsr he5 hor => ?_
    rw [show reps k (cellsOf (Value.slice none 0 0)) = rowC cpC (List.replicate k (⟨none, 0, []⟩ : Cp)) from rowC_rep k _ rfl] at hor
    refine Anew.mk (hB24.ex he5) ?_
    ((conv => whnf); repeat' (first | ((with_reducible first | refine q1 ?_ | refine q2 ?_); conv => whnf) | (with_reducible refine q3 ?_) | ((with_reducible refine q4 (fun _ => ?_) (fun _ => ?_)) <;> first | (exfalso; omega) | (conv => whnf)) | ((with_reducible first | refine q5 ?_ | refine q6 ?_ | refine q7 ?_ | refine q8 ?_ | refine q9 ?_ | refine q10 ?_ | refine q11 ?_ | refine q12 ?_ | refine q13 ?_ | refine q14 ?_ | refine q15 ?_); conv => whnf) | ((refine q16 (fun _ _ _ _ _ => ?_)); conv => whnf) | ((with_reducible first | refine q17 ?_ | refine q18 ?_ | refine q19 ?_ | refine q20 ?_); conv => whnf)))
    refine NewA.mk' (cs := shC s ++ [.slice (some ⟨r, 0, none⟩) k k]) fun w6 g hg hsg he6 hBg => ?_
    refine Anew.mk ((hB24.ex he5).ex he6) ?_
    ((conv => whnf); repeat' (first | ((with_reducible first | refine q1 ?_ | refine q2 ?_); conv => whnf) | (with_reducible refine q3 ?_) | ((with_reducible refine q4 (fun _ => ?_) (fun _ => ?_)) <;> first | (exfalso; omega) | (conv => whnf)) | ((with_reducible first | refine q5 ?_ | refine q6 ?_ | refine q7 ?_ | refine q8 ?_ | refine q9 ?_ | refine q10 ?_ | refine q11 ?_ | refine q12 ?_ | refine q13 ?_ | refine q14 ?_ | refine q15 ?_); conv => whnf) | ((refine q16 (fun _ _ _ _ _ => ?_)); conv => whnf) | ((with_reducible first | refine q17 ?_ | refine q18 ?_ | refine q19 ?_ | refine q20 ?_); conv => whnf)))
    refine ⟨((he12.tr hd4.ex).tr he5).tr he6, ?_⟩
    rw [if_pos rfl]
    refine ⟨g, rfl, r, List.replicate k ⟨none, 0, []⟩, ⟨?_, ?_, ?_, ?_, ?_, ?_, ?_⟩, by simp [Cp.m]⟩
    · rw [List.length_replicate]; exact hBg
    · rw [List.length_replicate]; exact hor.ex he6
    · intro i hi; rw [List.getElem_replicate]; exact LvO.none_ _ _
    · intro i j hi hj _ x hx; rw [List.getElem_replicate] at hx; simp [Cp.fp, bOf] at hx
    · omega
    · have := ((he12.tr hd4.ex).tr he5).size; omega
    · intro i hi; rw [List.getElem_replicate]; simp [Cp.fp, bOf]
  · rename_i hn
    have hM : NewM s n = 1 := by unfold NewM; rw [if_pos hsh, if_neg hn]
    rw [hM]
    exact ⟨he12, by rw [if_neg (by decide)]⟩
/-- where a leaf of a number is -/
def findM (ms : List (List LM)) (copy number : Int) : Int × Int :=
  if 0 ≤ copy ∧ copy ≤ (ms.length : Int) - 1 then
    match (ms.getD copy.toNat []).findIdx? fun x => decide (x.1 = number) with
    | some i => ((i : Int), 0)
    | none => (0, 5)
  else (0, 1)
theorem Tryz.find1 (number : Int) (b : Nat) (ls : List Lf) : PredA Tryz.prog 104 [.pointer (some ⟨b, 0, none⟩)] (fun x => Value.agg (lfC x).toArray) ls (fun q => decide (q.number = number)) fun w => Blk w b [.int .i64 number] 3 := by
  intro q hm w hB
  show CallA Tryz.prog 104 [Value.agg (lfC q).toArray, .pointer (some ⟨b, 0, none⟩)] w _
  refine callA_intro Tryz.tbOk Tryz.func104 rfl Tryz.ntmps104 Tryz.results104 (by decide) (by simp) ?_
  ((conv => whnf); repeat' (first | ((with_reducible first | refine q1 ?_ | refine q2 ?_); conv => whnf) | (with_reducible refine q3 ?_) | ((with_reducible refine q4 (fun _ => ?_) (fun _ => ?_)) <;> first | (exfalso; omega) | (conv => whnf)) | ((with_reducible first | refine q5 ?_ | refine q6 ?_ | refine q7 ?_ | refine q8 ?_ | refine q9 ?_ | refine q10 ?_ | refine q11 ?_ | refine q12 ?_ | refine q13 ?_ | refine q14 ?_ | refine q15 ?_); conv => whnf) | ((refine q16 (fun _ _ _ _ _ => ?_)); conv => whnf) | ((with_reducible first | refine q17 ?_ | refine q18 ?_ | refine q19 ?_ | refine q20 ?_); conv => whnf)))
  refine NewA.mk' fun w1 b2 hb hs he hB2 => ?_; ((conv => whnf); repeat' (first | ((with_reducible first | refine q1 ?_ | refine q2 ?_); conv => whnf) | (with_reducible refine q3 ?_) | ((with_reducible refine q4 (fun _ => ?_) (fun _ => ?_)) <;> first | (exfalso; omega) | (conv => whnf)) | ((with_reducible first | refine q5 ?_ | refine q6 ?_ | refine q7 ?_ | refine q8 ?_ | refine q9 ?_ | refine q10 ?_ | refine q11 ?_ | refine q12 ?_ | refine q13 ?_ | refine q14 ?_ | refine q15 ?_); conv => whnf) | ((refine q16 (fun _ _ _ _ _ => ?_)); conv => whnf) | ((with_reducible first | refine q17 ?_ | refine q18 ?_ | refine q19 ?_ | refine q20 ?_); conv => whnf)))
  have hB' := hB.ex he
  ((conv => whnf); repeat' (first | ((with_reducible first | refine q1 ?_ | refine q2 ?_); conv => whnf) | (with_reducible refine q3 ?_) | ((with_reducible refine q4 (fun _ => ?_) (fun _ => ?_)) <;> first | (exfalso; omega) | (conv => whnf)) | ((with_reducible first | refine q5 ?_ | refine q6 ?_ | refine q7 ?_ | refine q8 ?_ | refine q9 ?_ | refine q10 ?_ | refine q11 ?_ | refine q12 ?_ | refine q13 ?_ | refine q14 ?_ | refine q15 ?_); conv => whnf) | ((refine q16 (fun _ _ _ _ _ => ?_)); conv => whnf) | ((with_reducible first | refine q17 ?_ | refine q18 ?_ | refine q19 ?_ | refine q20 ?_); conv => whnf)))
  exact ⟨rfl, he⟩
/-- copies that are not too large -/
def SmallC (cs : List Cp) : Prop := cs.length ≤ 100 ∧ ∀ c ∈ cs, c.ls.length ≤ 1000 ∧ ∀ x ∈ c.ls, x.words.xs.length ≤ 1000
theorem Tryz.find (N g r : Nat) (s : Shape) (cs : List Cp) (copy number : Int) (w : World) (h : ShO w N g r s cs) (hS : SmallC cs) :
    CallA Tryz.prog 60 [.pointer (some ⟨g, 0, none⟩), .int .i64 copy, .int .i64 number] w fun v w' => v = .tuple #[.int .i64 (findM (cs.map Cp.m) copy number).1, .int .i64 (findM (cs.map Cp.m) copy number).2] ∧ Ex w w' := by
  refine callA_intro Tryz.tbOk Tryz.func60 rfl Tryz.ntmps60 Tryz.results60 (by decide) (by simp) ?_
  ((conv => whnf); repeat' (first | ((with_reducible first | refine q1 ?_ | refine q2 ?_); conv => whnf) | (with_reducible refine q3 ?_) | ((with_reducible refine q4 (fun _ => ?_) (fun _ => ?_)) <;> first | (exfalso; omega) | (conv => whnf)) | ((with_reducible first | refine q5 ?_ | refine q6 ?_ | refine q7 ?_ | refine q8 ?_ | refine q9 ?_ | refine q10 ?_ | refine q11 ?_ | refine q12 ?_ | refine q13 ?_ | refine q14 ?_ | refine q15 ?_); conv => whnf) | ((refine q16 (fun _ _ _ _ _ => ?_)); conv => whnf) | ((with_reducible first | refine q17 ?_ | refine q18 ?_ | refine q19 ?_ | refine q20 ?_); conv => whnf)))
  refine NewA.mk' fun w1 b5 hb5 hs5 he1 hB5 => ?_; ((conv => whnf); repeat' (first | ((with_reducible first | refine q1 ?_ | refine q2 ?_); conv => whnf) | (with_reducible refine q3 ?_) | ((with_reducible refine q4 (fun _ => ?_) (fun _ => ?_)) <;> first | (exfalso; omega) | (conv => whnf)) | ((with_reducible first | refine q5 ?_ | refine q6 ?_ | refine q7 ?_ | refine q8 ?_ | refine q9 ?_ | refine q10 ?_ | refine q11 ?_ | refine q12 ?_ | refine q13 ?_ | refine q14 ?_ | refine q15 ?_); conv => whnf) | ((refine q16 (fun _ _ _ _ _ => ?_)); conv => whnf) | ((with_reducible first | refine q17 ?_ | refine q18 ?_ | refine q19 ?_ | refine q20 ?_); conv => whnf)))
  have h1 := h.ex he1
  have hhd := h1.hd
  have hlen := hS.1
  ((conv => whnf); repeat' (first | ((with_reducible first | refine q1 ?_ | refine q2 ?_); conv => whnf) | (with_reducible refine q3 ?_) | ((with_reducible refine q4 (fun _ => ?_) (fun _ => ?_)) <;> first | (exfalso; omega) | (conv => whnf)) | ((with_reducible first | refine q5 ?_ | refine q6 ?_ | refine q7 ?_ | refine q8 ?_ | refine q9 ?_ | refine q10 ?_ | refine q11 ?_ | refine q12 ?_ | refine q13 ?_ | refine q14 ?_ | refine q15 ?_); conv => whnf) | ((refine q16 (fun _ _ _ _ _ => ?_)); conv => whnf) | ((with_reducible first | refine q17 ?_ | refine q18 ?_ | refine q19 ?_ | refine q20 ?_); conv => whnf)))
  refine CallA.mono (Tryz.within copy 0 _ _) ?_
  rintro v w2 ⟨rfl, rfl⟩
  have hM : findM (cs.map Cp.m) copy number = if 0 ≤ copy ∧ copy ≤ (cs.length : Int) - 1 then (match ((cs.map Cp.m).getD copy.toNat []).findIdx? fun x => decide (x.1 = number) with
    | some i => ((i : Int), (0 : Int))
    | none => ((0 : Int), (5 : Int))) else ((0 : Int), (1 : Int)) := by unfold findM; rw [List.length_map]
  rw [hM]
  ((conv => whnf); repeat' (first | ((with_reducible first | refine q1 ?_ | refine q2 ?_); conv => whnf) | (with_reducible refine q3 ?_) | ((with_reducible refine q4 (fun _ => ?_) (fun _ => ?_)) <;> first | (exfalso; omega) | (conv => whnf)) | ((with_reducible first | refine q5 ?_ | refine q6 ?_ | refine q7 ?_ | refine q8 ?_ | refine q9 ?_ | refine q10 ?_ | refine q11 ?_ | refine q12 ?_ | refine q13 ?_ | refine q14 ?_ | refine q15 ?_); conv => whnf) | ((refine q16 (fun _ _ _ _ _ => ?_)); conv => whnf) | ((with_reducible first | refine q17 ?_ | refine q18 ?_ | refine q19 ?_ | refine q20 ?_); conv => whnf)))
  · rename_i hin
    rw [if_pos hin]
    have hk : copy.toNat < cs.length := by omega
    refine IdxA.at0' (k := copy.toNat) (by omega) hk ?_
    ((conv => whnf); repeat' (first | ((with_reducible first | refine q1 ?_ | refine q2 ?_); conv => whnf) | (with_reducible refine q3 ?_) | ((with_reducible refine q4 (fun _ => ?_) (fun _ => ?_)) <;> first | (exfalso; omega) | (conv => whnf)) | ((with_reducible first | refine q5 ?_ | refine q6 ?_ | refine q7 ?_ | refine q8 ?_ | refine q9 ?_ | refine q10 ?_ | refine q11 ?_ | refine q12 ?_ | refine q13 ?_ | refine q14 ?_ | refine q15 ?_); conv => whnf) | ((refine q16 (fun _ _ _ _ _ => ?_)); conv => whnf) | ((with_reducible first | refine q17 ?_ | refine q18 ?_ | refine q19 ?_ | refine q20 ?_); conv => whnf)))
    refine Load1.mk' (h1.cell hk) ?_
    ((conv => whnf); repeat' (first | ((with_reducible first | refine q1 ?_ | refine q2 ?_); conv => whnf) | (with_reducible refine q3 ?_) | ((with_reducible refine q4 (fun _ => ?_) (fun _ => ?_)) <;> first | (exfalso; omega) | (conv => whnf)) | ((with_reducible first | refine q5 ?_ | refine q6 ?_ | refine q7 ?_ | refine q8 ?_ | refine q9 ?_ | refine q10 ?_ | refine q11 ?_ | refine q12 ?_ | refine q13 ?_ | refine q14 ?_ | refine q15 ?_); conv => whnf) | ((refine q16 (fun _ _ _ _ _ => ?_)); conv => whnf) | ((with_reducible first | refine q17 ?_ | refine q18 ?_ | refine q19 ?_ | refine q20 ?_); conv => whnf)))
    have hsm := hS.2 _ (List.getElem_mem hk)
    refine CallA.mono (Tryz.indexLfs cs[copy.toNat].base cs[copy.toNat].cap cs[copy.toNat].ls 104 #[.pointer (some ⟨b5, 0, none⟩)] _ _ _ (Tryz.find1 number b5 _) (fun u u' h e => h.ex e) hB5 (h1.each _ hk).row.row (by omega)) ?_
    rintro v w3 ⟨rfl, he3⟩
    have hg : (cs.map Cp.m).getD copy.toNat [] = cs[copy.toNat].ls.map Lf.m := by rw [getD_get (by simpa using hk), List.getElem_map]; rfl
    have hf : ((cs.map Cp.m).getD copy.toNat []).findIdx? (fun x => decide (x.1 = number)) = cs[copy.toNat].ls.findIdx? fun q => decide (q.number = number) := by rw [hg, List.findIdx?_map]; rfl
    rw [hf]
    cases hi : cs[copy.toNat].ls.findIdx? fun q => decide (q.number = number) with
    | none =>
      simp only [idxI]
      ((conv => whnf); repeat' (first | ((with_reducible first | refine q1 ?_ | refine q2 ?_); conv => whnf) | (with_reducible refine q3 ?_) | ((with_reducible refine q4 (fun _ => ?_) (fun _ => ?_)) <;> first | (exfalso; omega) | (conv => whnf)) | ((with_reducible first | refine q5 ?_ | refine q6 ?_ | refine q7 ?_ | refine q8 ?_ | refine q9 ?_ | refine q10 ?_ | refine q11 ?_ | refine q12 ?_ | refine q13 ?_ | refine q14 ?_ | refine q15 ?_); conv => whnf) | ((refine q16 (fun _ _ _ _ _ => ?_)); conv => whnf) | ((with_reducible first | refine q17 ?_ | refine q18 ?_ | refine q19 ?_ | refine q20 ?_); conv => whnf)))
      exact ⟨rfl, he1.tr he3⟩
    | some i =>
      simp only [idxI]
      ((conv => whnf); repeat' (first | ((with_reducible first | refine q1 ?_ | refine q2 ?_); conv => whnf) | (with_reducible refine q3 ?_) | ((with_reducible refine q4 (fun _ => ?_) (fun _ => ?_)) <;> first | (exfalso; omega) | (conv => whnf)) | ((with_reducible first | refine q5 ?_ | refine q6 ?_ | refine q7 ?_ | refine q8 ?_ | refine q9 ?_ | refine q10 ?_ | refine q11 ?_ | refine q12 ?_ | refine q13 ?_ | refine q14 ?_ | refine q15 ?_); conv => whnf) | ((refine q16 (fun _ _ _ _ _ => ?_)); conv => whnf) | ((with_reducible first | refine q17 ?_ | refine q18 ?_ | refine q19 ?_ | refine q20 ?_); conv => whnf)))
      exact ⟨rfl, he1.tr he3⟩
  · rename_i hin
    rw [if_neg hin]
    exact ⟨rfl, he1⟩
end Go.Proofs
namespace Go.Proofs
open Go.V
open Go.RowKit (Below)
theorem baseAt_zero (base : Option Addr) (m sz : Nat) : baseAt base 0 m sz = base := by
  unfold baseAt; split
  · rfl
  · cases base with
    | none => rfl
    | some a => simp [Addr.add]
theorem erase_at (i k : Nat) : (if k < i then k else k + 1) ≠ i := by split <;> omega
theorem LvO.erase {w w' : World} {N g cap : Nat} {ls : List Lf} (h : LvO w N (some ⟨g, 0, none⟩) cap ls) (i : Nat) (gr : w.grownBy w' (some g)) (ho : Own w' N 59 2 (some ⟨g, 0, none⟩) (ls.eraseIdx i).length cap (rowC lfC (ls.eraseIdx i))) : LvO w' N (some ⟨g, 0, none⟩) cap (ls.eraseIdx i) := by
  have hget : ∀ k (hk : k < (ls.eraseIdx i).length), ∃ k' , ∃ hk' : k' < ls.length, (ls.eraseIdx i)[k] = ls[k'] ∧ k' = (if k < i then k else k + 1) := by
    intro k hk
    rw [List.getElem_eraseIdx]
    have hl := List.length_eraseIdx (l := ls) (i := i)
    split
    · rename_i h1; exact ⟨k, by split at hl <;> omega, rfl, by simp [h1]⟩
    · rename_i h1; exact ⟨k + 1, by split at hl <;> omega, rfl, by simp [h1]⟩
  refine ⟨ho, ?_, ?_, ?_⟩
  · intro k hk
    obtain ⟨k', hk', e, _⟩ := hget k hk
    rw [e]
    have := h.off k' hk'
    exact (h.each k' hk').grown gr (by simpa [blkOf] using this)
  · intro a b ha hb hab
    obtain ⟨a', ha', ea, e1⟩ := hget a ha
    obtain ⟨b', hb', eb, e2⟩ := hget b hb
    rw [ea, eb]
    exact h.apart a' b' ha' hb' (by rw [e1, e2]; (repeat' split) <;> omega)
  · intro a ha
    obtain ⟨a', ha', ea, _⟩ := hget a ha
    rw [ea]; exact h.off a' ha'
set_option maxRecDepth 4000 in
theorem Tryz.deleteLf (N g cap : Nat) (ls : List Lf) (i : Nat) (w : World) (h : LvO w N (some ⟨g, 0, none⟩) cap ls) (hi : i < ls.length) (hl : ls.length ≤ 100000) :
    CallA Tryz.prog 61 [.slice (some ⟨g, 0, none⟩) ls.length cap, .int .i64 (i : Int), .int .i64 ((i : Int) + 1)] w fun v w' => v = .slice (some ⟨g, 0, none⟩) (ls.eraseIdx i).length cap ∧ LvO w' N (some ⟨g, 0, none⟩) cap (ls.eraseIdx i) ∧ w.grownBy w' (some g) := by
  have hcap := h.row.le
  refine callA_intro Tryz.tbOk Tryz.func61 rfl Tryz.ntmps61 Tryz.results61 (by decide) (by simp) ?_
  ((conv => whnf); repeat' (first | ((with_reducible first | refine q1 ?_ | refine q2 ?_); conv => whnf) | (with_reducible refine q3 ?_) | ((with_reducible refine q4 (fun _ => ?_) (fun _ => ?_)) <;> first | (exfalso; omega) | (conv => whnf)) | ((with_reducible first | refine q5 ?_ | refine q6 ?_ | refine q7 ?_ | refine q8 ?_ | refine q9 ?_ | refine q10 ?_ | refine q11 ?_ | refine q12 ?_ | refine q13 ?_ | refine q14 ?_ | refine q15 ?_); conv => whnf) | ((refine q16 (fun _ _ _ _ _ => ?_)); conv => whnf) | ((with_reducible first | refine q17 ?_ | refine q18 ?_ | refine q19 ?_ | refine q20 ?_); conv => whnf)))
  refine RunV.slice (e := 59) (sz := 2) (by_ := 32) (z := some (.agg #[.int .i64 0, .slice none 0 0])) Tryz.tbOk rfl i (i + 1) ls.length (.inl rfl) (.inl rfl) (.inl rfl) (fun h => by cases h) (by omega) (by omega) (by omega) ?_
  ((conv => whnf); repeat' (first | ((with_reducible first | refine q1 ?_ | refine q2 ?_); conv => whnf) | (with_reducible refine q3 ?_) | ((with_reducible refine q4 (fun _ => ?_) (fun _ => ?_)) <;> first | (exfalso; omega) | (conv => whnf)) | ((with_reducible first | refine q5 ?_ | refine q6 ?_ | refine q7 ?_ | refine q8 ?_ | refine q9 ?_ | refine q10 ?_ | refine q11 ?_ | refine q12 ?_ | refine q13 ?_ | refine q14 ?_ | refine q15 ?_); conv => whnf) | ((refine q16 (fun _ _ _ _ _ => ?_)); conv => whnf) | ((with_reducible first | refine q17 ?_ | refine q18 ?_ | refine q19 ?_ | refine q20 ?_); conv => whnf)))
  have hrow := h.row.row
  have hsub := hrow.sub (l := i + 1) (hh := ls.length) (m := cap) (sz := 2) (by omega) hcap
  rw [rowC_drop (sz := 2) (fun _ => rfl), List.take_of_length_le (by rw [rowC_length (sz := 2) (fun _ => rfl)]; simp)] at hsub
  have hpre := h.row.prefix_ (k := i) (by omega)
  rw [rowC_take (sz := 2) (fun _ => rfl)] at hpre
  have hlen : i + (ls.length - (i + 1)) = (ls.eraseIdx i).length := by rw [List.length_eraseIdx, if_pos hi]; omega
  have hcs : rowC lfC (ls.take i) ++ rowC lfC (ls.drop (i + 1)) = rowC lfC (ls.eraseIdx i) := by rw [← rowC_append, List.eraseIdx_eq_take_drop_succ]
  refine draw_rule Tryz.tbOk Tryz.mix (fun _ => True) (.take 0 (.take 1 (.take 2 (.take 3 (.take 4 (.take 5 (.one 6 (.take 7 (.done))))))))) (by kernel_rfl) (by kernel_rfl) ?_
  intro w1 hd1
  refine ⟨trivial, ?_⟩
  ((conv => whnf); repeat' (first | ((with_reducible first | refine q1 ?_ | refine q2 ?_); conv => whnf) | (with_reducible refine q3 ?_) | ((with_reducible refine q4 (fun _ => ?_) (fun _ => ?_)) <;> first | (exfalso; omega) | (conv => whnf)) | ((with_reducible first | refine q5 ?_ | refine q6 ?_ | refine q7 ?_ | refine q8 ?_ | refine q9 ?_ | refine q10 ?_ | refine q11 ?_ | refine q12 ?_ | refine q13 ?_ | refine q14 ?_ | refine q15 ?_); conv => whnf) | ((refine q16 (fun _ _ _ _ _ => ?_)); conv => whnf) | ((with_reducible first | refine q17 ?_ | refine q18 ?_ | refine q19 ?_ | refine q20 ?_); conv => whnf)))
  refine HoldV.slice (e := 59) (sz := 2) (by_ := 32) (z := some (.agg #[.int .i64 0, .slice none 0 0])) Tryz.tbOk rfl 0 i cap (.inr ⟨rfl, rfl⟩) (.inl rfl) (.inr ⟨rfl, rfl⟩) (fun h => by cases h) (by omega) (by omega) (by omega) ?_
  rw [baseAt_zero, Nat.sub_zero, Nat.sub_zero]
  ((conv => whnf); repeat' (first | ((with_reducible first | refine q1 ?_ | refine q2 ?_); conv => whnf) | (with_reducible refine q3 ?_) | ((with_reducible refine q4 (fun _ => ?_) (fun _ => ?_)) <;> first | (exfalso; omega) | (conv => whnf)) | ((with_reducible first | refine q5 ?_ | refine q6 ?_ | refine q7 ?_ | refine q8 ?_ | refine q9 ?_ | refine q10 ?_ | refine q11 ?_ | refine q12 ?_ | refine q13 ?_ | refine q14 ?_ | refine q15 ?_); conv => whnf) | ((refine q16 (fun _ _ _ _ _ => ?_)); conv => whnf) | ((with_reducible first | refine q17 ?_ | refine q18 ?_ | refine q19 ?_ | refine q20 ?_); conv => whnf)))
  refine HoldV.slice (e := 59) (sz := 2) (by_ := 32) (z := some (.agg #[.int .i64 0, .slice none 0 0])) Tryz.tbOk rfl (i + 1) ls.length cap (.inl rfl) (.inr ⟨rfl, rfl⟩) (.inr ⟨rfl, rfl⟩) (fun _ => rfl) (by omega) (by omega) (by omega) ?_
  ((conv => whnf); repeat' (first | ((with_reducible first | refine q1 ?_ | refine q2 ?_); conv => whnf) | (with_reducible refine q3 ?_) | ((with_reducible refine q4 (fun _ => ?_) (fun _ => ?_)) <;> first | (exfalso; omega) | (conv => whnf)) | ((with_reducible first | refine q5 ?_ | refine q6 ?_ | refine q7 ?_ | refine q8 ?_ | refine q9 ?_ | refine q10 ?_ | refine q11 ?_ | refine q12 ?_ | refine q13 ?_ | refine q14 ?_ | refine q15 ?_); conv => whnf) | ((refine q16 (fun _ _ _ _ _ => ?_)); conv => whnf) | ((with_reducible first | refine q17 ?_ | refine q18 ?_ | refine q19 ?_ | refine q20 ?_); conv => whnf)))
  refine RunV.appendFit (e := 59) (sz := 2) (by_ := 32) (z := some (.agg #[.int .i64 0, .slice none 0 0])) Tryz.tbOk (hpre.ex hd1.ex) (hsub.ex hd1.ex) rfl (by rw [rowC_length (sz := 2) (fun _ => rfl)]; simp) (by decide) (rowC_one (fun x => all_one rfl) _) (by omega) fun w2 ho2 hu2 => ?_
  refine Anew.mk trivial ?_
  rw [hlen, hcs] at ho2
  rw [hlen]
  ((conv => whnf); repeat' (first | ((with_reducible first | refine q1 ?_ | refine q2 ?_); conv => whnf) | (with_reducible refine q3 ?_) | ((with_reducible refine q4 (fun _ => ?_) (fun _ => ?_)) <;> first | (exfalso; omega) | (conv => whnf)) | ((with_reducible first | refine q5 ?_ | refine q6 ?_ | refine q7 ?_ | refine q8 ?_ | refine q9 ?_ | refine q10 ?_ | refine q11 ?_ | refine q12 ?_ | refine q13 ?_ | refine q14 ?_ | refine q15 ?_); conv => whnf) | ((refine q16 (fun _ _ _ _ _ => ?_)); conv => whnf) | ((with_reducible first | refine q17 ?_ | refine q18 ?_ | refine q19 ?_ | refine q20 ?_); conv => whnf)))
  have hle2 : (ls.eraseIdx i).length ≤ ls.length := by omega
  refine RunV.slice (e := 59) (sz := 2) (by_ := 32) (z := some (.agg #[.int .i64 0, .slice none 0 0])) Tryz.tbOk rfl (ls.eraseIdx i).length ls.length cap (.inl rfl) (.inl rfl) (.inr ⟨rfl, rfl⟩) (fun h => by cases h) (by omega) (by omega) (by omega) ?_
  ((conv => whnf); repeat' (first | ((with_reducible first | refine q1 ?_ | refine q2 ?_); conv => whnf) | (with_reducible refine q3 ?_) | ((with_reducible refine q4 (fun _ => ?_) (fun _ => ?_)) <;> first | (exfalso; omega) | (conv => whnf)) | ((with_reducible first | refine q5 ?_ | refine q6 ?_ | refine q7 ?_ | refine q8 ?_ | refine q9 ?_ | refine q10 ?_ | refine q11 ?_ | refine q12 ?_ | refine q13 ?_ | refine q14 ?_ | refine q15 ?_); conv => whnf) | ((refine q16 (fun _ _ _ _ _ => ?_)); conv => whnf) | ((with_reducible first | refine q17 ?_ | refine q18 ?_ | refine q19 ?_ | refine q20 ?_); conv => whnf)))
  obtain ⟨ex, hoe⟩ := ho2.extend (m := ls.length) hle2 hcap
  refine RunV.clearTail (e := 59) (sz := 2) (by_ := 32) (z := .agg #[.int .i64 0, .slice none 0 0]) Tryz.tbOk (ls.eraseIdx i).length rfl hoe hle2 hcap rfl (by decide) rfl fun w3 ho3 hg3 => ?_
  ((conv => whnf); repeat' (first | ((with_reducible first | refine q1 ?_ | refine q2 ?_); conv => whnf) | (with_reducible refine q3 ?_) | ((with_reducible refine q4 (fun _ => ?_) (fun _ => ?_)) <;> first | (exfalso; omega) | (conv => whnf)) | ((with_reducible first | refine q5 ?_ | refine q6 ?_ | refine q7 ?_ | refine q8 ?_ | refine q9 ?_ | refine q10 ?_ | refine q11 ?_ | refine q12 ?_ | refine q13 ?_ | refine q14 ?_ | refine q15 ?_); conv => whnf) | ((refine q16 (fun _ _ _ _ _ => ?_)); conv => whnf) | ((with_reducible first | refine q17 ?_ | refine q18 ?_ | refine q19 ?_ | refine q20 ?_); conv => whnf)))
  have ho4 := ho3.prefix_ (k := (ls.eraseIdx i).length) hle2
  have hl2 : (rowC lfC (ls.eraseIdx i)).length = (ls.eraseIdx i).length * 2 := rowC_length (sz := 2) (fun _ => rfl) _
  have ho5 : Own w3 N 59 2 (some ⟨g, 0, none⟩) (ls.eraseIdx i).length cap (rowC lfC (ls.eraseIdx i)) := by
    have e : ∀ (A B C : List Value), A.length = (ls.eraseIdx i).length * 2 → ((((A ++ B).take ((ls.eraseIdx i).length * 2)) ++ C).take ((ls.eraseIdx i).length * 2)) = A := by
      intro A B C hA
      rw [← hA, List.take_left', List.take_left']
      all_goals simp
    rw [e _ _ _ hl2] at ho4
    exact ho4
  have hgr : w.grownBy w3 (some g) := by
    have h1 := grown_then ⟨hd1.os, hd1.tape, hd1.output, by rw [hd1.size]; exact Nat.le_refl _, fun k hk _ => by rw [hd1.heap]⟩ hu2
    exact ⟨hg3.os.trans h1.os, hg3.tape.trans h1.tape, hg3.output.trans h1.output, Nat.le_trans h1.size hg3.size, fun k hk hne => (hg3.block k (by have := h1.size; omega) hne).trans (h1.block k hk hne)⟩
  exact ⟨rfl, h.erase i hgr ho5, hgr⟩
end Go.Proofs
