/-
  L27: a part of the proof. By an AI agent.
-/
import Derived.Test.YtpeihahmhpamoaaGreatVQ
import Derived.Test.YtpeihahmhpamoaaGreatV10
import Derived.Test.YtpeihahmhpamoaaGreatL26
set_option linter.all false
namespace Go.Proofs
open Go.V
open Go.RowKit (Below)
/-! ### what a solution is like -/
theorem findP_lt {rows : List (List Int)} {used c p : Nat} (h : findP rows used c = some p) : used ≤ p ∧ p < rows.length := by
  unfold findP at h
  rw [Option.map_eq_some_iff] at h
  obtain ⟨i, hi, rfl⟩ := h
  obtain ⟨hl, _⟩ := List.findIdx?_eq_some_iff_getElem.1 hi
  rw [List.length_drop] at hl
  omega
theorem stepRows_length (rows : List (List Int)) (used pivot c : Nat) : (stepRows rows used pivot c).length = rows.length := by
  simp [stepRows, elimAt_length, swapL_length]
theorem stepRows_ok {k : Nat} {rows : List (List Int)} {used p c : Nat} (h : RowsW k rows) (hp : findP rows used c = some p) : RowsW k (stepRows rows used p c) := by
  have hlt := findP_lt hp
  have hu : used < (swapL rows used p).length := by rw [swapL_length]; omega
  have h1 : (scaledM (swapL rows used p) used c).length = k ∧ isW (scaledM (swapL rows used p) used c) := by
    refine scaleM_ok _ ?_
    rw [getD_get hu]
    exact (h.swap _ _ _ (List.getElem_mem hu)).1
  exact elimAt_ok ((h.swap _ _).set _ h1) h1.1
theorem solveG_ok {k L : Nat} : ∀ (n c used : Nat) (rows : List (List Int)) (at_ : List Int), RowsW k rows → at_.length = L → RowsW k (solveG n c used rows at_).2.1 ∧ (solveG n c used rows at_).2.2.length = L := by
  intro n
  induction n with
  | zero => exact fun c used rows at_ h hl => ⟨h, hl⟩
  | succ n ih =>
    intro c used rows at_ h hl
    simp only [solveG]
    cases hp : findP rows used c with
    | none => exact ih _ _ _ _ h hl
    | some p => exact ih _ _ _ _ (stepRows_ok h hp) (by rw [List.length_set]; exact hl)
theorem solveM_ok {rows : List (List Int)} {many k : Nat} (h : RowsW k rows) {xs : List Int} (hs : solveM rows many = some xs) : xs.length = many ∧ isW xs := by
  unfold solveM at hs
  obtain ⟨h1, h2⟩ := solveG_ok (L := many) many 0 0 rows (List.replicate many 0) h (by simp)
  simp only [] at hs
  split at hs
  · cases hs
  · simp only [Option.some.injEq] at hs
    subst hs
    refine ⟨by rw [List.length_map, h2], ?_⟩
    intro x hx
    obtain ⟨y, _, rfl⟩ := List.mem_map.1 hx
    split
    · have hw : isW ((solveG many 0 0 rows (List.replicate many 0)).2.1.getD (y - 1).toNat []) := by
        rw [List.getD_eq_getElem?_getD]
        cases hg : (solveG many 0 0 rows (List.replicate many 0)).2.1[(y - 1).toNat]? with
        | none => intro n hn; simp at hn
        | some r => exact (h1 r (List.mem_of_getElem? hg)).2
      exact getD_word hw many
    · omega
/-! ### the polynomial that has most values -/
def powsM (x : Int) (n : Nat) : List Int := (List.range n).map fun (i : Nat) => powM x (i : Int)
def negsM (p : Int × Int) (n : Nat) : List Int := (List.range n).map fun (i : Nat) => (0 - p.2) * powM p.1 (i : Int) % 65521
def eqnM (many few : Nat) (p : Int × Int) : List Int := powsM p.1 (many + few) ++ negsM p few ++ [p.2 * powM p.1 (few : Int) % 65521]
def decodedM (l : List (Int × Int)) (many few : Nat) : Option (List Int) :=
  match solveM (l.map (eqnM many few)) (many + 2 * few) with
  | none => none
  | some x =>
    let r := overM (x.take (many + few)) (x.drop (many + few) ++ [1])
    if r.2 then some r.1 else none
theorem powsM_succ (x : Int) (n : Nat) : powsM x (n + 1) = powsM x n ++ [powM x (n : Int)] := by simp [powsM, List.range_succ]
theorem negsM_succ (p : Int × Int) (n : Nat) : negsM p (n + 1) = negsM p n ++ [(0 - p.2) * powM p.1 (n : Int) % 65521] := by simp [negsM, List.range_succ]
@[simp] theorem powsM_length (x : Int) (n : Nat) : (powsM x n).length = n := by simp [powsM]
@[simp] theorem negsM_length (p : Int × Int) (n : Nat) : (negsM p n).length = n := by simp [negsM]
theorem eqnM_ok (many few : Nat) (p : Int × Int) : (eqnM many few p).length = many + 2 * few + 1 ∧ isW (eqnM many few p) := by
  refine ⟨by simp [eqnM]; omega, isW_append (isW_append ?_ ?_) ?_⟩
  · intro x hx
    obtain ⟨i, _, rfl⟩ := List.mem_map.1 hx
    have := powM_range p.1 (i : Int); omega
  · intro x hx
    obtain ⟨i, _, rfl⟩ := List.mem_map.1 hx
    omega
  · intro x hx
    rw [List.mem_singleton] at hx; subst hx; omega
theorem RwO.push {w w' : World} {N : Nat} {base base' : Option Addr} {cap cap' : Nat} {ss : List Sl} (h : RwO w N base cap ss) (s : Sl) (hs : Own w N 3 1 s.base s.xs.length s.cap (ints s.xs)) (hoff : s.base = none ∨ blkOf s.base ≠ blkOf base)
    (hap : ∀ i (hi : i < ss.length), ss[i].base = none ∨ blkOf ss[i].base ≠ blkOf s.base) (g : w.grownBy w' (blkOf base)) (ho : Own w' N 57 1 base' (ss.length + 1) cap' (rowC slC ss ++ slC s)) (hb : blkOf base' = blkOf base ∨ blkOf base' = some w.heap.size) : RwO w' N base' cap' (ss ++ [s]) := by
  have hfresh : ∀ (b : Option Addr) (n c : Nat) (cs : List Value), Own w N 3 1 b n c cs → (b = none ∨ blkOf b ≠ blkOf base) → b = none ∨ blkOf b ≠ blkOf base' := by
    intro b n c cs ho h1
    rcases h1 with h1 | h1
    · exact .inl h1
    · rcases hb with hb | hb
      · exact .inr (by rw [hb]; exact h1)
      · right; rw [hb]; intro e
        have := (ho.blk_ge _ e).2; omega
  refine ⟨?_, ?_, ?_, ?_⟩
  · rw [List.length_append, rowC_append]
    simpa [rowC] using ho
  · intro i hi
    rw [List.getElem_append]
    split
    · rename_i h1; exact (h.each i h1).grown g (h.off i h1)
    · rename_i h1
      have : i - ss.length = 0 := by simp at hi; omega
      simp only [this, List.getElem_cons_zero]
      exact hs.grown g hoff
  · intro i j hi hj hij
    rw [List.length_append] at hi hj
    simp only [List.length_cons, List.length_nil] at hi hj
    rw [List.getElem_append, List.getElem_append]
    split
    · rename_i h1
      split
      · rename_i h2; exact h.apart i j h1 h2 hij
      · rename_i h2
        have : j - ss.length = 0 := by omega
        simp only [this, List.getElem_cons_zero]
        exact hap i h1
    · rename_i h1
      split
      · rename_i h2
        have : i - ss.length = 0 := by omega
        simp only [this, List.getElem_cons_zero]
        rcases hap j h2 with h3 | h3
        · by_cases hn : s.base = none
          · exact .inl hn
          · right; rw [h3]; cases hb : s.base with
            | none => exact absurd hb hn
            | some a => simp [blkOf]
        · exact .inr (Ne.symm h3)
      · omega
  · intro i hi
    rw [List.length_append] at hi
    simp only [List.length_cons, List.length_nil] at hi
    rw [List.getElem_append]
    split
    · rename_i h1; exact hfresh _ _ _ _ (h.each i h1) (h.off i h1)
    · rename_i h1
      have : i - ss.length = 0 := by omega
      simp only [this, List.getElem_cons_zero]
      exact hfresh _ _ _ _ hs hoff
set_option maxRecDepth 4000 in
set_option maxHeartbeats 1000000 in
theorem Tryz.decoded (base : Option Addr) (cap : Nat) (l : List (Int × Int)) (many few : Nat) (w : World) (hr : Row w base (rowC dotC l)) (hl : 0 < l.length ∧ l.length ≤ 1000) (hm : 0 < many ∧ many ≤ 1000) (hf : few ≤ 1000) (hd : ∀ p ∈ l, dotB p = true) :
    CallA Tryz.prog 121 [.slice base l.length cap, .int .i64 (many : Int), .int .i64 (few : Int)] w fun v w' => Ex w w' ∧ match decodedM l many few with
      | none => ∃ v1, v = .tuple #[v1, .bool false]
      | some c => ∃ b cp, v = .tuple #[.slice b c.length cp, .bool true] ∧ Own w' w.heap.size 3 1 b c.length cp (ints c) := by
  refine callA_intro Tryz.tbOk Tryz.func121 rfl Tryz.ntmps121 Tryz.results121 (by decide) (by simp) ?_
  ((conv => whnf); repeat' (first | ((with_reducible first | refine q1 ?_ | refine q2 ?_); conv => whnf) | (with_reducible refine q3 ?_) | ((with_reducible refine q4 (fun _ => ?_) (fun _ => ?_)) <;> first | (exfalso; omega) | (conv => whnf)) | ((with_reducible first | refine q5 ?_ | refine q6 ?_ | refine q7 ?_ | refine q8 ?_ | refine q9 ?_ | refine q10 ?_ | refine q11 ?_ | refine q12 ?_ | refine q13 ?_ | refine q14 ?_ | refine q15 ?_); conv => whnf) | ((refine q16 (fun _ _ _ _ _ => ?_)); conv => whnf) | ((with_reducible first | refine q17 ?_ | refine q18 ?_ | refine q19 ?_ | refine q20 ?_); conv => whnf)))
  refine loop_rule Tryz.tbOk (Nat × Option Addr × Nat × List Sl) [20, 8] (fun | (k, b, c, ss) => [.int .i64 (k:Int), .slice b ss.length c])
    (fun | (k, b, c, ss), u => k ≤ l.length ∧ RwO u w.heap.size b c ss ∧ rowsOf ss = (l.take k).map (eqnM many few) ∧ Ex w u) (fun | (k, _, _, _) => l.length - k)
    (0, none, 0, []) rfl ⟨by omega, ⟨Own.nil _ _ _ _, by intro i hi; simp at hi, by intro i j hi; simp at hi, by intro i hi; simp at hi⟩, by simp [rowsOf], Ex.refl w⟩ ?_
  rintro ⟨k, b, c, ss⟩ u ⟨hk, hO, hR, he⟩ ux
  have hsl : ss.length = k := by
    have := congrArg List.length hR
    rw [rowsOf_length] at this
    simp at this; omega
  by_cases hkl : k < l.length
  · have hdk := hd _ (List.getElem_mem hkl)
    obtain ⟨hdx, hdy⟩ : (0 ≤ l[k].1 ∧ l[k].1 ≤ 65520) ∧ (0 ≤ l[k].2 ∧ l[k].2 ≤ 65520) := by simpa [dotB, wordB] using hdk
    ((conv => whnf); repeat' (first | ((with_reducible first | refine q1 ?_ | refine q2 ?_); conv => whnf) | (with_reducible refine q3 ?_) | ((with_reducible refine q4 (fun _ => ?_) (fun _ => ?_)) <;> first | (exfalso; omega) | (conv => whnf)) | ((with_reducible first | refine q5 ?_ | refine q6 ?_ | refine q7 ?_ | refine q8 ?_ | refine q9 ?_ | refine q10 ?_ | refine q11 ?_ | refine q12 ?_ | refine q13 ?_ | refine q14 ?_ | refine q15 ?_); conv => whnf) | ((refine q16 (fun _ _ _ _ _ => ?_)); conv => whnf) | ((with_reducible first | refine q17 ?_ | refine q18 ?_ | refine q19 ?_ | refine q20 ?_); conv => whnf)))
    refine IdxA.elem (sz := 2) (hr.ex he) (fun _ => rfl) (by decide) rfl k rfl hkl (fun bq oq hbq hcq => ?_)
    (conv => whnf)
    refine LoadN.mk' (vs := dotC l[k]) rfl (fun j x hj => hcq j x hj) ?_
    ((conv => whnf); repeat' (first | ((with_reducible first | refine q1 ?_ | refine q2 ?_); conv => whnf) | (with_reducible refine q3 ?_) | ((with_reducible refine q4 (fun _ => ?_) (fun _ => ?_)) <;> first | (exfalso; omega) | (conv => whnf)) | ((with_reducible first | refine q5 ?_ | refine q6 ?_ | refine q7 ?_ | refine q8 ?_ | refine q9 ?_ | refine q10 ?_ | refine q11 ?_ | refine q12 ?_ | refine q13 ?_ | refine q14 ?_ | refine q15 ?_); conv => whnf) | ((refine q16 (fun _ _ _ _ _ => ?_)); conv => whnf) | ((with_reducible first | refine q17 ?_ | refine q18 ?_ | refine q19 ?_ | refine q20 ?_); conv => whnf)))
    refine NewA.mk' fun w1 bp hbp hsp he1 hBp => ?_; ((conv => whnf); repeat' (first | ((with_reducible first | refine q1 ?_ | refine q2 ?_); conv => whnf) | (with_reducible refine q3 ?_) | ((with_reducible refine q4 (fun _ => ?_) (fun _ => ?_)) <;> first | (exfalso; omega) | (conv => whnf)) | ((with_reducible first | refine q5 ?_ | refine q6 ?_ | refine q7 ?_ | refine q8 ?_ | refine q9 ?_ | refine q10 ?_ | refine q11 ?_ | refine q12 ?_ | refine q13 ?_ | refine q14 ?_ | refine q15 ?_); conv => whnf) | ((refine q16 (fun _ _ _ _ _ => ?_)); conv => whnf) | ((with_reducible first | refine q17 ?_ | refine q18 ?_ | refine q19 ?_ | refine q20 ?_); conv => whnf)))
    refine StoreA.var hBp rfl rfl rfl fun w2 hu2 hB2 => ?_
    have he2 : Ex u w2 := he1.upd hu2 (by omega)
    ((conv => whnf); repeat' (first | ((with_reducible first | refine q1 ?_ | refine q2 ?_); conv => whnf) | (with_reducible refine q3 ?_) | ((with_reducible refine q4 (fun _ => ?_) (fun _ => ?_)) <;> first | (exfalso; omega) | (conv => whnf)) | ((with_reducible first | refine q5 ?_ | refine q6 ?_ | refine q7 ?_ | refine q8 ?_ | refine q9 ?_ | refine q10 ?_ | refine q11 ?_ | refine q12 ?_ | refine q13 ?_ | refine q14 ?_ | refine q15 ?_); conv => whnf) | ((refine q16 (fun _ _ _ _ _ => ?_)); conv => whnf) | ((with_reducible first | refine q17 ?_ | refine q18 ?_ | refine q19 ?_ | refine q20 ?_); conv => whnf)))
    refine CallA.mono (Tryz.power _ _) ?_; rintro v w3 ⟨bt, rfl, hct, he3⟩; ((conv => whnf); repeat' (first | ((with_reducible first | refine q1 ?_ | refine q2 ?_); conv => whnf) | (with_reducible refine q3 ?_) | ((with_reducible refine q4 (fun _ => ?_) (fun _ => ?_)) <;> first | (exfalso; omega) | (conv => whnf)) | ((with_reducible first | refine q5 ?_ | refine q6 ?_ | refine q7 ?_ | refine q8 ?_ | refine q9 ?_ | refine q10 ?_ | refine q11 ?_ | refine q12 ?_ | refine q13 ?_ | refine q14 ?_ | refine q15 ?_); conv => whnf) | ((refine q16 (fun _ _ _ _ _ => ?_)); conv => whnf) | ((with_reducible first | refine q17 ?_ | refine q18 ?_ | refine q19 ?_ | refine q20 ?_); conv => whnf)))
    have hB3 := hB2.ex he3
    refine RunV.make (e := 3) (sz := 1) (by_ := 8) Tryz.tbOk u.heap.size 0 (many + 2 * few + 1) rfl rfl (by omega) (by omega) (by omega) (by omega) rfl (by decide) (by have := he2.size; have := he3.size; omega) fun w4 br hbr hsr he4 hor => ?_
    have hor : Own w4 u.heap.size 3 1 (some ⟨br, 0, none⟩) 0 (many + 2 * few + 1) (ints []) := hor
    have heu : Ex u w4 := (he2.tr he3).tr he4
    have hB4 := hB3.ex he4
    have hct4 := he4.cell hct
    have hbtw := World.block_lt_of_cell? _ _ hct4
    ((conv => whnf); repeat' (first | ((with_reducible first | refine q1 ?_ | refine q2 ?_); conv => whnf) | (with_reducible refine q3 ?_) | ((with_reducible refine q4 (fun _ => ?_) (fun _ => ?_)) <;> first | (exfalso; omega) | (conv => whnf)) | ((with_reducible first | refine q5 ?_ | refine q6 ?_ | refine q7 ?_ | refine q8 ?_ | refine q9 ?_ | refine q10 ?_ | refine q11 ?_ | refine q12 ?_ | refine q13 ?_ | refine q14 ?_ | refine q15 ?_); conv => whnf) | ((refine q16 (fun _ _ _ _ _ => ?_)); conv => whnf) | ((with_reducible first | refine q17 ?_ | refine q18 ?_ | refine q19 ?_ | refine q20 ?_); conv => whnf)))
    have hNu := he.size
    refine loop_rule Tryz.tbOk (Nat × Option Addr × Nat) [36, 12] (fun | (i, b, c) => [.int .i64 (i:Int), .slice b i c])
      (fun | (i, b, c), u1 => i ≤ many + few ∧ Own u1 u.heap.size 3 1 b i c (ints (powsM l[k].1 i)) ∧ Ex u u1 ∧ Blk u1 bp (dotC l[k]) 70 ∧ u1.cell? ⟨bt, 0, none⟩ = some (.int .i64 l[k].1) ∧ (blkOf b ≠ some bp ∧ blkOf b ≠ some bt)) (fun | (i, _, _) => many + few - i)
      (0, some ⟨br, 0, none⟩, many + 2 * few + 1) rfl ⟨by omega, hor, heu, hB4, hct4, by simp [blkOf]; have := hB3.lt; have := World.block_lt_of_cell? _ _ hct; simp at this; omega⟩ ?_
    rintro ⟨i, b1, c1⟩ u1 ⟨hi, ho1, hu1, hB1, hct1, hne1⟩ ux1
    by_cases him : i < many + few
    · ((conv => whnf); repeat' (first | ((with_reducible first | refine q1 ?_ | refine q2 ?_); conv => whnf) | (with_reducible refine q3 ?_) | ((with_reducible refine q4 (fun _ => ?_) (fun _ => ?_)) <;> first | (exfalso; omega) | (conv => whnf)) | ((with_reducible first | refine q5 ?_ | refine q6 ?_ | refine q7 ?_ | refine q8 ?_ | refine q9 ?_ | refine q10 ?_ | refine q11 ?_ | refine q12 ?_ | refine q13 ?_ | refine q14 ?_ | refine q15 ?_); conv => whnf) | ((refine q16 (fun _ _ _ _ _ => ?_)); conv => whnf) | ((with_reducible first | refine q17 ?_ | refine q18 ?_ | refine q19 ?_ | refine q20 ?_); conv => whnf)))
      refine CallA.mono (Tryz.power1 _ _ _ _ hct1 (by omega) (by omega)) ?_; rintro v w5 ⟨rfl, he5⟩; ((conv => whnf); repeat' (first | ((with_reducible first | refine q1 ?_ | refine q2 ?_); conv => whnf) | (with_reducible refine q3 ?_) | ((with_reducible refine q4 (fun _ => ?_) (fun _ => ?_)) <;> first | (exfalso; omega) | (conv => whnf)) | ((with_reducible first | refine q5 ?_ | refine q6 ?_ | refine q7 ?_ | refine q8 ?_ | refine q9 ?_ | refine q10 ?_ | refine q11 ?_ | refine q12 ?_ | refine q13 ?_ | refine q14 ?_ | refine q15 ?_); conv => whnf) | ((refine q16 (fun _ _ _ _ _ => ?_)); conv => whnf) | ((with_reducible first | refine q17 ?_ | refine q18 ?_ | refine q19 ?_ | refine q20 ?_); conv => whnf)))
      refine NewS.mk' fun w6 b6 hb6 hs6 he6 hB6 => ?_
      ((conv => whnf); repeat' (first | ((with_reducible first | refine q1 ?_ | refine q2 ?_); conv => whnf) | (with_reducible refine q3 ?_) | ((with_reducible refine q4 (fun _ => ?_) (fun _ => ?_)) <;> first | (exfalso; omega) | (conv => whnf)) | ((with_reducible first | refine q5 ?_ | refine q6 ?_ | refine q7 ?_ | refine q8 ?_ | refine q9 ?_ | refine q10 ?_ | refine q11 ?_ | refine q12 ?_ | refine q13 ?_ | refine q14 ?_ | refine q15 ?_); conv => whnf) | ((refine q16 (fun _ _ _ _ _ => ?_)); conv => whnf) | ((with_reducible first | refine q17 ?_ | refine q18 ?_ | refine q19 ?_ | refine q20 ?_); conv => whnf)))
      have ho6 := (ho1.ex he5).ex he6
      refine RunV.append (e := 3) (sz := 1) (by_ := 8) (m := 1) (news := ints [powM l[k].1 (i : Int)]) Tryz.tbOk u.heap.size ho6 hB6.row rfl rfl (ints_one _) (by omega) (by omega) rfl (by decide) (by have := hu1.size; have := he5.size; omega) fun w7 b7 c7 ho7 hg7 hb7 => ?_
      ((conv => whnf); repeat' (first | ((with_reducible first | refine q1 ?_ | refine q2 ?_); conv => whnf) | (with_reducible refine q3 ?_) | ((with_reducible refine q4 (fun _ => ?_) (fun _ => ?_)) <;> first | (exfalso; omega) | (conv => whnf)) | ((with_reducible first | refine q5 ?_ | refine q6 ?_ | refine q7 ?_ | refine q8 ?_ | refine q9 ?_ | refine q10 ?_ | refine q11 ?_ | refine q12 ?_ | refine q13 ?_ | refine q14 ?_ | refine q15 ?_); conv => whnf) | ((refine q16 (fun _ _ _ _ _ => ?_)); conv => whnf) | ((with_reducible first | refine q17 ?_ | refine q18 ?_ | refine q19 ?_ | refine q20 ?_); conv => whnf)))
      rw [← ints_append, ← powsM_succ] at ho7
      have hsz6 := he6.size
      have hsz5 := he5.size
      have hlt := World.block_lt_of_cell? _ _ hct1
      have hlt2 := hB1.lt
      refine ⟨(i + 1, b7, c7), rfl, ⟨by omega, ho7, ((hu1.tr he5).tr he6).grow hg7 fun b hb => (ho6.blk_ge b hb).1, ((hB1.ex he5).ex he6).grown hg7 (Ne.symm hne1.1), ?_, ?_⟩, by simp only []; omega⟩
      · rw [World.cell?_of_block (hg7.block bt (World.block_lt_of_cell? _ _ ((he5.tr he6).cell hct1)) (Ne.symm hne1.2))]
        exact (he5.tr he6).cell hct1
      · simp at hlt
        rcases hb7 with h | h
        · rw [h]; exact hne1
        · rw [h]; constructor <;> (simp; omega)
    · obtain rfl : i = many + few := by omega
      ((conv => whnf); repeat' (first | ((with_reducible first | refine q1 ?_ | refine q2 ?_); conv => whnf) | (with_reducible refine q3 ?_) | ((with_reducible refine q4 (fun _ => ?_) (fun _ => ?_)) <;> first | (exfalso; omega) | (conv => whnf)) | ((with_reducible first | refine q5 ?_ | refine q6 ?_ | refine q7 ?_ | refine q8 ?_ | refine q9 ?_ | refine q10 ?_ | refine q11 ?_ | refine q12 ?_ | refine q13 ?_ | refine q14 ?_ | refine q15 ?_); conv => whnf) | ((refine q16 (fun _ _ _ _ _ => ?_)); conv => whnf) | ((with_reducible first | refine q17 ?_ | refine q18 ?_ | refine q19 ?_ | refine q20 ?_); conv => whnf)))
      refine loop_rule Tryz.tbOk (Nat × Option Addr × Nat) [47, 12] (fun | (i, b, c) => [.int .i64 (i:Int), .slice b (many + few + i) c])
        (fun | (i, b, c), u1 => i ≤ few ∧ Own u1 u.heap.size 3 1 b (many + few + i) c (ints (powsM l[k].1 (many + few) ++ negsM l[k] i)) ∧ Ex u u1 ∧ Blk u1 bp (dotC l[k]) 70 ∧ u1.cell? ⟨bt, 0, none⟩ = some (.int .i64 l[k].1) ∧ (blkOf b ≠ some bp ∧ blkOf b ≠ some bt)) (fun | (i, _, _) => few - i)
        (0, b1, c1) rfl ⟨by omega, by simpa [negsM] using ho1, hu1, hB1, hct1, hne1⟩ ?_
      clear ho1 hu1 hB1 hct1 hne1 hi him
      rintro ⟨i, b1, c1⟩ u1 ⟨hi, ho1, hu1, hB1, hct1, hne1⟩ ux2
      by_cases hif : i < few
      · ((conv => whnf); repeat' (first | ((with_reducible first | refine q1 ?_ | refine q2 ?_); conv => whnf) | (with_reducible refine q3 ?_) | ((with_reducible refine q4 (fun _ => ?_) (fun _ => ?_)) <;> first | (exfalso; omega) | (conv => whnf)) | ((with_reducible first | refine q5 ?_ | refine q6 ?_ | refine q7 ?_ | refine q8 ?_ | refine q9 ?_ | refine q10 ?_ | refine q11 ?_ | refine q12 ?_ | refine q13 ?_ | refine q14 ?_ | refine q15 ?_); conv => whnf) | ((refine q16 (fun _ _ _ _ _ => ?_)); conv => whnf) | ((with_reducible first | refine q17 ?_ | refine q18 ?_ | refine q19 ?_ | refine q20 ?_); conv => whnf)))
        refine draw_rule Tryz.tbOk Tryz.mix (fun u2 => Blk u2 bp (dotC l[k]) 70) (.take 0 (.take 1 (.take 2 (.take 3 (.take 4 (.take 5 (.one 6 (.take 7 (.one 8 (.one 9 (.one 10 (.take 11 (.done))))))))))))) (by kernel_rfl) (by kernel_rfl) ?_
        intro u2 hd2
        have hB2 := hB1.ex hd2.ex
        have hpw := powM_range l[k].1 (i : Int)
        have hmul := mul_word (a := l[k].2) (b := powM l[k].1 (i : Int)) (by omega) (by omega)
        have hneg : (0 - l[k].2) * powM l[k].1 (i : Int) = -(l[k].2 * powM l[k].1 (i : Int)) := by rw [Int.sub_mul]; simp
        refine ⟨hB2, ?_⟩
        ((conv => whnf); repeat' (first | ((with_reducible first | refine q1 ?_ | refine q2 ?_); conv => whnf) | (with_reducible refine q3 ?_) | ((with_reducible refine q4 (fun _ => ?_) (fun _ => ?_)) <;> first | (exfalso; omega) | (conv => whnf)) | ((with_reducible first | refine q5 ?_ | refine q6 ?_ | refine q7 ?_ | refine q8 ?_ | refine q9 ?_ | refine q10 ?_ | refine q11 ?_ | refine q12 ?_ | refine q13 ?_ | refine q14 ?_ | refine q15 ?_); conv => whnf) | ((refine q16 (fun _ _ _ _ _ => ?_)); conv => whnf) | ((with_reducible first | refine q17 ?_ | refine q18 ?_ | refine q19 ?_ | refine q20 ?_); conv => whnf)))
        refine Hold1.any (fun v hv => hv.cell' rfl) ?_
        ((conv => whnf); repeat' (first | ((with_reducible first | refine q1 ?_ | refine q2 ?_); conv => whnf) | (with_reducible refine q3 ?_) | ((with_reducible refine q4 (fun _ => ?_) (fun _ => ?_)) <;> first | (exfalso; omega) | (conv => whnf)) | ((with_reducible first | refine q5 ?_ | refine q6 ?_ | refine q7 ?_ | refine q8 ?_ | refine q9 ?_ | refine q10 ?_ | refine q11 ?_ | refine q12 ?_ | refine q13 ?_ | refine q14 ?_ | refine q15 ?_); conv => whnf) | ((refine q16 (fun _ _ _ _ _ => ?_)); conv => whnf) | ((with_reducible first | refine q17 ?_ | refine q18 ?_ | refine q19 ?_ | refine q20 ?_); conv => whnf)))
        have hct2 := hd2.ex.cell hct1
        have ho2 := ho1.ex hd2.ex
        refine CallA.mono (Tryz.power1 _ _ _ _ hct2 (by omega) (by omega)) ?_; rintro v w5 ⟨rfl, he5⟩; ((conv => whnf); repeat' (first | ((with_reducible first | refine q1 ?_ | refine q2 ?_); conv => whnf) | (with_reducible refine q3 ?_) | ((with_reducible refine q4 (fun _ => ?_) (fun _ => ?_)) <;> first | (exfalso; omega) | (conv => whnf)) | ((with_reducible first | refine q5 ?_ | refine q6 ?_ | refine q7 ?_ | refine q8 ?_ | refine q9 ?_ | refine q10 ?_ | refine q11 ?_ | refine q12 ?_ | refine q13 ?_ | refine q14 ?_ | refine q15 ?_); conv => whnf) | ((refine q16 (fun _ _ _ _ _ => ?_)); conv => whnf) | ((with_reducible first | refine q17 ?_ | refine q18 ?_ | refine q19 ?_ | refine q20 ?_); conv => whnf)))
        refine Anew.mk (hB2.ex he5) ?_
        ((conv => whnf); repeat' (first | ((with_reducible first | refine q1 ?_ | refine q2 ?_); conv => whnf) | (with_reducible refine q3 ?_) | ((with_reducible refine q4 (fun _ => ?_) (fun _ => ?_)) <;> first | (exfalso; omega) | (conv => whnf)) | ((with_reducible first | refine q5 ?_ | refine q6 ?_ | refine q7 ?_ | refine q8 ?_ | refine q9 ?_ | refine q10 ?_ | refine q11 ?_ | refine q12 ?_ | refine q13 ?_ | refine q14 ?_ | refine q15 ?_); conv => whnf) | ((refine q16 (fun _ _ _ _ _ => ?_)); conv => whnf) | ((with_reducible first | refine q17 ?_ | refine q18 ?_ | refine q19 ?_ | refine q20 ?_); conv => whnf)))
        refine CallA.mono (Tryz.mod _ _ (by omega)) ?_; rintro v w5 ⟨rfl, rfl⟩; ((conv => whnf); repeat' (first | ((with_reducible first | refine q1 ?_ | refine q2 ?_); conv => whnf) | (with_reducible refine q3 ?_) | ((with_reducible refine q4 (fun _ => ?_) (fun _ => ?_)) <;> first | (exfalso; omega) | (conv => whnf)) | ((with_reducible first | refine q5 ?_ | refine q6 ?_ | refine q7 ?_ | refine q8 ?_ | refine q9 ?_ | refine q10 ?_ | refine q11 ?_ | refine q12 ?_ | refine q13 ?_ | refine q14 ?_ | refine q15 ?_); conv => whnf) | ((refine q16 (fun _ _ _ _ _ => ?_)); conv => whnf) | ((with_reducible first | refine q17 ?_ | refine q18 ?_ | refine q19 ?_ | refine q20 ?_); conv => whnf)))
        refine Anew.mk (hB2.ex he5) ?_
        ((conv => whnf); repeat' (first | ((with_reducible first | refine q1 ?_ | refine q2 ?_); conv => whnf) | (with_reducible refine q3 ?_) | ((with_reducible refine q4 (fun _ => ?_) (fun _ => ?_)) <;> first | (exfalso; omega) | (conv => whnf)) | ((with_reducible first | refine q5 ?_ | refine q6 ?_ | refine q7 ?_ | refine q8 ?_ | refine q9 ?_ | refine q10 ?_ | refine q11 ?_ | refine q12 ?_ | refine q13 ?_ | refine q14 ?_ | refine q15 ?_); conv => whnf) | ((refine q16 (fun _ _ _ _ _ => ?_)); conv => whnf) | ((with_reducible first | refine q17 ?_ | refine q18 ?_ | refine q19 ?_ | refine q20 ?_); conv => whnf)))
        refine NewS.mk' fun w6 b6 hb6 hs6 he6 hB6 => ?_
        refine Anew.mk ((hB2.ex he5).ex he6) ?_
        ((conv => whnf); repeat' (first | ((with_reducible first | refine q1 ?_ | refine q2 ?_); conv => whnf) | (with_reducible refine q3 ?_) | ((with_reducible refine q4 (fun _ => ?_) (fun _ => ?_)) <;> first | (exfalso; omega) | (conv => whnf)) | ((with_reducible first | refine q5 ?_ | refine q6 ?_ | refine q7 ?_ | refine q8 ?_ | refine q9 ?_ | refine q10 ?_ | refine q11 ?_ | refine q12 ?_ | refine q13 ?_ | refine q14 ?_ | refine q15 ?_); conv => whnf) | ((refine q16 (fun _ _ _ _ _ => ?_)); conv => whnf) | ((with_reducible first | refine q17 ?_ | refine q18 ?_ | refine q19 ?_ | refine q20 ?_); conv => whnf)))
        have ho6 := (ho2.ex he5).ex he6
        have hlt := World.block_lt_of_cell? _ _ hct1
        have hlt2 := hB1.lt
        have hsz2 := hd2.ex.size
        have hsz5 := he5.size
        refine RunV.append (e := 3) (sz := 1) (by_ := 8) (m := 1) (news := ints [(0 - l[k].2) * powM l[k].1 (i : Int) % 65521]) Tryz.tbOk u.heap.size ho6 hB6.row rfl rfl (ints_one _) (by omega) (by omega) rfl (by decide) (by have := hu1.size; omega) fun w7 b7 c7 ho7 hg7 hb7 => ?_
        have hB7 := ((hB2.ex he5).ex he6).grown hg7 (Ne.symm hne1.1)
        refine Anew.mk hB7 ?_
        ((conv => whnf); repeat' (first | ((with_reducible first | refine q1 ?_ | refine q2 ?_); conv => whnf) | (with_reducible refine q3 ?_) | ((with_reducible refine q4 (fun _ => ?_) (fun _ => ?_)) <;> first | (exfalso; omega) | (conv => whnf)) | ((with_reducible first | refine q5 ?_ | refine q6 ?_ | refine q7 ?_ | refine q8 ?_ | refine q9 ?_ | refine q10 ?_ | refine q11 ?_ | refine q12 ?_ | refine q13 ?_ | refine q14 ?_ | refine q15 ?_); conv => whnf) | ((refine q16 (fun _ _ _ _ _ => ?_)); conv => whnf) | ((with_reducible first | refine q17 ?_ | refine q18 ?_ | refine q19 ?_ | refine q20 ?_); conv => whnf)))
        rw [← ints_append, List.append_assoc, ← negsM_succ] at ho7
        refine ⟨(i + 1, b7, c7), rfl, ⟨by omega, ho7, (((hu1.tr hd2.ex).tr he5).tr he6).grow hg7 fun b hb => (ho6.blk_ge b hb).1, hB7, ?_, ?_⟩, by simp only []; omega⟩
        · rw [World.cell?_of_block (hg7.block bt (World.block_lt_of_cell? _ _ ((he5.tr he6).cell hct2)) (Ne.symm hne1.2))]
          exact (he5.tr he6).cell hct2
        · simp at hlt
          rcases hb7 with h | h
          · rw [h]; exact hne1
          · rw [h]; constructor <;> (simp; omega)
      · obtain rfl : i = few := by omega
        ((conv => whnf); repeat' (first | ((with_reducible first | refine q1 ?_ | refine q2 ?_); conv => whnf) | (with_reducible refine q3 ?_) | ((with_reducible refine q4 (fun _ => ?_) (fun _ => ?_)) <;> first | (exfalso; omega) | (conv => whnf)) | ((with_reducible first | refine q5 ?_ | refine q6 ?_ | refine q7 ?_ | refine q8 ?_ | refine q9 ?_ | refine q10 ?_ | refine q11 ?_ | refine q12 ?_ | refine q13 ?_ | refine q14 ?_ | refine q15 ?_); conv => whnf) | ((refine q16 (fun _ _ _ _ _ => ?_)); conv => whnf) | ((with_reducible first | refine q17 ?_ | refine q18 ?_ | refine q19 ?_ | refine q20 ?_); conv => whnf)))
        refine draw_rule Tryz.tbOk Tryz.mix (fun u2 => Blk u2 bp (dotC l[k]) 70) (.take 0 (.take 1 (.take 2 (.take 3 (.take 4 (.take 5 (.one 6 (.take 7 (.one 8 (.one 9 (.one 10 (.one 11 (.one 12 (.take 13 (.done))))))))))))))) (by kernel_rfl) (by kernel_rfl) ?_
        intro u2 hd2
        have hB2 := hB1.ex hd2.ex
        have hpw := powM_range l[k].1 (i : Int)
        have hmul := mul_word (a := l[k].2) (b := powM l[k].1 (i : Int)) (by omega) (by omega)
        refine ⟨hB2, ?_⟩
        ((conv => whnf); repeat' (first | ((with_reducible first | refine q1 ?_ | refine q2 ?_); conv => whnf) | (with_reducible refine q3 ?_) | ((with_reducible refine q4 (fun _ => ?_) (fun _ => ?_)) <;> first | (exfalso; omega) | (conv => whnf)) | ((with_reducible first | refine q5 ?_ | refine q6 ?_ | refine q7 ?_ | refine q8 ?_ | refine q9 ?_ | refine q10 ?_ | refine q11 ?_ | refine q12 ?_ | refine q13 ?_ | refine q14 ?_ | refine q15 ?_); conv => whnf) | ((refine q16 (fun _ _ _ _ _ => ?_)); conv => whnf) | ((with_reducible first | refine q17 ?_ | refine q18 ?_ | refine q19 ?_ | refine q20 ?_); conv => whnf)))
        refine Hold1.any (fun v hv => hv.cell' rfl) ?_
        ((conv => whnf); repeat' (first | ((with_reducible first | refine q1 ?_ | refine q2 ?_); conv => whnf) | (with_reducible refine q3 ?_) | ((with_reducible refine q4 (fun _ => ?_) (fun _ => ?_)) <;> first | (exfalso; omega) | (conv => whnf)) | ((with_reducible first | refine q5 ?_ | refine q6 ?_ | refine q7 ?_ | refine q8 ?_ | refine q9 ?_ | refine q10 ?_ | refine q11 ?_ | refine q12 ?_ | refine q13 ?_ | refine q14 ?_ | refine q15 ?_); conv => whnf) | ((refine q16 (fun _ _ _ _ _ => ?_)); conv => whnf) | ((with_reducible first | refine q17 ?_ | refine q18 ?_ | refine q19 ?_ | refine q20 ?_); conv => whnf)))
        have hct2 := hd2.ex.cell hct1
        have ho2 := ho1.ex hd2.ex
        refine CallA.mono (Tryz.power1 _ _ _ _ hct2 (by omega) (by omega)) ?_; rintro v w5 ⟨rfl, he5⟩; ((conv => whnf); repeat' (first | ((with_reducible first | refine q1 ?_ | refine q2 ?_); conv => whnf) | (with_reducible refine q3 ?_) | ((with_reducible refine q4 (fun _ => ?_) (fun _ => ?_)) <;> first | (exfalso; omega) | (conv => whnf)) | ((with_reducible first | refine q5 ?_ | refine q6 ?_ | refine q7 ?_ | refine q8 ?_ | refine q9 ?_ | refine q10 ?_ | refine q11 ?_ | refine q12 ?_ | refine q13 ?_ | refine q14 ?_ | refine q15 ?_); conv => whnf) | ((refine q16 (fun _ _ _ _ _ => ?_)); conv => whnf) | ((with_reducible first | refine q17 ?_ | refine q18 ?_ | refine q19 ?_ | refine q20 ?_); conv => whnf)))
        refine Anew.mk (hB2.ex he5) ?_
        ((conv => whnf); repeat' (first | ((with_reducible first | refine q1 ?_ | refine q2 ?_); conv => whnf) | (with_reducible refine q3 ?_) | ((with_reducible refine q4 (fun _ => ?_) (fun _ => ?_)) <;> first | (exfalso; omega) | (conv => whnf)) | ((with_reducible first | refine q5 ?_ | refine q6 ?_ | refine q7 ?_ | refine q8 ?_ | refine q9 ?_ | refine q10 ?_ | refine q11 ?_ | refine q12 ?_ | refine q13 ?_ | refine q14 ?_ | refine q15 ?_); conv => whnf) | ((refine q16 (fun _ _ _ _ _ => ?_)); conv => whnf) | ((with_reducible first | refine q17 ?_ | refine q18 ?_ | refine q19 ?_ | refine q20 ?_); conv => whnf)))
        refine CallA.mono (Tryz.mod _ _ (by omega)) ?_; rintro v w5 ⟨rfl, rfl⟩; ((conv => whnf); repeat' (first | ((with_reducible first | refine q1 ?_ | refine q2 ?_); conv => whnf) | (with_reducible refine q3 ?_) | ((with_reducible refine q4 (fun _ => ?_) (fun _ => ?_)) <;> first | (exfalso; omega) | (conv => whnf)) | ((with_reducible first | refine q5 ?_ | refine q6 ?_ | refine q7 ?_ | refine q8 ?_ | refine q9 ?_ | refine q10 ?_ | refine q11 ?_ | refine q12 ?_ | refine q13 ?_ | refine q14 ?_ | refine q15 ?_); conv => whnf) | ((refine q16 (fun _ _ _ _ _ => ?_)); conv => whnf) | ((with_reducible first | refine q17 ?_ | refine q18 ?_ | refine q19 ?_ | refine q20 ?_); conv => whnf)))
        refine Anew.mk (hB2.ex he5) ?_
        ((conv => whnf); repeat' (first | ((with_reducible first | refine q1 ?_ | refine q2 ?_); conv => whnf) | (with_reducible refine q3 ?_) | ((with_reducible refine q4 (fun _ => ?_) (fun _ => ?_)) <;> first | (exfalso; omega) | (conv => whnf)) | ((with_reducible first | refine q5 ?_ | refine q6 ?_ | refine q7 ?_ | refine q8 ?_ | refine q9 ?_ | refine q10 ?_ | refine q11 ?_ | refine q12 ?_ | refine q13 ?_ | refine q14 ?_ | refine q15 ?_); conv => whnf) | ((refine q16 (fun _ _ _ _ _ => ?_)); conv => whnf) | ((with_reducible first | refine q17 ?_ | refine q18 ?_ | refine q19 ?_ | refine q20 ?_); conv => whnf)))
        refine NewS.mk' fun w6 b6 hb6 hs6 he6 hB6 => ?_
        refine Anew.mk ((hB2.ex he5).ex he6) ?_
        ((conv => whnf); repeat' (first | ((with_reducible first | refine q1 ?_ | refine q2 ?_); conv => whnf) | (with_reducible refine q3 ?_) | ((with_reducible refine q4 (fun _ => ?_) (fun _ => ?_)) <;> first | (exfalso; omega) | (conv => whnf)) | ((with_reducible first | refine q5 ?_ | refine q6 ?_ | refine q7 ?_ | refine q8 ?_ | refine q9 ?_ | refine q10 ?_ | refine q11 ?_ | refine q12 ?_ | refine q13 ?_ | refine q14 ?_ | refine q15 ?_); conv => whnf) | ((refine q16 (fun _ _ _ _ _ => ?_)); conv => whnf) | ((with_reducible first | refine q17 ?_ | refine q18 ?_ | refine q19 ?_ | refine q20 ?_); conv => whnf)))
        have ho6 := (ho2.ex he5).ex he6
        have hlt := World.block_lt_of_cell? _ _ hct1
        have hlt2 := hB1.lt
        have hsz2 := hd2.ex.size
        have hsz5 := he5.size
        have hu6 := ((hu1.tr hd2.ex).tr he5).tr he6
        refine RunV.append (e := 3) (sz := 1) (by_ := 8) (m := 1) (news := ints [l[k].2 * powM l[k].1 (i : Int) % 65521]) Tryz.tbOk u.heap.size ho6 hB6.row rfl rfl (ints_one _) (by omega) (by omega) rfl (by decide) (by have := hu1.size; omega) fun w7 b7 c7 ho7 hg7 hb7 => ?_
        have hB7 := ((hB2.ex he5).ex he6).grown hg7 (Ne.symm hne1.1)
        have hu7 := hu6.grow hg7 fun b hb => (ho6.blk_ge b hb).1
        rw [← ints_append] at ho7
        refine Anew.mk hB7 ?_
        ((conv => whnf); repeat' (first | ((with_reducible first | refine q1 ?_ | refine q2 ?_); conv => whnf) | (with_reducible refine q3 ?_) | ((with_reducible refine q4 (fun _ => ?_) (fun _ => ?_)) <;> first | (exfalso; omega) | (conv => whnf)) | ((with_reducible first | refine q5 ?_ | refine q6 ?_ | refine q7 ?_ | refine q8 ?_ | refine q9 ?_ | refine q10 ?_ | refine q11 ?_ | refine q12 ?_ | refine q13 ?_ | refine q14 ?_ | refine q15 ?_); conv => whnf) | ((refine q16 (fun _ _ _ _ _ => ?_)); conv => whnf) | ((with_reducible first | refine q17 ?_ | refine q18 ?_ | refine q19 ?_ | refine q20 ?_); conv => whnf)))
        refine NewS.mk' fun w8 b8 hb8 hs8 he8 hB8 => ?_
        refine Anew.mk (hB7.ex he8) ?_
        have hu8 := hu7.tr he8
        have hO8 := hO.ex hu8
        have ho8 := ho7.ex he8
        ((conv => whnf); repeat' (first | ((with_reducible first | refine q1 ?_ | refine q2 ?_); conv => whnf) | (with_reducible refine q3 ?_) | ((with_reducible refine q4 (fun _ => ?_) (fun _ => ?_)) <;> first | (exfalso; omega) | (conv => whnf)) | ((with_reducible first | refine q5 ?_ | refine q6 ?_ | refine q7 ?_ | refine q8 ?_ | refine q9 ?_ | refine q10 ?_ | refine q11 ?_ | refine q12 ?_ | refine q13 ?_ | refine q14 ?_ | refine q15 ?_); conv => whnf) | ((refine q16 (fun _ _ _ _ _ => ?_)); conv => whnf) | ((with_reducible first | refine q17 ?_ | refine q18 ?_ | refine q19 ?_ | refine q20 ?_); conv => whnf)))
        have hrl : many + i + i + 1 = (eqnM many i l[k]).length := by simp [eqnM]; omega
        obtain ⟨s8, hs8v⟩ : ∃ s : Sl, s = ⟨b7, c7, eqnM many i l[k]⟩ := ⟨_, rfl⟩
        have hB8' : Blk w8 b8 (slC s8) 57 := by rw [hs8v]; simp only [slC, Sl.val]; rw [← hrl]; exact hB8
        refine RunV.append (e := 57) (sz := 1) (by_ := 24) (m := 1) (news := slC s8) Tryz.tbOk w.heap.size hO8.row hB8'.row rfl rfl (by rw [hs8v]; exact all_one rfl) (by omega) (by omega) rfl (by decide) (by have := hu8.size; omega) fun w9 b9 c9 ho9 hg9 hb9 => ?_
        have hbu : ∀ x, blkOf b = some x → x < u.heap.size := fun x hx => (hO.row.blk_ge x hx).2
        have h7u : ∀ x, blkOf b7 = some x → u.heap.size ≤ x := fun x hx => (ho8.blk_ge x hx).1
        have hB9 : Blk w9 bp (dotC l[k]) 70 := (hB7.ex he8).grown hg9 (by intro e; have := hbu _ e.symm; omega)
        have hu9 : Ex w w9 := (he.tr hu8).grow hg9 fun x hx => (hO.row.blk_ge x hx).1
        refine Anew.mk hB9 ?_
        ((conv => whnf); repeat' (first | ((with_reducible first | refine q1 ?_ | refine q2 ?_); conv => whnf) | (with_reducible refine q3 ?_) | ((with_reducible refine q4 (fun _ => ?_) (fun _ => ?_)) <;> first | (exfalso; omega) | (conv => whnf)) | ((with_reducible first | refine q5 ?_ | refine q6 ?_ | refine q7 ?_ | refine q8 ?_ | refine q9 ?_ | refine q10 ?_ | refine q11 ?_ | refine q12 ?_ | refine q13 ?_ | refine q14 ?_ | refine q15 ?_); conv => whnf) | ((refine q16 (fun _ _ _ _ _ => ?_)); conv => whnf) | ((with_reducible first | refine q17 ?_ | refine q18 ?_ | refine q19 ?_ | refine q20 ?_); conv => whnf)))
        have hs8l : s8.xs.length = many + i + i + 1 := by rw [hs8v, hrl]
        have hown8 : Own w8 w.heap.size 3 1 s8.base s8.xs.length s8.cap (ints s8.xs) := by
          rw [hs8l, hs8v]; exact ho8.mono hNu
        have hpush := hO8.push s8 hown8 (by
          cases h : b7 with
          | none => left; rw [hs8v, h]
          | some a =>
            right; rw [hs8v]; intro e
            have h1 : blkOf b7 = some a.block := by rw [h]; rfl
            have h2 := h7u _ h1
            have h3 := hbu _ (e.symm.trans h1); omega) (fun j hj => by
          cases h : ss[j].base with
          | none => exact .inl rfl
          | some a =>
            right; rw [hs8v]; intro e
            have h1 := ((hO.each j hj).at_ h).2
            have h2 := h7u a.block e.symm; omega) hg9 ho9 hb9
        refine ⟨(k + 1, b9, c9, ss ++ [s8]), ?_, ⟨by omega, hpush, ?_, hu9⟩, by simp only []; omega⟩
        · simp only [List.length_append, List.length_cons, List.length_nil]; rfl
        · rw [List.take_succ_eq_append_getElem hkl, List.map_append, ← hR]
          simp [rowsOf, hs8v]
  · obtain rfl : k = l.length := by omega
    rw [List.take_length] at hR
    obtain ⟨g, rfl, hgN, hgs⟩ := hO.row.some_ (by omega)
    have hRW : RowsW (many + 2 * few + 1) (rowsOf ss) := by
      rw [hR]; intro r hr'
      obtain ⟨p, _, rfl⟩ := List.mem_map.1 hr'
      exact eqnM_ok many few p
    have e2 : (many : Int) + 2 * few = ((many + 2 * few : Nat) : Int) := by omega
    ((conv => whnf); repeat' (first | ((with_reducible first | refine q1 ?_ | refine q2 ?_); conv => whnf) | (with_reducible refine q3 ?_) | ((with_reducible refine q4 (fun _ => ?_) (fun _ => ?_)) <;> first | (exfalso; omega) | (conv => whnf)) | ((with_reducible first | refine q5 ?_ | refine q6 ?_ | refine q7 ?_ | refine q8 ?_ | refine q9 ?_ | refine q10 ?_ | refine q11 ?_ | refine q12 ?_ | refine q13 ?_ | refine q14 ?_ | refine q15 ?_); conv => whnf) | ((refine q16 (fun _ _ _ _ _ => ?_)); conv => whnf) | ((with_reducible first | refine q17 ?_ | refine q18 ?_ | refine q19 ?_ | refine q20 ?_); conv => whnf)))
    rw [e2]
    refine CallA.mono (Tryz.solve g c w.heap.size (many + 2 * few) ss u hO he.size hRW (by omega) (by omega)) ?_
    rintro v w1 ⟨hBe1, hv⟩
    have he1 : Ex w w1 := Below.trans he hBe1
    rw [hR] at hv
    unfold decodedM
    cases hS : solveM (l.map (eqnM many few)) (many + 2 * few) with
    | none =>
      rw [hS] at hv
      simp only [] at hv
      subst hv
      ((conv => whnf); repeat' (first | ((with_reducible first | refine q1 ?_ | refine q2 ?_); conv => whnf) | (with_reducible refine q3 ?_) | ((with_reducible refine q4 (fun _ => ?_) (fun _ => ?_)) <;> first | (exfalso; omega) | (conv => whnf)) | ((with_reducible first | refine q5 ?_ | refine q6 ?_ | refine q7 ?_ | refine q8 ?_ | refine q9 ?_ | refine q10 ?_ | refine q11 ?_ | refine q12 ?_ | refine q13 ?_ | refine q14 ?_ | refine q15 ?_); conv => whnf) | ((refine q16 (fun _ _ _ _ _ => ?_)); conv => whnf) | ((with_reducible first | refine q17 ?_ | refine q18 ?_ | refine q19 ?_ | refine q20 ?_); conv => whnf)))
      exact ⟨he1, _, rfl⟩
    | some x =>
      rw [hS] at hv
      simp only [] at hv
      obtain ⟨bx, cx, rfl, hox⟩ := hv
      obtain ⟨hxl, hxw⟩ := solveM_ok (k := many + 2 * few + 1) (by rw [← hR]; exact hRW) hS
      ((conv => whnf); repeat' (first | ((with_reducible first | refine q1 ?_ | refine q2 ?_); conv => whnf) | (with_reducible refine q3 ?_) | ((with_reducible refine q4 (fun _ => ?_) (fun _ => ?_)) <;> first | (exfalso; omega) | (conv => whnf)) | ((with_reducible first | refine q5 ?_ | refine q6 ?_ | refine q7 ?_ | refine q8 ?_ | refine q9 ?_ | refine q10 ?_ | refine q11 ?_ | refine q12 ?_ | refine q13 ?_ | refine q14 ?_ | refine q15 ?_); conv => whnf) | ((refine q16 (fun _ _ _ _ _ => ?_)); conv => whnf) | ((with_reducible first | refine q17 ?_ | refine q18 ?_ | refine q19 ?_ | refine q20 ?_); conv => whnf)))
      obtain ⟨bx, rfl, hbxN, hbxs⟩ := hox.some_ (by omega)
      have hcx := hox.le
      have e3 : (many : Int) + few = ((many + few : Nat) : Int) := by omega
      refine draw_rule Tryz.tbOk Tryz.mix (fun _ => True) (.take 0 (.take 1 (.take 2 (.take 3 (.take 4 (.take 5 (.take 6 (.take 7 (.take 8 (.take 9 (.take 10 (.take 11 (.take 12 (.two 13 (.one 14 (.one 15 (.one 16 (.take 17 (.take 18 (.take 19 (.take 20 (.take 21 (.done))))))))) 14 (.one 13 (.one 15 (.one 16 (.take 17 (.take 18 (.take 19 (.take 20 (.take 21 (.done))))))))))))))))))))))) (by kernel_rfl) (by kernel_rfl) ?_
      intro u2 hd2
      refine ⟨trivial, ?_⟩
      have hox2 := hox.ex hd2.ex
      have hrow2 := hox2.row
      have hrA := hrow2.sub (l := 0) (hh := many + few) (m := many + few) (sz := 1) (by omega) (by omega)
      have hrB := hrow2.sub (l := many + few) (hh := x.length) (m := cx) (sz := 1) (by omega) (by omega)
      rw [Nat.zero_mul, List.drop_zero, Nat.mul_one, Nat.sub_zero, ints_take] at hrA
      rw [Nat.mul_one, Nat.mul_one, ints_drop, List.take_of_length_le (by simp)] at hrB
      have hlA : (x.take (many + few)).length = many + few := by simp; omega
      have hlB : (x.drop (many + few)).length = x.length - (many + few) := by simp
      ((conv => whnf); repeat' (first | ((with_reducible first | refine q1 ?_ | refine q2 ?_); conv => whnf) | (with_reducible refine q3 ?_) | ((with_reducible refine q4 (fun _ => ?_) (fun _ => ?_)) <;> first | (exfalso; omega) | (conv => whnf)) | ((with_reducible first | refine q5 ?_ | refine q6 ?_ | refine q7 ?_ | refine q8 ?_ | refine q9 ?_ | refine q10 ?_ | refine q11 ?_ | refine q12 ?_ | refine q13 ?_ | refine q14 ?_ | refine q15 ?_); conv => whnf) | ((refine q16 (fun _ _ _ _ _ => ?_)); conv => whnf) | ((with_reducible first | refine q17 ?_ | refine q18 ?_ | refine q19 ?_ | refine q20 ?_); conv => whnf)))
      refine HoldV.slice (e := 3) (sz := 1) (by_ := 8) (z := some (.int .i64 0)) Tryz.tbOk rfl 0 (many + few) (many + few) (.inr ⟨rfl, rfl⟩) (.inl rfl) (.inl rfl) (fun h => by cases h) (by omega) (by omega) (by omega) ?_
      ((conv => whnf); repeat' (first | ((with_reducible first | refine q1 ?_ | refine q2 ?_); conv => whnf) | (with_reducible refine q3 ?_) | ((with_reducible refine q4 (fun _ => ?_) (fun _ => ?_)) <;> first | (exfalso; omega) | (conv => whnf)) | ((with_reducible first | refine q5 ?_ | refine q6 ?_ | refine q7 ?_ | refine q8 ?_ | refine q9 ?_ | refine q10 ?_ | refine q11 ?_ | refine q12 ?_ | refine q13 ?_ | refine q14 ?_ | refine q15 ?_); conv => whnf) | ((refine q16 (fun _ _ _ _ _ => ?_)); conv => whnf) | ((with_reducible first | refine q17 ?_ | refine q18 ?_ | refine q19 ?_ | refine q20 ?_); conv => whnf)))
      refine HoldV.slice (e := 3) (sz := 1) (by_ := 8) (z := some (.int .i64 0)) Tryz.tbOk rfl (many + few) x.length cx (.inl rfl) (.inr ⟨rfl, rfl⟩) (.inr ⟨rfl, rfl⟩) (fun _ => rfl) (by omega) (by omega) (by omega) ?_
      have hcl : ∀ w, Ex u2 w → CallA Tryz.prog 81 [.slice (baseAt (some ⟨bx, 0, none⟩) (many + few) cx 1) (x.length - (many + few)) (cx - (many + few))] w (RetI w (x.drop (many + few))) := by
        intro w hw
        have := Tryz.cloneInts (baseAt (some ⟨bx, 0, none⟩) (many + few) cx 1) (cx - (many + few)) (x.drop (many + few)) w (hrB.ex hw) (by omega)
        rwa [hlB] at this
      have hov : ∀ (w : World) (b : Option Addr) (cb : Nat), Ex u2 w → Row w b (ints (x.drop (many + few) ++ [1])) → CallA Tryz.prog 143 [.slice (baseAt (some ⟨bx, 0, none⟩) 0 (many + few) 1) (many + few - 0) (many + few - 0), .slice b ((x.drop (many + few)).length + 1) cb] w fun v w' =>
          ∃ b c, v = .tuple #[.slice b (overM (x.take (many + few)) (x.drop (many + few) ++ [1])).1.length c, .bool (overM (x.take (many + few)) (x.drop (many + few) ++ [1])).2] ∧ Own w' w.heap.size 3 1 b (overM (x.take (many + few)) (x.drop (many + few) ++ [1])).1.length c (ints (overM (x.take (many + few)) (x.drop (many + few) ++ [1])).1) ∧ Ex w w' := by
        intro w b cb hw hrb
        have := Tryz.over (baseAt (some ⟨bx, 0, none⟩) 0 (many + few) 1) b (many + few - 0) cb (x.take (many + few)) (x.drop (many + few) ++ [1]) w (hrA.ex hw) hrb (isW_take hxw _) (isW_append (isW_drop hxw _) (by intro n hn; rw [List.mem_singleton] at hn; subst hn; decide)) (by omega) (by simp; omega)
        rw [hlA] at this
        simp only [List.length_append, List.length_cons, List.length_nil, Nat.zero_add] at this
        exact this
      ((conv => whnf); repeat' (first | ((with_reducible first | refine q1 ?_ | refine q2 ?_); conv => whnf) | (with_reducible refine q3 ?_) | ((with_reducible refine q4 (fun _ => ?_) (fun _ => ?_)) <;> first | (exfalso; omega) | (conv => whnf)) | ((with_reducible first | refine q5 ?_ | refine q6 ?_ | refine q7 ?_ | refine q8 ?_ | refine q9 ?_ | refine q10 ?_ | refine q11 ?_ | refine q12 ?_ | refine q13 ?_ | refine q14 ?_ | refine q15 ?_); conv => whnf) | ((refine q16 (fun _ _ _ _ _ => ?_)); conv => whnf) | ((with_reducible first | refine q17 ?_ | refine q18 ?_ | refine q19 ?_ | refine q20 ?_); conv => whnf)))
      refine And2.mk ?_ ?_
      · ((conv => whnf); repeat' (first | ((with_reducible first | refine q1 ?_ | refine q2 ?_); conv => whnf) | (with_reducible refine q3 ?_) | ((with_reducible refine q4 (fun _ => ?_) (fun _ => ?_)) <;> first | (exfalso; omega) | (conv => whnf)) | ((with_reducible first | refine q5 ?_ | refine q6 ?_ | refine q7 ?_ | refine q8 ?_ | refine q9 ?_ | refine q10 ?_ | refine q11 ?_ | refine q12 ?_ | refine q13 ?_ | refine q14 ?_ | refine q15 ?_); conv => whnf) | ((refine q16 (fun _ _ _ _ _ => ?_)); conv => whnf) | ((with_reducible first | refine q17 ?_ | refine q18 ?_ | refine q19 ?_ | refine q20 ?_); conv => whnf)))
        refine CallA.mono (hcl u2 (Ex.refl _)) ?_
        rintro v w3 ⟨b3, c3, rfl, ho3, he3⟩
        refine Anew.mk trivial ?_
        ((conv => whnf); repeat' (first | ((with_reducible first | refine q1 ?_ | refine q2 ?_); conv => whnf) | (with_reducible refine q3 ?_) | ((with_reducible refine q4 (fun _ => ?_) (fun _ => ?_)) <;> first | (exfalso; omega) | (conv => whnf)) | ((with_reducible first | refine q5 ?_ | refine q6 ?_ | refine q7 ?_ | refine q8 ?_ | refine q9 ?_ | refine q10 ?_ | refine q11 ?_ | refine q12 ?_ | refine q13 ?_ | refine q14 ?_ | refine q15 ?_); conv => whnf) | ((refine q16 (fun _ _ _ _ _ => ?_)); conv => whnf) | ((with_reducible first | refine q17 ?_ | refine q18 ?_ | refine q19 ?_ | refine q20 ?_); conv => whnf)))
        refine NewS.mk' fun w4 b4 hb4 hs4 he4 hB1 => ?_
        refine Anew.mk trivial ?_
        ((conv => whnf); repeat' (first | ((with_reducible first | refine q1 ?_ | refine q2 ?_); conv => whnf) | (with_reducible refine q3 ?_) | ((with_reducible refine q4 (fun _ => ?_) (fun _ => ?_)) <;> first | (exfalso; omega) | (conv => whnf)) | ((with_reducible first | refine q5 ?_ | refine q6 ?_ | refine q7 ?_ | refine q8 ?_ | refine q9 ?_ | refine q10 ?_ | refine q11 ?_ | refine q12 ?_ | refine q13 ?_ | refine q14 ?_ | refine q15 ?_); conv => whnf) | ((refine q16 (fun _ _ _ _ _ => ?_)); conv => whnf) | ((with_reducible first | refine q17 ?_ | refine q18 ?_ | refine q19 ?_ | refine q20 ?_); conv => whnf)))
        have hoc := ho3.ex he4
        have hex4 := he3.tr he4
        have hn1 : x.length - (many + few) + 1 ≤ 1000000 := by omega
        refine RunV.append (e := 3) (sz := 1) (by_ := 8) (m := 1) (news := ints [1]) Tryz.tbOk u2.heap.size hoc hB1.row rfl rfl (ints_one _) (by omega) (by omega) rfl (by decide) (by have := hex4.size; omega) fun w5 b5 c5 ho5 hg5 hb5 => ?_
        rw [← ints_append] at ho5
        have hex5 : Ex u2 w5 := hex4.grow hg5 fun b hb => (hoc.blk_ge b hb).1
        refine Anew.mk trivial ?_
        ((conv => whnf); repeat' (first | ((with_reducible first | refine q1 ?_ | refine q2 ?_); conv => whnf) | (with_reducible refine q3 ?_) | ((with_reducible refine q4 (fun _ => ?_) (fun _ => ?_)) <;> first | (exfalso; omega) | (conv => whnf)) | ((with_reducible first | refine q5 ?_ | refine q6 ?_ | refine q7 ?_ | refine q8 ?_ | refine q9 ?_ | refine q10 ?_ | refine q11 ?_ | refine q12 ?_ | refine q13 ?_ | refine q14 ?_ | refine q15 ?_); conv => whnf) | ((refine q16 (fun _ _ _ _ _ => ?_)); conv => whnf) | ((with_reducible first | refine q17 ?_ | refine q18 ?_ | refine q19 ?_ | refine q20 ?_); conv => whnf)))
        refine CallA.mono (hov w5 b5 c5 hex5 ho5.row) ?_
        rintro v w6 ⟨b6, c6, rfl, ho6, he6⟩
        refine Anew.mk trivial ?_
        ((conv => whnf); repeat' (first | ((with_reducible first | refine q1 ?_ | refine q2 ?_); conv => whnf) | (with_reducible refine q3 ?_) | ((with_reducible refine q4 (fun _ => ?_) (fun _ => ?_)) <;> first | (exfalso; omega) | (conv => whnf)) | ((with_reducible first | refine q5 ?_ | refine q6 ?_ | refine q7 ?_ | refine q8 ?_ | refine q9 ?_ | refine q10 ?_ | refine q11 ?_ | refine q12 ?_ | refine q13 ?_ | refine q14 ?_ | refine q15 ?_); conv => whnf) | ((refine q16 (fun _ _ _ _ _ => ?_)); conv => whnf) | ((with_reducible first | refine q17 ?_ | refine q18 ?_ | refine q19 ?_ | refine q20 ?_); conv => whnf)))
        have hex6 : Ex w w6 := (he1.tr hd2.ex).tr (hex5.tr he6)
        refine ⟨hex6, ?_⟩
        have hsz := hex5.size
        have hsz2 := (he1.tr hd2.ex).size
        simp only []
        cases hok : (overM (x.take (many + few)) (x.drop (many + few) ++ [1])).2 with
        | false => exact ⟨_, rfl⟩
        | true => exact ⟨b6, c6, rfl, ho6.mono (by omega)⟩
      · ((conv => whnf); repeat' (first | ((with_reducible first | refine q1 ?_ | refine q2 ?_); conv => whnf) | (with_reducible refine q3 ?_) | ((with_reducible refine q4 (fun _ => ?_) (fun _ => ?_)) <;> first | (exfalso; omega) | (conv => whnf)) | ((with_reducible first | refine q5 ?_ | refine q6 ?_ | refine q7 ?_ | refine q8 ?_ | refine q9 ?_ | refine q10 ?_ | refine q11 ?_ | refine q12 ?_ | refine q13 ?_ | refine q14 ?_ | refine q15 ?_); conv => whnf) | ((refine q16 (fun _ _ _ _ _ => ?_)); conv => whnf) | ((with_reducible first | refine q17 ?_ | refine q18 ?_ | refine q19 ?_ | refine q20 ?_); conv => whnf)))
        refine NewS.mk' fun w3 b4 hb4 hs4 he3 hB3 => ?_
        refine Anew.mk trivial ?_
        ((conv => whnf); repeat' (first | ((with_reducible first | refine q1 ?_ | refine q2 ?_); conv => whnf) | (with_reducible refine q3 ?_) | ((with_reducible refine q4 (fun _ => ?_) (fun _ => ?_)) <;> first | (exfalso; omega) | (conv => whnf)) | ((with_reducible first | refine q5 ?_ | refine q6 ?_ | refine q7 ?_ | refine q8 ?_ | refine q9 ?_ | refine q10 ?_ | refine q11 ?_ | refine q12 ?_ | refine q13 ?_ | refine q14 ?_ | refine q15 ?_); conv => whnf) | ((refine q16 (fun _ _ _ _ _ => ?_)); conv => whnf) | ((with_reducible first | refine q17 ?_ | refine q18 ?_ | refine q19 ?_ | refine q20 ?_); conv => whnf)))
        refine CallA.mono (hcl w3 he3) ?_
        rintro v w4 ⟨b3, c3, rfl, ho3, he4⟩
        refine Anew.mk trivial ?_
        ((conv => whnf); repeat' (first | ((with_reducible first | refine q1 ?_ | refine q2 ?_); conv => whnf) | (with_reducible refine q3 ?_) | ((with_reducible refine q4 (fun _ => ?_) (fun _ => ?_)) <;> first | (exfalso; omega) | (conv => whnf)) | ((with_reducible first | refine q5 ?_ | refine q6 ?_ | refine q7 ?_ | refine q8 ?_ | refine q9 ?_ | refine q10 ?_ | refine q11 ?_ | refine q12 ?_ | refine q13 ?_ | refine q14 ?_ | refine q15 ?_); conv => whnf) | ((refine q16 (fun _ _ _ _ _ => ?_)); conv => whnf) | ((with_reducible first | refine q17 ?_ | refine q18 ?_ | refine q19 ?_ | refine q20 ?_); conv => whnf)))
        have hoc := ho3.mono (N' := u2.heap.size) he3.size
        have hB1 := hB3.ex he4
        have hex4 := he3.tr he4
        have hn1 : x.length - (many + few) + 1 ≤ 1000000 := by omega
        refine RunV.append (e := 3) (sz := 1) (by_ := 8) (m := 1) (news := ints [1]) Tryz.tbOk u2.heap.size hoc hB1.row rfl rfl (ints_one _) (by omega) (by omega) rfl (by decide) (by have := hex4.size; omega) fun w5 b5 c5 ho5 hg5 hb5 => ?_
        rw [← ints_append] at ho5
        have hex5 : Ex u2 w5 := hex4.grow hg5 fun b hb => (hoc.blk_ge b hb).1
        refine Anew.mk trivial ?_
        ((conv => whnf); repeat' (first | ((with_reducible first | refine q1 ?_ | refine q2 ?_); conv => whnf) | (with_reducible refine q3 ?_) | ((with_reducible refine q4 (fun _ => ?_) (fun _ => ?_)) <;> first | (exfalso; omega) | (conv => whnf)) | ((with_reducible first | refine q5 ?_ | refine q6 ?_ | refine q7 ?_ | refine q8 ?_ | refine q9 ?_ | refine q10 ?_ | refine q11 ?_ | refine q12 ?_ | refine q13 ?_ | refine q14 ?_ | refine q15 ?_); conv => whnf) | ((refine q16 (fun _ _ _ _ _ => ?_)); conv => whnf) | ((with_reducible first | refine q17 ?_ | refine q18 ?_ | refine q19 ?_ | refine q20 ?_); conv => whnf)))
        refine CallA.mono (hov w5 b5 c5 hex5 ho5.row) ?_
        rintro v w6 ⟨b6, c6, rfl, ho6, he6⟩
        refine Anew.mk trivial ?_
        ((conv => whnf); repeat' (first | ((with_reducible first | refine q1 ?_ | refine q2 ?_); conv => whnf) | (with_reducible refine q3 ?_) | ((with_reducible refine q4 (fun _ => ?_) (fun _ => ?_)) <;> first | (exfalso; omega) | (conv => whnf)) | ((with_reducible first | refine q5 ?_ | refine q6 ?_ | refine q7 ?_ | refine q8 ?_ | refine q9 ?_ | refine q10 ?_ | refine q11 ?_ | refine q12 ?_ | refine q13 ?_ | refine q14 ?_ | refine q15 ?_); conv => whnf) | ((refine q16 (fun _ _ _ _ _ => ?_)); conv => whnf) | ((with_reducible first | refine q17 ?_ | refine q18 ?_ | refine q19 ?_ | refine q20 ?_); conv => whnf)))
        have hex6 : Ex w w6 := (he1.tr hd2.ex).tr (hex5.tr he6)
        refine ⟨hex6, ?_⟩
        have hsz := hex5.size
        have hsz2 := (he1.tr hd2.ex).size
        simp only []
        cases hok : (overM (x.take (many + few)) (x.drop (many + few) ++ [1])).2 with
        | false => exact ⟨_, rfl⟩
        | true => exact ⟨b6, c6, rfl, ho6.mono (by omega)⟩
end Go.Proofs
