/-
  L12: a part of the proof. By an AI agent.
-/
import Derived.Test.YtpeihahmhpamoaaGreatVQ
import Derived.Test.YtpeihahmhpamoaaGreatV9
import Derived.Test.YtpeihahmhpamoaaGreatL11
set_option linter.all false
namespace Go.Proofs
open Go.V
open Go.RowKit (Below)
/-! ### lines as data -/
def padM (D W : Nat) (ls : List Line) : List Int := linesW ls ++ List.replicate (D * W - (linesW ls).length) 0
def rowM (W : Nat) (xs : List Int) (k : Nat) : List Int := (xs.drop (k * W)).take W
def writeM (s : Shape) (ls : List Line) : Option (List (List Int)) :=
  if s.data.toNat * s.width.toNat < (linesW ls).length then none
  else some ((List.range s.data.toNat).map (rowM s.width.toNat (padM s.data.toNat s.width.toNat ls)))
/-- rows of numbers that are returned -/
def RetS (w : World) (xss : List (List Int)) (v : Value) (w' : World) : Prop := ∃ b c ss, v = .slice b ss.length c ∧ Sls w' b ss ∧ rowsOf ss = xss ∧ Ex w w'
def FreshS (N : Nat) (b : Option Addr) (ss : List Sl) : Prop := (∀ a, b = some a → N ≤ a.block) ∧ ∀ s ∈ ss, ∀ a, s.base = some a → N ≤ a.block
theorem FreshS.mono {N M : Nat} {b : Option Addr} {ss : List Sl} (h : FreshS N b ss) (k : M ≤ N) : FreshS M b ss := ⟨fun a ha => Nat.le_trans k (h.1 a ha), fun s hs a ha => Nat.le_trans k (h.2 s hs a ha)⟩
/-- the same, in new blocks -/
def RetSF (w : World) (xss : List (List Int)) (v : Value) (w' : World) : Prop := ∃ b c ss, v = .slice b ss.length c ∧ Sls w' b ss ∧ rowsOf ss = xss ∧ Ex w w' ∧ FreshS w.heap.size b ss
theorem RetSF.s {w w' : World} {xss : List (List Int)} {v : Value} (h : RetSF w xss v w') : RetS w xss v w' := by
  obtain ⟨b, c, ss, h1, h2, h3, h4, _⟩ := h; exact ⟨b, c, ss, h1, h2, h3, h4⟩
theorem Tryz.writeF (s : Shape) (base : Option Addr) (cap : Nat) (ls : List Line) (w : World) (hs : shOk s = true) (hr : Row w base (rowC lineC ls)) (hv : ∀ x ∈ ls, validB x = true) (hl : ls.length ≤ 1000000) :
    CallA Tryz.prog 39 [shV s, .slice base ls.length cap] w fun v w' => match writeM s ls with
      | none => v = .tuple #[.slice none 0 0, .bool false] ∧ Ex w w'
      | some rows => ∃ v1, v = .tuple #[v1, .bool true] ∧ RetSF w rows v1 w' := by
  obtain ⟨hs1, hs2, hs3, hs4, hs5, hs6⟩ := shOk_spec hs
  obtain ⟨sd, sc, sw⟩ := s
  simp only [] at hs1 hs2 hs3 hs4 hs5 hs6
  obtain ⟨D, rfl⟩ : ∃ D : Nat, sd = D := ⟨sd.toNat, by omega⟩
  obtain ⟨W, rfl⟩ : ∃ W : Nat, sw = W := ⟨sw.toNat, by omega⟩
  have hDW : (D : Int) * (W : Int) = ((D * W : Nat) : Int) := by simp
  have hDWb : D * W ≤ 640 := Nat.le_trans (Nat.mul_le_mul (show D ≤ 20 by omega) (show W ≤ 32 by omega)) (by decide)
  show CallA Tryz.prog 39 [.agg #[.int .i64 (D : Int), .int .i64 sc, .int .i64 (W : Int)], .slice base ls.length cap] w _
  refine callA_intro Tryz.tbOk Tryz.func39 rfl Tryz.ntmps39 Tryz.results39 (by decide) (by simp) ?_
  ((conv => whnf); repeat' (first | ((with_reducible first | refine q1 ?_ | refine q2 ?_); conv => whnf) | (with_reducible refine q3 ?_) | ((with_reducible refine q4 (fun _ => ?_) (fun _ => ?_)) <;> first | (exfalso; omega) | (conv => whnf)) | ((with_reducible first | refine q5 ?_ | refine q6 ?_ | refine q7 ?_ | refine q8 ?_ | refine q9 ?_ | refine q10 ?_ | refine q11 ?_ | refine q12 ?_ | refine q13 ?_ | refine q14 ?_ | refine q15 ?_); conv => whnf) | ((refine q16 (fun _ _ _ _ _ => ?_)); conv => whnf) | ((with_reducible first | refine q17 ?_ | refine q18 ?_ | refine q19 ?_ | refine q20 ?_); conv => whnf)))
  refine NewA.mk' fun w1 b2 hb2 hs2' he1 hB2 => ?_; ((conv => whnf); repeat' (first | ((with_reducible first | refine q1 ?_ | refine q2 ?_); conv => whnf) | (with_reducible refine q3 ?_) | ((with_reducible refine q4 (fun _ => ?_) (fun _ => ?_)) <;> first | (exfalso; omega) | (conv => whnf)) | ((with_reducible first | refine q5 ?_ | refine q6 ?_ | refine q7 ?_ | refine q8 ?_ | refine q9 ?_ | refine q10 ?_ | refine q11 ?_ | refine q12 ?_ | refine q13 ?_ | refine q14 ?_ | refine q15 ?_); conv => whnf) | ((refine q16 (fun _ _ _ _ _ => ?_)); conv => whnf) | ((with_reducible first | refine q17 ?_ | refine q18 ?_ | refine q19 ?_ | refine q20 ?_); conv => whnf)))
  refine CallA.mono (Tryz.words base cap ls w1 (hr.ex he1) hv hl) ?_
  rintro v w2 ⟨bw, cw, rfl, hOw, he2⟩
  have hB22 := Blk.ex hB2 he2
  have hwl := linesW_length ls
  have hwr : writeM ⟨D, sc, W⟩ ls = if D * W < (linesW ls).length then none else some ((List.range D).map (rowM W (padM D W ls))) := by simp [writeM]
  by_cases hc : D * W < (linesW ls).length
  · rw [hwr, if_pos hc]
    ((conv => whnf); repeat' (first | ((with_reducible first | refine q1 ?_ | refine q2 ?_); conv => whnf) | (with_reducible refine q3 ?_) | ((with_reducible refine q4 (fun _ => ?_) (fun _ => ?_)) <;> first | (exfalso; omega) | (conv => whnf)) | ((with_reducible first | refine q5 ?_ | refine q6 ?_ | refine q7 ?_ | refine q8 ?_ | refine q9 ?_ | refine q10 ?_ | refine q11 ?_ | refine q12 ?_ | refine q13 ?_ | refine q14 ?_ | refine q15 ?_); conv => whnf) | ((refine q16 (fun _ _ _ _ _ => ?_)); conv => whnf) | ((with_reducible first | refine q17 ?_ | refine q18 ?_ | refine q19 ?_ | refine q20 ?_); conv => whnf)))
    exact ⟨rfl, he1.tr he2⟩
  · rw [hwr, if_neg hc]
    ((conv => whnf); repeat' (first | ((with_reducible first | refine q1 ?_ | refine q2 ?_); conv => whnf) | (with_reducible refine q3 ?_) | ((with_reducible refine q4 (fun _ => ?_) (fun _ => ?_)) <;> first | (exfalso; omega) | (conv => whnf)) | ((with_reducible first | refine q5 ?_ | refine q6 ?_ | refine q7 ?_ | refine q8 ?_ | refine q9 ?_ | refine q10 ?_ | refine q11 ?_ | refine q12 ?_ | refine q13 ?_ | refine q14 ?_ | refine q15 ?_); conv => whnf) | ((refine q16 (fun _ _ _ _ _ => ?_)); conv => whnf) | ((with_reducible first | refine q17 ?_ | refine q18 ?_ | refine q19 ?_ | refine q20 ?_); conv => whnf)))
    refine RunV.appendZ (e := 3) (sz := 1) (by_ := 8) Tryz.tbOk w1.heap.size (D * W - (linesW ls).length) hOw rfl rfl rfl (by omega) (by omega) (by omega) rfl (by decide) rfl he2.size fun w3 bp cp hOp hgp hbp => ?_
    have hpad : ints (linesW ls) ++ reps (D * W - (linesW ls).length) (cellsOf (.int .i64 0)) = ints (padM D W ls) := by
      show ints (linesW ls) ++ reps _ [.int .i64 0] = _
      rw [ints_rep, ← ints_append]; rfl
    have hpl : (linesW ls).length + (D * W - (linesW ls).length) = D * W := by omega
    rw [hpad, hpl] at hOp
    have hB23 : Blk w3 b2 [.int .i64 (D : Int), .int .i64 sc, .int .i64 (W : Int)] 23 := by
      have hlt := hB22.lt
      have : Ex w1 w3 := he2.grow hgp (fun b hb => (hOw.blk_ge b hb).1)
      exact Blk.ex hB2 this
    have he3 : Ex w w3 := (he1.tr he2).grow hgp (fun b hb => by have := (hOw.blk_ge b hb).1; have := he1.size; omega)
    rw [hpl]
    ((conv => whnf); repeat' (first | ((with_reducible first | refine q1 ?_ | refine q2 ?_); conv => whnf) | (with_reducible refine q3 ?_) | ((with_reducible refine q4 (fun _ => ?_) (fun _ => ?_)) <;> first | (exfalso; omega) | (conv => whnf)) | ((with_reducible first | refine q5 ?_ | refine q6 ?_ | refine q7 ?_ | refine q8 ?_ | refine q9 ?_ | refine q10 ?_ | refine q11 ?_ | refine q12 ?_ | refine q13 ?_ | refine q14 ?_ | refine q15 ?_); conv => whnf) | ((refine q16 (fun _ _ _ _ _ => ?_)); conv => whnf) | ((with_reducible first | refine q17 ?_ | refine q18 ?_ | refine q19 ?_ | refine q20 ?_); conv => whnf)))
    refine loop_rule Tryz.tbOk (Nat × Option Addr × Nat × Nat × List Sl) [31, 7] (fun | (k, bo, n, co, _) => [.int .i64 (k:Int), .slice bo n co])
      (fun | (k, bo, n, co, ss), w' => k ≤ D ∧ n = k ∧ ss.length = k ∧ Own w' w3.heap.size 57 1 bo n co (rowC slC ss) ∧ (∀ s ∈ ss, slInts w' s ∧ ∀ a, s.base = some a → w3.heap.size ≤ a.block ∧ a.block < w'.heap.size ∧ blkOf bo ≠ some a.block) ∧ rowsOf ss = (List.range k).map (rowM W (padM D W ls)) ∧ Ex w3 w') (fun | (k, _, _, _, _) => D - k)
      (0, none, 0, 0, []) rfl ⟨by omega, rfl, rfl, Own.nil _ _ _ _, by simp, rfl, Ex.refl _⟩ ?_
    rintro ⟨k, bo, n, co, ss⟩ w4 ⟨hk, rfl, hsl, hO, hss, hrows, he4⟩ u
    have hB24 := Blk.ex hB23 he4
    have hrp := (hOp.ex he4).row
    have h1 : (n : Int) * (W : Int) = ((n * W : Nat) : Int) := by simp
    have h2 : ((n : Int) + 1) * (W : Int) = (((n + 1) * W : Nat) : Int) := by simp
    by_cases hlt : n < D
    · have h3 : (n + 1) * W ≤ D * W := Nat.mul_le_mul_right _ (by omega)
      have h4 : n * W + W = (n + 1) * W := by rw [Nat.add_mul, Nat.one_mul]
      have hcp := hOp.le
      ((conv => whnf); repeat' (first | ((with_reducible first | refine q1 ?_ | refine q2 ?_); conv => whnf) | (with_reducible refine q3 ?_) | ((with_reducible refine q4 (fun _ => ?_) (fun _ => ?_)) <;> first | (exfalso; omega) | (conv => whnf)) | ((with_reducible first | refine q5 ?_ | refine q6 ?_ | refine q7 ?_ | refine q8 ?_ | refine q9 ?_ | refine q10 ?_ | refine q11 ?_ | refine q12 ?_ | refine q13 ?_ | refine q14 ?_ | refine q15 ?_); conv => whnf) | ((refine q16 (fun _ _ _ _ _ => ?_)); conv => whnf) | ((with_reducible first | refine q17 ?_ | refine q18 ?_ | refine q19 ?_ | refine q20 ?_); conv => whnf)))
      refine RunV.sliceRow (e := 3) (sz := 1) (by_ := 8) Tryz.tbOk rfl hrp (n * W) ((n + 1) * W) cp W (.inl (by rw [h1])) (.inl (by rw [h2])) (.inr ⟨rfl, rfl⟩) (by simp) h4 (by omega) (by omega) fun bs cs hcs _ hrs => ?_
      rw [Nat.mul_one, Nat.mul_one, ints_drop, ints_take] at hrs
      have hrl : (rowM W (padM D W ls) n).length = W := by
        simp only [rowM, padM, List.length_take, List.length_drop, List.length_append, List.length_replicate]; omega
      ((conv => whnf); repeat' (first | ((with_reducible first | refine q1 ?_ | refine q2 ?_); conv => whnf) | (with_reducible refine q3 ?_) | ((with_reducible refine q4 (fun _ => ?_) (fun _ => ?_)) <;> first | (exfalso; omega) | (conv => whnf)) | ((with_reducible first | refine q5 ?_ | refine q6 ?_ | refine q7 ?_ | refine q8 ?_ | refine q9 ?_ | refine q10 ?_ | refine q11 ?_ | refine q12 ?_ | refine q13 ?_ | refine q14 ?_ | refine q15 ?_); conv => whnf) | ((refine q16 (fun _ _ _ _ _ => ?_)); conv => whnf) | ((with_reducible first | refine q17 ?_ | refine q18 ?_ | refine q19 ?_ | refine q20 ?_); conv => whnf)))
      have hcl := Tryz.cloneInts bs cs (rowM W (padM D W ls) n) w4 hrs (by omega)
      rw [hrl] at hcl
      refine CallA.mono hcl ?_
      rintro v w5 ⟨bc, cc, rfl, hOc, he5⟩
      ((conv => whnf); repeat' (first | ((with_reducible first | refine q1 ?_ | refine q2 ?_); conv => whnf) | (with_reducible refine q3 ?_) | ((with_reducible refine q4 (fun _ => ?_) (fun _ => ?_)) <;> first | (exfalso; omega) | (conv => whnf)) | ((with_reducible first | refine q5 ?_ | refine q6 ?_ | refine q7 ?_ | refine q8 ?_ | refine q9 ?_ | refine q10 ?_ | refine q11 ?_ | refine q12 ?_ | refine q13 ?_ | refine q14 ?_ | refine q15 ?_); conv => whnf) | ((refine q16 (fun _ _ _ _ _ => ?_)); conv => whnf) | ((with_reducible first | refine q17 ?_ | refine q18 ?_ | refine q19 ?_ | refine q20 ?_); conv => whnf)))
      refine NewS.mk' (cs := slC ⟨bc, cc, rowM W (padM D W ls) n⟩) fun w6 b6 hb6 hs6 he6 hB6 => ?_
      ((conv => whnf); repeat' (first | ((with_reducible first | refine q1 ?_ | refine q2 ?_); conv => whnf) | (with_reducible refine q3 ?_) | ((with_reducible refine q4 (fun _ => ?_) (fun _ => ?_)) <;> first | (exfalso; omega) | (conv => whnf)) | ((with_reducible first | refine q5 ?_ | refine q6 ?_ | refine q7 ?_ | refine q8 ?_ | refine q9 ?_ | refine q10 ?_ | refine q11 ?_ | refine q12 ?_ | refine q13 ?_ | refine q14 ?_ | refine q15 ?_); conv => whnf) | ((refine q16 (fun _ _ _ _ _ => ?_)); conv => whnf) | ((with_reducible first | refine q17 ?_ | refine q18 ?_ | refine q19 ?_ | refine q20 ?_); conv => whnf)))
      have he56 := he5.tr he6
      refine RunV.append (e := 57) (sz := 1) (by_ := 24) (m := 1) (news := slC ⟨bc, cc, rowM W (padM D W ls) n⟩) Tryz.tbOk w3.heap.size (hO.ex he56) hB6.row rfl rfl (all_one rfl) (by omega) (by omega) rfl (by decide) (by have := he4.size; have := he56.size; omega) fun w7 b7 c7 ho7 hg7 hb7 => ?_
      ((conv => whnf); repeat' (first | ((with_reducible first | refine q1 ?_ | refine q2 ?_); conv => whnf) | (with_reducible refine q3 ?_) | ((with_reducible refine q4 (fun _ => ?_) (fun _ => ?_)) <;> first | (exfalso; omega) | (conv => whnf)) | ((with_reducible first | refine q5 ?_ | refine q6 ?_ | refine q7 ?_ | refine q8 ?_ | refine q9 ?_ | refine q10 ?_ | refine q11 ?_ | refine q12 ?_ | refine q13 ?_ | refine q14 ?_ | refine q15 ?_); conv => whnf) | ((refine q16 (fun _ _ _ _ _ => ?_)); conv => whnf) | ((with_reducible first | refine q17 ?_ | refine q18 ?_ | refine q19 ?_ | refine q20 ?_); conv => whnf)))
      refine ⟨(n + 1, b7, n + 1, c7, ss ++ [⟨bc, cc, rowM W (padM D W ls) n⟩]), rfl, ⟨by omega, rfl, by simp [hsl], ?_, ?_, ?_, (he4.tr he56).grow hg7 (fun b hb => (hO.blk_ge b hb).1)⟩, by simp only []; omega⟩
      · rw [rowC_append]; exact ho7
      · intro s hs
        rcases List.mem_append.1 hs with hs | hs
        · obtain ⟨h5, h6⟩ := hss s hs
          have hz56 := he56.size
          refine ⟨(h5.ex he56).grown hg7 (fun a ha => fun e => (h6 a ha).2.2 e.symm), fun a ha => ⟨(h6 a ha).1, by have := (h6 a ha).2.1; have := hg7.size; omega, ?_⟩⟩
          rcases hb7 with h7 | h7
          · rw [h7]; exact (h6 a ha).2.2
          · rw [h7]; have := (h6 a ha).2.1; intro e; simp at e; omega
        · rw [List.mem_singleton] at hs
          subst hs
          have hz6 := hs6
          have hne : ∀ a, bc = some a → blkOf bo ≠ some a.block := fun a ha e => by
            have h7 := (hO.blk_ge _ e).2
            have h8 := (hOc.at_ ha).1
            omega
          refine ⟨⟨(hOc.row.ex he6).grown hg7 (fun a ha => fun e => hne a ha e.symm), by simp only []; omega⟩, fun a ha => ⟨by have := (hOc.at_ ha).1; have := he4.size; simp only [] at ha; omega, by have := (hOc.at_ ha).2; have := hg7.size; simp only [] at ha; omega, ?_⟩⟩
          rcases hb7 with h7 | h7
          · rw [h7]; exact hne a ha
          · rw [h7]; have := (hOc.at_ ha).2; intro e; simp at e; omega
      · rw [List.range_succ, List.map_append, ← hrows]; simp [rowsOf]
    · have : n = D := by omega
      subst this
      ((conv => whnf); repeat' (first | ((with_reducible first | refine q1 ?_ | refine q2 ?_); conv => whnf) | (with_reducible refine q3 ?_) | ((with_reducible refine q4 (fun _ => ?_) (fun _ => ?_)) <;> first | (exfalso; omega) | (conv => whnf)) | ((with_reducible first | refine q5 ?_ | refine q6 ?_ | refine q7 ?_ | refine q8 ?_ | refine q9 ?_ | refine q10 ?_ | refine q11 ?_ | refine q12 ?_ | refine q13 ?_ | refine q14 ?_ | refine q15 ?_); conv => whnf) | ((refine q16 (fun _ _ _ _ _ => ?_)); conv => whnf) | ((with_reducible first | refine q17 ?_ | refine q18 ?_ | refine q19 ?_ | refine q20 ?_); conv => whnf)))
      have hz3 := he3.size
      refine ⟨_, rfl, bo, co, ss, by rw [hsl], ⟨hO.row, by omega, fun s hs => (hss s hs).1⟩, hrows, he3.tr he4, ⟨fun a ha => by have := (hO.at_ ha).1; omega, fun s hs a ha => by have := ((hss s hs).2 a ha).1; omega⟩⟩
theorem Tryz.write (s : Shape) (base : Option Addr) (cap : Nat) (ls : List Line) (w : World) (hs : shOk s = true) (hr : Row w base (rowC lineC ls)) (hv : ∀ x ∈ ls, validB x = true) (hl : ls.length ≤ 1000000) :
    CallA Tryz.prog 39 [shV s, .slice base ls.length cap] w fun v w' => match writeM s ls with
      | none => v = .tuple #[.slice none 0 0, .bool false] ∧ Ex w w'
      | some rows => ∃ v1, v = .tuple #[v1, .bool true] ∧ RetS w rows v1 w' := by
  refine CallA.mono (Tryz.writeF s base cap ls w hs hr hv hl) fun v w' h => ?_
  cases hm : writeM s ls with
  | none => rw [hm] at h; exact h
  | some rows => rw [hm] at h; obtain ⟨v1, e, h⟩ := h; exact ⟨v1, e, h.s⟩
def WriteM (s : Shape) (ls : List Line) : List (List Int) × Int :=
  if shOk s then (if checkLinesM ls = 0 then (match writeM s ls with | some rows => (rows, 0) | none => ([], 2)) else ([], checkLinesM ls)) else ([], 1)
/-- rows of numbers, and an error -/
def RetSE (w : World) (r : List (List Int) × Int) (v : Value) (w' : World) : Prop := ∃ v1, v = .tuple #[v1, .int .i64 r.2] ∧ RetS w r.1 v1 w'
theorem RetS.nil {w w' : World} (h : Ex w w') : RetS w [] (.slice none 0 0) w' := ⟨none, 0, [], rfl, ⟨Row.nil _ _, by decide, by simp⟩, rfl, h⟩
theorem checkG_valid : ∀ (t pre : List Line), checkG pre t = 0 → ∀ x ∈ t, validB x = true := by
  intro t
  induction t with
  | nil => intro pre _ x hx; simp at hx
  | cons y t ih =>
    intro pre h x hx
    rw [checkG] at h
    by_cases hy : validB y = true
    · rw [if_pos hy] at h
      by_cases hp : pre.any (fun q => decide (q.id = y.id)) = true
      · rw [if_pos hp] at h; cases h
      · rw [if_neg hp] at h
        rcases List.mem_cons.1 hx with rfl | hx
        · exact hy
        · exact ih _ h x hx
    · rw [if_neg hy] at h; cases h
theorem checkLinesM_ok {ls : List Line} (h : checkLinesM ls = 0) : ls.length ≤ 60 ∧ ∀ x ∈ ls, validB x = true := by
  unfold checkLinesM at h
  by_cases hl : 60 < ls.length
  · rw [if_pos hl] at h; cases h
  · rw [if_neg hl] at h; exact ⟨by omega, checkG_valid ls [] h⟩
def RetSEF (w : World) (r : List (List Int) × Int) (v : Value) (w' : World) : Prop := ∃ v1, v = .tuple #[v1, .int .i64 r.2] ∧ RetSF w r.1 v1 w'
theorem RetSF.nil {w w' : World} (h : Ex w w') : RetSF w [] (.slice none 0 0) w' := ⟨none, 0, [], rfl, ⟨Row.nil _ _, by decide, by simp⟩, rfl, h, ⟨fun a ha => (by cases ha), (by intro s hs; simp at hs)⟩⟩
theorem Tryz.WriteF (s : Shape) (base : Option Addr) (cap : Nat) (ls : List Line) (w : World) (hr : Row w base (rowC lineC ls)) (hl : ls.length ≤ cap) (hl2 : ls.length < 140737488355328) :
    CallA Tryz.prog 9 [shV s, .slice base ls.length cap] w (RetSEF w (WriteM s ls)) := by
  unfold shV
  refine callA_intro Tryz.tbOk Tryz.func9 rfl Tryz.ntmps9 Tryz.results9 (by decide) (by simp) ?_
  ((conv => whnf); repeat' (first | ((with_reducible first | refine q1 ?_ | refine q2 ?_); conv => whnf) | (with_reducible refine q3 ?_) | ((with_reducible refine q4 (fun _ => ?_) (fun _ => ?_)) <;> first | (exfalso; omega) | (conv => whnf)) | ((with_reducible first | refine q5 ?_ | refine q6 ?_ | refine q7 ?_ | refine q8 ?_ | refine q9 ?_ | refine q10 ?_ | refine q11 ?_ | refine q12 ?_ | refine q13 ?_ | refine q14 ?_ | refine q15 ?_); conv => whnf) | ((refine q16 (fun _ _ _ _ _ => ?_)); conv => whnf) | ((with_reducible first | refine q17 ?_ | refine q18 ?_ | refine q19 ?_ | refine q20 ?_); conv => whnf)))
  refine NewA.mk' fun w1 b2 hb2 hs2 he1 hB2 => ?_; ((conv => whnf); repeat' (first | ((with_reducible first | refine q1 ?_ | refine q2 ?_); conv => whnf) | (with_reducible refine q3 ?_) | ((with_reducible refine q4 (fun _ => ?_) (fun _ => ?_)) <;> first | (exfalso; omega) | (conv => whnf)) | ((with_reducible first | refine q5 ?_ | refine q6 ?_ | refine q7 ?_ | refine q8 ?_ | refine q9 ?_ | refine q10 ?_ | refine q11 ?_ | refine q12 ?_ | refine q13 ?_ | refine q14 ?_ | refine q15 ?_); conv => whnf) | ((refine q16 (fun _ _ _ _ _ => ?_)); conv => whnf) | ((with_reducible first | refine q17 ?_ | refine q18 ?_ | refine q19 ?_ | refine q20 ?_); conv => whnf)))
  have hch := Tryz.Check s w1
  unfold shV at hch
  refine CallA.mono hch ?_
  rintro v w2 ⟨rfl, he2⟩
  have hB22 := Blk.ex hB2 he2
  by_cases hs : shOk s = true
  · rw [if_pos hs]
    ((conv => whnf); repeat' (first | ((with_reducible first | refine q1 ?_ | refine q2 ?_); conv => whnf) | (with_reducible refine q3 ?_) | ((with_reducible refine q4 (fun _ => ?_) (fun _ => ?_)) <;> first | (exfalso; omega) | (conv => whnf)) | ((with_reducible first | refine q5 ?_ | refine q6 ?_ | refine q7 ?_ | refine q8 ?_ | refine q9 ?_ | refine q10 ?_ | refine q11 ?_ | refine q12 ?_ | refine q13 ?_ | refine q14 ?_ | refine q15 ?_); conv => whnf) | ((refine q16 (fun _ _ _ _ _ => ?_)); conv => whnf) | ((with_reducible first | refine q17 ?_ | refine q18 ?_ | refine q19 ?_ | refine q20 ?_); conv => whnf)))
    refine CallA.mono (Tryz.CheckLines base cap ls w2 (hr.ex (he1.tr he2)) hl hl2) ?_
    rintro v w3 ⟨rfl, he3⟩
    have hB23 := Blk.ex hB22 he3
    by_cases hc : checkLinesM ls = 0
    · obtain ⟨hc1, hc2⟩ := checkLinesM_ok hc
      ((conv => whnf); repeat' (first | ((with_reducible first | refine q1 ?_ | refine q2 ?_); conv => whnf) | (with_reducible refine q3 ?_) | ((with_reducible refine q4 (fun _ => ?_) (fun _ => ?_)) <;> first | (exfalso; omega) | (conv => whnf)) | ((with_reducible first | refine q5 ?_ | refine q6 ?_ | refine q7 ?_ | refine q8 ?_ | refine q9 ?_ | refine q10 ?_ | refine q11 ?_ | refine q12 ?_ | refine q13 ?_ | refine q14 ?_ | refine q15 ?_); conv => whnf) | ((refine q16 (fun _ _ _ _ _ => ?_)); conv => whnf) | ((with_reducible first | refine q17 ?_ | refine q18 ?_ | refine q19 ?_ | refine q20 ?_); conv => whnf)))
      have hw := Tryz.writeF s base cap ls w3 hs (hr.ex ((he1.tr he2).tr he3)) hc2 (by omega)
      unfold shV at hw
      refine CallA.mono hw ?_
      have hWM : WriteM s ls = match writeM s ls with | some rows => (rows, 0) | none => ([], 2) := by rw [WriteM, if_pos hs, if_pos hc]
      cases hm : writeM s ls with
      | none =>
        rw [hm] at hWM
        rintro v w4 ⟨rfl, he4⟩
        ((conv => whnf); repeat' (first | ((with_reducible first | refine q1 ?_ | refine q2 ?_); conv => whnf) | (with_reducible refine q3 ?_) | ((with_reducible refine q4 (fun _ => ?_) (fun _ => ?_)) <;> first | (exfalso; omega) | (conv => whnf)) | ((with_reducible first | refine q5 ?_ | refine q6 ?_ | refine q7 ?_ | refine q8 ?_ | refine q9 ?_ | refine q10 ?_ | refine q11 ?_ | refine q12 ?_ | refine q13 ?_ | refine q14 ?_ | refine q15 ?_); conv => whnf) | ((refine q16 (fun _ _ _ _ _ => ?_)); conv => whnf) | ((with_reducible first | refine q17 ?_ | refine q18 ?_ | refine q19 ?_ | refine q20 ?_); conv => whnf)))
        rw [hWM]
        exact ⟨_, rfl, RetSF.nil (((he1.tr he2).tr he3).tr he4)⟩
      | some rows =>
        rw [hm] at hWM
        rintro v w4 ⟨v1, rfl, b, c, ss, rfl, hS, hrows, he4, hF⟩
        ((conv => whnf); repeat' (first | ((with_reducible first | refine q1 ?_ | refine q2 ?_); conv => whnf) | (with_reducible refine q3 ?_) | ((with_reducible refine q4 (fun _ => ?_) (fun _ => ?_)) <;> first | (exfalso; omega) | (conv => whnf)) | ((with_reducible first | refine q5 ?_ | refine q6 ?_ | refine q7 ?_ | refine q8 ?_ | refine q9 ?_ | refine q10 ?_ | refine q11 ?_ | refine q12 ?_ | refine q13 ?_ | refine q14 ?_ | refine q15 ?_); conv => whnf) | ((refine q16 (fun _ _ _ _ _ => ?_)); conv => whnf) | ((with_reducible first | refine q17 ?_ | refine q18 ?_ | refine q19 ?_ | refine q20 ?_); conv => whnf)))
        rw [hWM]
        exact ⟨_, rfl, b, c, ss, rfl, hS, hrows, ((he1.tr he2).tr he3).tr he4, hF.mono ((he1.tr he2).tr he3).size⟩
    · ((conv => whnf); repeat' (first | ((with_reducible first | refine q1 ?_ | refine q2 ?_); conv => whnf) | (with_reducible refine q3 ?_) | ((with_reducible refine q4 (fun _ => ?_) (fun _ => ?_)) <;> first | (exfalso; omega) | (conv => whnf)) | ((with_reducible first | refine q5 ?_ | refine q6 ?_ | refine q7 ?_ | refine q8 ?_ | refine q9 ?_ | refine q10 ?_ | refine q11 ?_ | refine q12 ?_ | refine q13 ?_ | refine q14 ?_ | refine q15 ?_); conv => whnf) | ((refine q16 (fun _ _ _ _ _ => ?_)); conv => whnf) | ((with_reducible first | refine q17 ?_ | refine q18 ?_ | refine q19 ?_ | refine q20 ?_); conv => whnf)))
      have hWM : WriteM s ls = ([], checkLinesM ls) := by rw [WriteM, if_pos hs, if_neg hc]
      rw [hWM]
      exact ⟨_, rfl, RetSF.nil ((he1.tr he2).tr he3)⟩
  · rw [if_neg hs]
    ((conv => whnf); repeat' (first | ((with_reducible first | refine q1 ?_ | refine q2 ?_); conv => whnf) | (with_reducible refine q3 ?_) | ((with_reducible refine q4 (fun _ => ?_) (fun _ => ?_)) <;> first | (exfalso; omega) | (conv => whnf)) | ((with_reducible first | refine q5 ?_ | refine q6 ?_ | refine q7 ?_ | refine q8 ?_ | refine q9 ?_ | refine q10 ?_ | refine q11 ?_ | refine q12 ?_ | refine q13 ?_ | refine q14 ?_ | refine q15 ?_); conv => whnf) | ((refine q16 (fun _ _ _ _ _ => ?_)); conv => whnf) | ((with_reducible first | refine q17 ?_ | refine q18 ?_ | refine q19 ?_ | refine q20 ?_); conv => whnf)))
    have hWM : WriteM s ls = ([], 1) := by rw [WriteM, if_neg hs]
    rw [hWM]
    exact ⟨_, rfl, RetSF.nil (he1.tr he2)⟩
theorem Tryz.Write (s : Shape) (base : Option Addr) (cap : Nat) (ls : List Line) (w : World) (hr : Row w base (rowC lineC ls)) (hl : ls.length ≤ cap) (hl2 : ls.length < 140737488355328) :
    CallA Tryz.prog 9 [shV s, .slice base ls.length cap] w (RetSE w (WriteM s ls)) := by
  refine CallA.mono (Tryz.WriteF s base cap ls w hr hl hl2) fun v w' h => ?_
  obtain ⟨v1, e, h⟩ := h; exact ⟨v1, e, h.s⟩
end Go.Proofs
