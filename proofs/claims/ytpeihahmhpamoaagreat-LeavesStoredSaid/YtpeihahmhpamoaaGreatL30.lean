/-
  L30: a part of the proof. By an AI agent.
-/
import Derived.Test.YtpeihahmhpamoaaGreatVQ
import Derived.Test.YtpeihahmhpamoaaGreatV10
import Derived.Test.YtpeihahmhpamoaaGreatL29
set_option linter.all false
namespace Go.Proofs
open Go.V
open Go.RowKit (Below)
/-! ### the data of leaves -/
def dotsAt (lm : List LM) (j : Nat) : List (Int × Int) := lm.map fun x => (x.1, x.2.getD j 0)
def colsM (lm : List LM) (many few : Nat) : List Nat → Option (List (List Int))
  | [] => some []
  | j :: js => match decodedM (dotsAt lm j) many few with
    | none => none
    | some c => (colsM lm many few js).map (c :: ·)
def dataOfCols (cols : List (List Int)) (n : Nat) : List (List Int) := (List.range n).map fun (k : Nat) => cols.map fun c => valM c ((k : Int) + 1)
def addCol (rows : List (List Int)) (c : List Int) (m : Nat) : List (List Int) := rows.mapIdx fun i r => if i < m then r ++ [valM c ((i : Int) + 1)] else r
def wordsIn (right : List LM) (x : LM) : List Int := (right.getD (x.1 - 1).toNat (0, [])).2
def wrongU (right lm : List LM) : List Int := (lm.filter fun x => !decide (wordsIn right x = x.2)).map (·.1)
def mendM (s : Shape) (lm : List LM) : Option (List (List Int) × List Int × Bool) :=
  match colsM lm s.data.toNat ((lm.length - s.data.toNat) / 2) (List.range s.width.toNat) with
  | none => none
  | some cols =>
    let d := dataOfCols cols s.data.toNat
    let wrong := sortI (wrongU (wholeM s d) lm)
    some (d, wrong, decide (2 * (wrong.length : Int) + s.data ≤ lm.length))
theorem overG_isW (b : List Int) : ∀ (n : Nat) (a out : List Int), isW a → isW out → n + b.length ≤ a.length + 1 ∨ n = 0 → isW (overG b n a out).1 := by
  intro n
  induction n with
  | zero => exact fun a out _ h _ => h
  | succ i ih =>
    intro a out ha ho hl
    rw [overG]
    have hl' : i + b.length ≤ a.length := by omega
    refine ih _ _ (subAt_isW _ hl' ha) ?_ (.inl (by rw [subAt_length _ hl']; omega))
    intro x hx
    rcases List.mem_cons.1 hx with h | h
    · rw [h]; exact getD_word ha _
    · exact ho x h
theorem overM_isW {a b : List Int} (ha : isW a) : isW (overM a b).1 :=
  overG_isW b _ a [] ha (by intro x hx; simp at hx) (by omega)
theorem overG_length (b : List Int) : ∀ (n : Nat) (a out : List Int), (overG b n a out).1.length = n + out.length := by
  intro n
  induction n with
  | zero => intro a out; simp [overG]
  | succ i ih => intro a out; rw [overG, ih, List.length_cons]; omega
theorem decodedM_isW {l : List (Int × Int)} {many few : Nat} {c : List Int} (h : decodedM l many few = some c) : isW c ∧ c.length = many := by
  unfold decodedM at h
  cases hs : solveM (l.map (eqnM many few)) (many + 2 * few) with
  | none => rw [hs] at h; cases h
  | some x =>
    rw [hs] at h
    simp only [] at h
    have hx := solveM_ok (k := many + 2 * few + 1) (by
      intro r hr; obtain ⟨p, _, rfl⟩ := List.mem_map.1 hr; exact eqnM_ok many few p) hs
    split at h
    · simp only [Option.some.injEq] at h
      subst h
      refine ⟨overM_isW (isW_take hx.2 _), ?_⟩
      unfold overM
      rw [overG_length]
      simp; omega
    · cases h
theorem colsM_drop {lm : List LM} {many few W j : Nat} (hj : j < W) : colsM lm many few ((List.range W).drop j) = match decodedM (dotsAt lm j) many few with
    | none => none
    | some c => (colsM lm many few ((List.range W).drop (j + 1))).map (c :: ·) := by
  rw [List.drop_eq_getElem_cons (by simpa using hj), colsM, List.getElem_range]
theorem addCol_zero (rows : List (List Int)) (c : List Int) : addCol rows c 0 = rows := by
  unfold addCol
  apply List.ext_getElem (by simp)
  intro i h1 h2
  simp
theorem addCol_length (rows : List (List Int)) (c : List Int) (m : Nat) : (addCol rows c m).length = rows.length := by simp [addCol]
theorem addCol_get (rows : List (List Int)) (c : List Int) (m : Nat) {i : Nat} (hi : i < rows.length) : (addCol rows c m)[i]'(by rw [addCol_length]; exact hi) = if i < m then rows[i] ++ [valM c ((i : Int) + 1)] else rows[i] := by simp [addCol]
theorem addCol_step {rows : List (List Int)} {c : List Int} {m : Nat} (hm : m < rows.length) : (addCol rows c m).set m (rows[m] ++ [valM c ((m : Int) + 1)]) = addCol rows c (m + 1) := by
  apply List.ext_getElem (by simp [addCol_length])
  intro i h1 h2
  have hi : i < rows.length := by rwa [addCol_length] at h2
  rw [List.getElem_set, addCol_get _ _ _ hi]
  by_cases e : m = i
  · subst e; rw [if_pos rfl, addCol_get _ _ _ hi, if_pos (by omega)]
  · rw [if_neg e, addCol_get _ _ _ hi]
    by_cases h : i < m
    · rw [if_pos h, if_pos (by omega)]
    · rw [if_neg h, if_neg (by omega)]
theorem addCol_all (cols : List (List Int)) (c : List Int) (n : Nat) : addCol (dataOfCols cols n) c n = dataOfCols (cols ++ [c]) n := by
  apply List.ext_getElem (by simp [addCol_length, dataOfCols])
  intro i h1 h2
  have hi : i < n := by simpa [dataOfCols] using h2
  rw [addCol_get _ _ _ (by simpa [dataOfCols] using hi), if_pos hi]
  simp [dataOfCols]
theorem dataOf_nil (n : Nat) : rowsOf (List.replicate n (⟨none, 0, []⟩ : Sl)) = dataOfCols [] n := by
  apply List.ext_getElem (by simp [rowsOf, dataOfCols])
  intro i h1 h2
  simp [rowsOf, dataOfCols]
/-- a row is changed for another one -/
theorem RwO.setRow {w w1 w2 : World} {N g cap : Nat} {ss : List Sl} (h : RwO w N (some ⟨g, 0, none⟩) cap ss) {k : Nat} (hk : k < ss.length) (s : Sl) (g1 : w.grownBy w1 (blkOf ss[k].base)) (hs : Own w1 N 3 1 s.base s.xs.length s.cap (ints s.xs))
    (hb : blkOf s.base = blkOf ss[k].base ∨ blkOf s.base = some w.heap.size) (u : Upd w1 w2 g) (ho : Own w2 N 57 1 (some ⟨g, 0, none⟩) ss.length cap (rowC slC (ss.set k s))) : RwO w2 N (some ⟨g, 0, none⟩) cap (ss.set k s) := by
  have hgs : g < w.heap.size := (h.row.at_ rfl).2
  have hsg : s.base = none ∨ blkOf s.base ≠ blkOf (some ⟨g, 0, none⟩) := by
    rcases hb with hb | hb
    · rcases h.off k hk with h1 | h1
      · left; rw [h1] at hb
        cases hs : s.base with
        | none => rfl
        | some a => rw [hs] at hb; simp [blkOf] at hb
      · right; rw [hb]; exact h1
    · right; rw [hb]; simp [blkOf]; omega
  have hsi : ∀ i (hi : i < ss.length), i ≠ k → ss[i].base = none ∨ blkOf ss[i].base ≠ blkOf s.base := by
    intro i hi hik
    rcases hb with hb | hb
    · rw [hb]; exact h.apart i k hi hk hik
    · cases hbi : ss[i].base with
      | none => exact .inl rfl
      | some a =>
        have := ((h.each i hi).at_ hbi).2
        right; rw [hb]; simp [blkOf]; omega
  refine ⟨by rw [List.length_set]; exact ho, ?_, ?_, ?_⟩
  · intro i hi
    have hi' : i < ss.length := by simpa using hi
    rw [List.getElem_set]
    split
    · exact hs.grown (grown_upd u) (by simpa [blkOf] using hsg)
    · rename_i e
      have h1 := (h.each i hi').grown g1 (h.apart i k hi' hk (Ne.symm e))
      exact h1.grown (grown_upd u) (by have := h.off i hi'; simpa [blkOf] using this)
  · intro i j hi hj hij
    have hi' : i < ss.length := by simpa using hi
    have hj' : j < ss.length := by simpa using hj
    rw [List.getElem_set, List.getElem_set]
    split
    · rename_i e1
      split
      · rename_i e2; omega
      · rename_i e2
        by_cases hn : s.base = none
        · exact .inl hn
        · rcases hsi j hj' (Ne.symm e2) with h1 | h1
          · right; rw [h1]; cases hs : s.base with
            | none => exact absurd hs hn
            | some a => simp [blkOf]
          · exact .inr (Ne.symm h1)
    · rename_i e1
      split
      · exact hsi i hi' (Ne.symm e1)
      · exact h.apart i j hi' hj' hij
  · intro i hi
    have hi' : i < ss.length := by simpa using hi
    rw [List.getElem_set]
    split
    · exact hsg
    · exact h.off i hi'
theorem RwO.sls {w : World} {N cap : Nat} {base : Option Addr} {ss : List Sl} (h : RwO w N base cap ss) (hl : ss.length < 140737488355328) (hx : ∀ s ∈ ss, s.xs.length < 140737488355328) : Sls w base ss :=
  ⟨h.row.row, hl, fun s hs => by
    obtain ⟨i, hi, rfl⟩ := List.mem_iff_getElem.1 hs
    exact ⟨(h.each i hi).row, hx _ (List.getElem_mem hi)⟩⟩
/-- all of it stands from N on -/
theorem Sls.upd {w w' : World} {b : Option Addr} {ss : List Sl} {N c : Nat} (h : Sls w b ss) (u : Upd w w' c) (f : FreshS N b ss) (hc : c < N) : Sls w' b ss :=
  ⟨h.1.upd u (fun a ha => by have := f.1 a ha; omega), h.2.1, fun s hs => ⟨(h.2.2 s hs).1.upd u (fun a ha => by have := f.2 s hs a ha; omega), (h.2.2 s hs).2⟩⟩
def RetM (w : World) (r : Option (List (List Int) × List Int × Bool)) (v : Value) (w' : World) : Prop := Ex w w' ∧ match r with
  | none => v = .tuple #[.agg #[.slice none 0 0, .slice none 0 0], .bool false]
  | some (d, wrong, ok) => ∃ b c ss bw cw, v = .tuple #[.agg #[.slice b ss.length c, .slice bw wrong.length cw], .bool ok] ∧ Sls w' b ss ∧ rowsOf ss = d ∧ Row w' bw (ints wrong) ∧ FreshS w.heap.size b ss ∧ (∀ a, bw = some a → w.heap.size ≤ a.block)
theorem checkLv_spec {s : Shape} {pre l : List LM} (h : checkLvG s pre l = 0) : ∀ x ∈ l, leafB s x = true := by
  induction l generalizing pre with
  | nil => intro x hx; simp at hx
  | cons a t ih =>
    rw [checkLvG] at h
    split at h
    · rename_i h1
      split at h
      · omega
      · intro x hx
        rcases List.mem_cons.1 hx with h2 | h2
        · rw [h2]; exact h1
        · exact ih h x h2
    · omega
theorem grown_below {w u v : World} {r : Option Nat} {N : Nat} (g : w.grownBy u r) (e : Below N u v) (hN : w.heap.size ≤ N) : w.grownBy v r :=
  ⟨e.os.trans g.os, e.tape.trans g.tape, e.output.trans g.output, Nat.le_trans g.size e.size, fun k hk hr => (e.block k (by omega)).trans (g.block k hk hr)⟩
theorem grown_then {w u v : World} {b : Nat} (g : w.grownBy u (some b)) (e : Upd u v b) : w.grownBy v (some b) :=
  ⟨e.os.trans g.os, e.tape.trans g.tape, e.output.trans g.output, by rw [e.size]; exact g.size, fun k hk hr => (e.other k (by intro h; exact hr (by rw [h]))).trans (g.block k hk hr)⟩
theorem dataOf_ok {s : Shape} {cols : List (List Int)} {n : Nat} (hn : s.data = (n : Int)) (hW : s.width = (cols.length : Int)) : dataB s (dataOfCols cols n) = true := by
  simp only [dataB, Bool.and_eq_true, decide_eq_true_eq, List.all_eq_true]
  refine ⟨by simp [dataOfCols, hn], ?_⟩
  intro r hr
  obtain ⟨k, _, rfl⟩ := List.mem_map.1 hr
  refine ⟨by simp [hW], ?_⟩
  refine List.all_eq_true.2 ?_
  intro x hx
  obtain ⟨c, _, rfl⟩ := List.mem_map.1 hx
  have := valM_range c ((k : Int) + 1)
  simp only [wordB, decide_eq_true_eq]; omega
theorem wholeM_length (s : Shape) (rows : List (List Int)) : (wholeM s rows).length = (s.data + s.checks).toNat := by simp [wholeM]
def wrongAt (right lm : List LM) (k : Nat) : List Int := wrongU right (lm.take k)
theorem wrongAt_step {right lm : List LM} {k : Nat} (hk : k < lm.length) : wrongAt right lm (k + 1) = wrongAt right lm k ++ (if wordsIn right lm[k] = lm[k].2 then [] else [lm[k].1]) := by
  unfold wrongAt wrongU
  rw [List.take_succ_eq_append_getElem hk, List.filter_append, List.map_append]
  congr 1
  by_cases h : wordsIn right lm[k] = lm[k].2 <;> simp [h]
theorem wrongAt_length (right lm : List LM) (k : Nat) : (wrongAt right lm k).length ≤ k := by
  unfold wrongAt wrongU
  rw [List.length_map]
  exact Nat.le_trans (List.length_filter_le _ _) (List.length_take_le _ _)
theorem LvO.lvs {w : World} {N cap : Nat} {base : Option Addr} {ls : List Lf} (h : LvO w N base cap ls) (hl : ls.length < 140737488355328) (hx : ∀ x ∈ ls, x.words.xs.length < 140737488355328) : Lvs w base ls :=
  ⟨h.row.row, hl, fun s hs => by
    obtain ⟨i, hi, rfl⟩ := List.mem_iff_getElem.1 hs
    exact ⟨(h.each i hi).row, hx _ (List.getElem_mem hi)⟩⟩
theorem Lvs.grown {w w' : World} {base : Option Addr} {ls : List Lf} {row : Option Nat} (h : Lvs w base ls) (g : w.grownBy w' row) (h1 : ∀ a, base = some a → some a.block ≠ row) (h2 : ∀ x ∈ ls, ∀ a, x.words.base = some a → some a.block ≠ row) : Lvs w' base ls :=
  ⟨h.row.grown g h1, h.len, fun x hx => (h.each x hx).grown g (h2 x hx)⟩
set_option maxRecDepth 4000 in
set_option maxHeartbeats 2000000 in
theorem Tryz.mend (s : Shape) (base : Option Addr) (cap : Nat) (ls : List Lf) (w : World) (h : Lvs w base ls) (hs : shOk s = true) (hv : ∀ x ∈ ls, leafB s (Lf.m x) = true) (hl : s.data ≤ ls.length ∧ ls.length ≤ 40) :
    CallA Tryz.prog 79 [shV s, .slice base ls.length cap] w (RetM w (mendM s (ls.map Lf.m))) := by
  obtain ⟨hs1, hs2, hs3, hs4, hs5, hs6⟩ := shOk_spec hs
  obtain ⟨n, hn⟩ : ∃ n : Nat, s.data = (n : Int) := ⟨s.data.toNat, by omega⟩
  obtain ⟨W, hW⟩ : ∃ W : Nat, s.width = (W : Int) := ⟨s.width.toNat, by omega⟩
  obtain ⟨few, hfew⟩ : ∃ few, few = (ls.length - n) / 2 := ⟨_, rfl⟩
  have hM : mendM s (ls.map Lf.m) = match colsM (ls.map Lf.m) n few (List.range W) with
      | none => none
      | some cols => some (dataOfCols cols n, sortI (wrongU (wholeM s (dataOfCols cols n)) (ls.map Lf.m)), decide (2 * ((sortI (wrongU (wholeM s (dataOfCols cols n)) (ls.map Lf.m))).length : Int) + s.data ≤ ls.length)) := by
    unfold mendM
    rw [hn, hW, Int.toNat_natCast, Int.toNat_natCast, List.length_map, ← hfew]
  have hfe : ((ls.length : Int) - s.data) / 2 = (few : Int) := by omega
  have hN0 : 0 < n := by omega
  unfold shV
  refine callA_intro Tryz.tbOk Tryz.func79 rfl Tryz.ntmps79 Tryz.results79 (by decide) (by simp) ?_
  ((conv => whnf); repeat' (first | ((with_reducible first | refine q1 ?_ | refine q2 ?_); conv => whnf) | (with_reducible refine q3 ?_) | ((with_reducible refine q4 (fun _ => ?_) (fun _ => ?_)) <;> first | (exfalso; omega) | (conv => whnf)) | ((with_reducible first | refine q5 ?_ | refine q6 ?_ | refine q7 ?_ | refine q8 ?_ | refine q9 ?_ | refine q10 ?_ | refine q11 ?_ | refine q12 ?_ | refine q13 ?_ | refine q14 ?_ | refine q15 ?_); conv => whnf) | ((refine q16 (fun _ _ _ _ _ => ?_)); conv => whnf) | ((with_reducible first | refine q17 ?_ | refine q18 ?_ | refine q19 ?_ | refine q20 ?_); conv => whnf)))
  refine NewA.mk' fun w1 b2 hb2 hs2' he1 hB2 => ?_; ((conv => whnf); repeat' (first | ((with_reducible first | refine q1 ?_ | refine q2 ?_); conv => whnf) | (with_reducible refine q3 ?_) | ((with_reducible refine q4 (fun _ => ?_) (fun _ => ?_)) <;> first | (exfalso; omega) | (conv => whnf)) | ((with_reducible first | refine q5 ?_ | refine q6 ?_ | refine q7 ?_ | refine q8 ?_ | refine q9 ?_ | refine q10 ?_ | refine q11 ?_ | refine q12 ?_ | refine q13 ?_ | refine q14 ?_ | refine q15 ?_); conv => whnf) | ((refine q16 (fun _ _ _ _ _ => ?_)); conv => whnf) | ((with_reducible first | refine q17 ?_ | refine q18 ?_ | refine q19 ?_ | refine q20 ?_); conv => whnf)))
  refine NewA.mk' fun w2 b4 hb4 hs4' he2 hB4 => ?_
  have hB2' : Blk w2 b2 (shC s) 23 := hB2.ex he2
  ((conv => whnf); repeat' (first | ((with_reducible first | refine q1 ?_ | refine q2 ?_); conv => whnf) | (with_reducible refine q3 ?_) | ((with_reducible refine q4 (fun _ => ?_) (fun _ => ?_)) <;> first | (exfalso; omega) | (conv => whnf)) | ((with_reducible first | refine q5 ?_ | refine q6 ?_ | refine q7 ?_ | refine q8 ?_ | refine q9 ?_ | refine q10 ?_ | refine q11 ?_ | refine q12 ?_ | refine q13 ?_ | refine q14 ?_ | refine q15 ?_); conv => whnf) | ((refine q16 (fun _ _ _ _ _ => ?_)); conv => whnf) | ((with_reducible first | refine q17 ?_ | refine q18 ?_ | refine q19 ?_ | refine q20 ?_); conv => whnf)))
  refine RunV.make (e := 57) (sz := 1) (by_ := 24) (z := .slice none 0 0) Tryz.tbOk w.heap.size n n rfl hn hn (by omega) (by omega) (by omega) rfl (by decide) (by have := he1.size; omega) fun w3 g hg hsg he3 hog => ?_
  rw [show reps n (cellsOf (Value.slice none 0 0)) = rowC slC (List.replicate n (⟨none, 0, []⟩ : Sl)) from rowC_rep n _ rfl] at hog
  rw [hfe]
  ((conv => whnf); repeat' (first | ((with_reducible first | refine q1 ?_ | refine q2 ?_); conv => whnf) | (with_reducible refine q3 ?_) | ((with_reducible refine q4 (fun _ => ?_) (fun _ => ?_)) <;> first | (exfalso; omega) | (conv => whnf)) | ((with_reducible first | refine q5 ?_ | refine q6 ?_ | refine q7 ?_ | refine q8 ?_ | refine q9 ?_ | refine q10 ?_ | refine q11 ?_ | refine q12 ?_ | refine q13 ?_ | refine q14 ?_ | refine q15 ?_); conv => whnf) | ((refine q16 (fun _ _ _ _ _ => ?_)); conv => whnf) | ((with_reducible first | refine q17 ?_ | refine q18 ?_ | refine q19 ?_ | refine q20 ?_); conv => whnf)))
  refine NewA.mk' fun w4 bm hbm hsm he4 hBm => ?_; ((conv => whnf); repeat' (first | ((with_reducible first | refine q1 ?_ | refine q2 ?_); conv => whnf) | (with_reducible refine q3 ?_) | ((with_reducible refine q4 (fun _ => ?_) (fun _ => ?_)) <;> first | (exfalso; omega) | (conv => whnf)) | ((with_reducible first | refine q5 ?_ | refine q6 ?_ | refine q7 ?_ | refine q8 ?_ | refine q9 ?_ | refine q10 ?_ | refine q11 ?_ | refine q12 ?_ | refine q13 ?_ | refine q14 ?_ | refine q15 ?_); conv => whnf) | ((refine q16 (fun _ _ _ _ _ => ?_)); conv => whnf) | ((with_reducible first | refine q17 ?_ | refine q18 ?_ | refine q19 ?_ | refine q20 ?_); conv => whnf)))
  refine StoreA.var hBm rfl rfl rfl fun w5 hu5 hB5 => ?_
  have he5 : Ex w3 w5 := he4.upd hu5 (by omega)
  have hO5 : RwO w5 w.heap.size (some ⟨g, 0, none⟩) n (List.replicate n ⟨none, 0, []⟩) := by
    refine ⟨by rw [List.length_replicate]; exact hog.ex he5, ?_, ?_, ?_⟩
    · intro i hi; rw [List.getElem_replicate]; exact Own.nil _ _ _ _
    · intro i j hi hj _; rw [List.getElem_replicate]; exact .inl rfl
    · intro i hi; rw [List.getElem_replicate]; exact .inl rfl
  have hw5 : Ex w w5 := ((he1.tr he2).tr he3).tr he5
  have hB25 : Blk w5 b2 (shC s) 23 := (hB2'.ex he3).ex he5
  have hB45 : Blk w5 b4 [.slice none 0 0, .slice none 0 0] 74 := (Blk.ex hB4 he3).ex he5
  have hsz1 := he1.size
  ((conv => whnf); repeat' (first | ((with_reducible first | refine q1 ?_ | refine q2 ?_); conv => whnf) | (with_reducible refine q3 ?_) | ((with_reducible refine q4 (fun _ => ?_) (fun _ => ?_)) <;> first | (exfalso; omega) | (conv => whnf)) | ((with_reducible first | refine q5 ?_ | refine q6 ?_ | refine q7 ?_ | refine q8 ?_ | refine q9 ?_ | refine q10 ?_ | refine q11 ?_ | refine q12 ?_ | refine q13 ?_ | refine q14 ?_ | refine q15 ?_); conv => whnf) | ((refine q16 (fun _ _ _ _ _ => ?_)); conv => whnf) | ((with_reducible first | refine q17 ?_ | refine q18 ?_ | refine q19 ?_ | refine q20 ?_); conv => whnf)))
  refine loop_rule Tryz.tbOk (Nat × List Sl × List (List Int)) [30] (fun | (j, _, _) => [.int .i64 (j:Int)])
    (fun | (j, ss, cols), u => j ≤ W ∧ ss.length = n ∧ RwO u w.heap.size (some ⟨g, 0, none⟩) n ss ∧ rowsOf ss = dataOfCols cols n ∧ cols.length = j ∧ Ex w u ∧ Blk u bm [.slice (some ⟨g, 0, none⟩) n n, .slice none 0 0] 74 ∧ Blk u b2 (shC s) 23 ∧ Blk u b4 [.slice none 0 0, .slice none 0 0] 74 ∧ (∀ i (hi : i < ss.length) x, blkOf ss[i].base = some x → bm < x) ∧
      colsM (ls.map Lf.m) n few (List.range W) = (colsM (ls.map Lf.m) n few ((List.range W).drop j)).map (cols ++ ·)) (fun | (j, _, _) => W - j)
    (0, List.replicate n ⟨none, 0, []⟩, []) rfl ⟨by omega, by simp, hO5, dataOf_nil n, rfl, hw5, hB5, hB25, hB45, by intro i hi x hx; rw [List.getElem_replicate] at hx; simp [blkOf] at hx, by simp⟩ ?_
  rintro ⟨j, ss, cols⟩ u ⟨hj, hsl, hO, hR, hcl, hwu, hBm', hB2u, hB4u, hbig, hC⟩ ux
  by_cases hjW : j < W
  · rw [colsM_drop hjW] at hC
    ((conv => whnf); repeat' (first | ((with_reducible first | refine q1 ?_ | refine q2 ?_); conv => whnf) | (with_reducible refine q3 ?_) | ((with_reducible refine q4 (fun _ => ?_) (fun _ => ?_)) <;> first | (exfalso; omega) | (conv => whnf)) | ((with_reducible first | refine q5 ?_ | refine q6 ?_ | refine q7 ?_ | refine q8 ?_ | refine q9 ?_ | refine q10 ?_ | refine q11 ?_ | refine q12 ?_ | refine q13 ?_ | refine q14 ?_ | refine q15 ?_); conv => whnf) | ((refine q16 (fun _ _ _ _ _ => ?_)); conv => whnf) | ((with_reducible first | refine q17 ?_ | refine q18 ?_ | refine q19 ?_ | refine q20 ?_); conv => whnf)))
    have hwsz := hwu.size
    refine loop_rule Tryz.tbOk (Nat × Option Addr × Nat) [35, 9] (fun | (k, b, c) => [.int .i64 (k:Int), .slice b k c])
      (fun | (k, b, c), v => k ≤ ls.length ∧ Own v u.heap.size 70 2 b k c (rowC dotC ((dotsAt (ls.map Lf.m) j).take k)) ∧ Ex u v) (fun | (k, _, _) => ls.length - k)
      (0, none, 0) rfl ⟨by omega, by simpa [rowC] using Own.nil _ _ _ _, Ex.refl _⟩ ?_
    rintro ⟨k, b, c⟩ v ⟨hk, hO1, huv⟩ ux1
    have hdl : (dotsAt (ls.map Lf.m) j).length = ls.length := by simp [dotsAt]
    by_cases hkl : k < ls.length
    · have hwv := hwu.tr huv
      obtain ⟨hwl, hwlen⟩ := (h.each _ (List.getElem_mem hkl)).ex hwv
      have hlf := hv _ (List.getElem_mem hkl)
      have hwords : (ls[k].words.xs.length : Int) = W := by
        simp only [leafB, Lf.m, Bool.and_eq_true] at hlf
        have := of_decide_eq_true hlf.2.1
        omega
      ((conv => whnf); repeat' (first | ((with_reducible first | refine q1 ?_ | refine q2 ?_); conv => whnf) | (with_reducible refine q3 ?_) | ((with_reducible refine q4 (fun _ => ?_) (fun _ => ?_)) <;> first | (exfalso; omega) | (conv => whnf)) | ((with_reducible first | refine q5 ?_ | refine q6 ?_ | refine q7 ?_ | refine q8 ?_ | refine q9 ?_ | refine q10 ?_ | refine q11 ?_ | refine q12 ?_ | refine q13 ?_ | refine q14 ?_ | refine q15 ?_); conv => whnf) | ((refine q16 (fun _ _ _ _ _ => ?_)); conv => whnf) | ((with_reducible first | refine q17 ?_ | refine q18 ?_ | refine q19 ?_ | refine q20 ?_); conv => whnf)))
      refine IdxA.elem (sz := 2) (h.row.ex hwv) (fun _ => rfl) (by decide) rfl k rfl hkl (fun bq oq hbq hcq => ?_)
      (conv => whnf)
      refine LoadN.mk' (vs := lfC ls[k]) rfl (fun j x hj => hcq j x hj) ?_
      ((conv => whnf); repeat' (first | ((with_reducible first | refine q1 ?_ | refine q2 ?_); conv => whnf) | (with_reducible refine q3 ?_) | ((with_reducible refine q4 (fun _ => ?_) (fun _ => ?_)) <;> first | (exfalso; omega) | (conv => whnf)) | ((with_reducible first | refine q5 ?_ | refine q6 ?_ | refine q7 ?_ | refine q8 ?_ | refine q9 ?_ | refine q10 ?_ | refine q11 ?_ | refine q12 ?_ | refine q13 ?_ | refine q14 ?_ | refine q15 ?_); conv => whnf) | ((refine q16 (fun _ _ _ _ _ => ?_)); conv => whnf) | ((with_reducible first | refine q17 ?_ | refine q18 ?_ | refine q19 ?_ | refine q20 ?_); conv => whnf)))
      refine NewA.mk' fun w6 bl hbl hsl6 he6 hBl => ?_; ((conv => whnf); repeat' (first | ((with_reducible first | refine q1 ?_ | refine q2 ?_); conv => whnf) | (with_reducible refine q3 ?_) | ((with_reducible refine q4 (fun _ => ?_) (fun _ => ?_)) <;> first | (exfalso; omega) | (conv => whnf)) | ((with_reducible first | refine q5 ?_ | refine q6 ?_ | refine q7 ?_ | refine q8 ?_ | refine q9 ?_ | refine q10 ?_ | refine q11 ?_ | refine q12 ?_ | refine q13 ?_ | refine q14 ?_ | refine q15 ?_); conv => whnf) | ((refine q16 (fun _ _ _ _ _ => ?_)); conv => whnf) | ((with_reducible first | refine q17 ?_ | refine q18 ?_ | refine q19 ?_ | refine q20 ?_); conv => whnf)))
      refine StoreA.var hBl rfl rfl rfl fun w7 hu7 hB7 => ?_
      have he7 : Ex v w7 := he6.upd hu7 (by omega)
      have hB7 : Blk w7 bl (lfC ls[k]) 59 := hB7
      have hwl7 := hwl.ex he7
      obtain ⟨bw, ow, hbw, hcw⟩ := (h.each _ (List.getElem_mem hkl)).1.at_ (by intro e; have := congrArg List.length e; rw [ints_length] at this; simp only [List.length_nil] at this; omega)
      have hjl : j < ls[k].words.xs.length := by omega
      have hcw0 := hcw j _ (ints_get hjl)
      have hbww := World.block_lt_of_cell? _ _ hcw0
      have hcwj := (hwv.tr he7).cell hcw0
      ((conv => whnf); repeat' (first | ((with_reducible first | refine q1 ?_ | refine q2 ?_); conv => whnf) | (with_reducible refine q3 ?_) | ((with_reducible refine q4 (fun _ => ?_) (fun _ => ?_)) <;> first | (exfalso; omega) | (conv => whnf)) | ((with_reducible first | refine q5 ?_ | refine q6 ?_ | refine q7 ?_ | refine q8 ?_ | refine q9 ?_ | refine q10 ?_ | refine q11 ?_ | refine q12 ?_ | refine q13 ?_ | refine q14 ?_ | refine q15 ?_); conv => whnf) | ((refine q16 (fun _ _ _ _ _ => ?_)); conv => whnf) | ((with_reducible first | refine q17 ?_ | refine q18 ?_ | refine q19 ?_ | refine q20 ?_); conv => whnf)))
      refine draw_rule Tryz.tbOk Tryz.mix (fun u2 => Blk u2 bl (lfC ls[k]) 59 ∧ u2.cell? ⟨bw, ow + j, none⟩ = some (.int .i64 (ls[k].words.xs[j]'hjl))) (.take 0 (.take 1 (.take 2 (.take 3 (.take 4 (.take 5 (.take 6 (.take 7 (.take 8 (.one 9 (.one 10 (.take 11 (.done))))))))))))) (by kernel_rfl) (by kernel_rfl) ?_
      intro w8 hd8
      have hB8 := hB7.ex hd8.ex
      have hc8 := hd8.ex.cell hcwj
      refine ⟨⟨hB8, hc8⟩, ?_⟩
      ((conv => whnf); repeat' (first | ((with_reducible first | refine q1 ?_ | refine q2 ?_); conv => whnf) | (with_reducible refine q3 ?_) | ((with_reducible refine q4 (fun _ => ?_) (fun _ => ?_)) <;> first | (exfalso; omega) | (conv => whnf)) | ((with_reducible first | refine q5 ?_ | refine q6 ?_ | refine q7 ?_ | refine q8 ?_ | refine q9 ?_ | refine q10 ?_ | refine q11 ?_ | refine q12 ?_ | refine q13 ?_ | refine q14 ?_ | refine q15 ?_); conv => whnf) | ((refine q16 (fun _ _ _ _ _ => ?_)); conv => whnf) | ((with_reducible first | refine q17 ?_ | refine q18 ?_ | refine q19 ?_ | refine q20 ?_); conv => whnf)))
      refine Hold1.any (fun x hx => hx.1.cell' rfl) ?_
      ((conv => whnf); repeat' (first | ((with_reducible first | refine q1 ?_ | refine q2 ?_); conv => whnf) | (with_reducible refine q3 ?_) | ((with_reducible refine q4 (fun _ => ?_) (fun _ => ?_)) <;> first | (exfalso; omega) | (conv => whnf)) | ((with_reducible first | refine q5 ?_ | refine q6 ?_ | refine q7 ?_ | refine q8 ?_ | refine q9 ?_ | refine q10 ?_ | refine q11 ?_ | refine q12 ?_ | refine q13 ?_ | refine q14 ?_ | refine q15 ?_); conv => whnf) | ((refine q16 (fun _ _ _ _ _ => ?_)); conv => whnf) | ((with_reducible first | refine q17 ?_ | refine q18 ?_ | refine q19 ?_ | refine q20 ?_); conv => whnf)))
      refine Hold1.any (fun x hx => hx.1.cell' rfl) ?_
      ((conv => whnf); repeat' (first | ((with_reducible first | refine q1 ?_ | refine q2 ?_); conv => whnf) | (with_reducible refine q3 ?_) | ((with_reducible refine q4 (fun _ => ?_) (fun _ => ?_)) <;> first | (exfalso; omega) | (conv => whnf)) | ((with_reducible first | refine q5 ?_ | refine q6 ?_ | refine q7 ?_ | refine q8 ?_ | refine q9 ?_ | refine q10 ?_ | refine q11 ?_ | refine q12 ?_ | refine q13 ?_ | refine q14 ?_ | refine q15 ?_); conv => whnf) | ((refine q16 (fun _ _ _ _ _ => ?_)); conv => whnf) | ((with_reducible first | refine q17 ?_ | refine q18 ?_ | refine q19 ?_ | refine q20 ?_); conv => whnf)))
      rename_i bz oz hbz _ _
      obtain ⟨rfl, rfl⟩ : bw = bz ∧ ow = oz := by rw [hbw] at hbz; cases hbz; exact ⟨rfl, rfl⟩
      refine Hold1.any (fun x hx => hx.2) ?_
      ((conv => whnf); repeat' (first | ((with_reducible first | refine q1 ?_ | refine q2 ?_); conv => whnf) | (with_reducible refine q3 ?_) | ((with_reducible refine q4 (fun _ => ?_) (fun _ => ?_)) <;> first | (exfalso; omega) | (conv => whnf)) | ((with_reducible first | refine q5 ?_ | refine q6 ?_ | refine q7 ?_ | refine q8 ?_ | refine q9 ?_ | refine q10 ?_ | refine q11 ?_ | refine q12 ?_ | refine q13 ?_ | refine q14 ?_ | refine q15 ?_); conv => whnf) | ((refine q16 (fun _ _ _ _ _ => ?_)); conv => whnf) | ((with_reducible first | refine q17 ?_ | refine q18 ?_ | refine q19 ?_ | refine q20 ?_); conv => whnf)))
      refine NewS.mk' (cs := dotC (ls[k].number, ls[k].words.xs[j])) fun w9 b9 hb9 hs9 he9 hB9 => ?_
      refine Anew.mk ⟨hB8.ex he9, he9.cell hc8⟩ ?_
      ((conv => whnf); repeat' (first | ((with_reducible first | refine q1 ?_ | refine q2 ?_); conv => whnf) | (with_reducible refine q3 ?_) | ((with_reducible refine q4 (fun _ => ?_) (fun _ => ?_)) <;> first | (exfalso; omega) | (conv => whnf)) | ((with_reducible first | refine q5 ?_ | refine q6 ?_ | refine q7 ?_ | refine q8 ?_ | refine q9 ?_ | refine q10 ?_ | refine q11 ?_ | refine q12 ?_ | refine q13 ?_ | refine q14 ?_ | refine q15 ?_); conv => whnf) | ((refine q16 (fun _ _ _ _ _ => ?_)); conv => whnf) | ((with_reducible first | refine q17 ?_ | refine q18 ?_ | refine q19 ?_ | refine q20 ?_); conv => whnf)))
      have hO9 := ((hO1.ex he7).ex hd8.ex).ex he9
      have hvsz := huv.size
      have h7sz := he7.size
      have h8sz := hd8.ex.size
      refine RunV.append (e := 70) (sz := 2) (by_ := 16) (m := 1) (news := dotC (ls[k].number, ls[k].words.xs[j])) Tryz.tbOk u.heap.size hO9 hB9.row rfl rfl (all_one rfl) (by omega) (by omega) rfl (by decide) (by omega) fun w10 b10 c10 ho10 hg10 hb10 => ?_
      have hbN : ∀ x, blkOf b = some x → u.heap.size ≤ x ∧ x < v.heap.size := fun x hx => hO1.blk_ge x hx
      refine Anew.mk ⟨(hB8.ex he9).grown hg10 (by intro e; have := hbN _ e.symm; omega), ?_⟩ ?_
      · rw [World.cell?_of_block (hg10.block bw (World.block_lt_of_cell? _ _ (he9.cell hc8)) (by intro e; have := hbN _ e.symm; simp only [] at hbww; omega))]
        exact he9.cell hc8
      ((conv => whnf); repeat' (first | ((with_reducible first | refine q1 ?_ | refine q2 ?_); conv => whnf) | (with_reducible refine q3 ?_) | ((with_reducible refine q4 (fun _ => ?_) (fun _ => ?_)) <;> first | (exfalso; omega) | (conv => whnf)) | ((with_reducible first | refine q5 ?_ | refine q6 ?_ | refine q7 ?_ | refine q8 ?_ | refine q9 ?_ | refine q10 ?_ | refine q11 ?_ | refine q12 ?_ | refine q13 ?_ | refine q14 ?_ | refine q15 ?_); conv => whnf) | ((refine q16 (fun _ _ _ _ _ => ?_)); conv => whnf) | ((with_reducible first | refine q17 ?_ | refine q18 ?_ | refine q19 ?_ | refine q20 ?_); conv => whnf)))
      refine ⟨(k + 1, b10, c10), rfl, ⟨by omega, ?_, (((huv.tr he7).tr hd8.ex).tr he9).grow hg10 fun x hx => (hbN x hx).1⟩, by simp only []; omega⟩
      have hdk : (dotsAt (ls.map Lf.m) j).take (k + 1) = (dotsAt (ls.map Lf.m) j).take k ++ [(ls[k].number, ls[k].words.xs[j])] := by
        rw [List.take_succ_eq_append_getElem (by omega)]
        congr 2
        simp [dotsAt, Lf.m, hjl]
      rw [hdk, rowC_append]
      simpa [rowC] using ho10
    · obtain rfl : k = ls.length := by omega
      rw [List.take_of_length_le (by omega)] at hO1
      have hB2v := hB2u.ex huv
      have hBmv := hBm'.ex huv
      have hB4v := hB4u.ex huv
      have hOv := hO.ex huv
      have hwv := hwu.tr huv
      have hdot : ∀ p ∈ dotsAt (ls.map Lf.m) j, dotB p = true := by
        intro p hp
        simp only [dotsAt, List.mem_map] at hp
        obtain ⟨x, ⟨y, hy, rfl⟩, rfl⟩ := hp
        have hlf := hv y hy
        simp only [leafB, Lf.m, Bool.and_eq_true] at hlf
        have hw := words_spec hlf.2.2
        have h1 := of_decide_eq_true hlf.1
        have h2 := getD_word hw j
        simp only [dotB, wordB, Bool.and_eq_true]
        exact ⟨decide_eq_true ⟨by simp only [Lf.m]; omega, by simp only [Lf.m]; omega⟩, decide_eq_true h2⟩
      have hdec := Tryz.decoded b c (dotsAt (ls.map Lf.m) j) n few v hO1.row (by omega) (by omega) (by omega) hdot
      rw [hdl, ← hn] at hdec
      ((conv => whnf); repeat' (first | ((with_reducible first | refine q1 ?_ | refine q2 ?_); conv => whnf) | (with_reducible refine q3 ?_) | ((with_reducible refine q4 (fun _ => ?_) (fun _ => ?_)) <;> first | (exfalso; omega) | (conv => whnf)) | ((with_reducible first | refine q5 ?_ | refine q6 ?_ | refine q7 ?_ | refine q8 ?_ | refine q9 ?_ | refine q10 ?_ | refine q11 ?_ | refine q12 ?_ | refine q13 ?_ | refine q14 ?_ | refine q15 ?_); conv => whnf) | ((refine q16 (fun _ _ _ _ _ => ?_)); conv => whnf) | ((with_reducible first | refine q17 ?_ | refine q18 ?_ | refine q19 ?_ | refine q20 ?_); conv => whnf)))
      refine CallA.mono hdec ?_
      rintro r w6 ⟨he6, hr6⟩
      have hB46 := hB4v.ex he6
      cases hd : decodedM (dotsAt (ls.map Lf.m) j) n few with
      | none =>
        rw [hd] at hr6 hC
        obtain ⟨v1, rfl⟩ := hr6
        simp only [Option.map_none] at hC
        have hM0 := hM
        rw [hC] at hM0
        rw [hM0]
        ((conv => whnf); repeat' (first | ((with_reducible first | refine q1 ?_ | refine q2 ?_); conv => whnf) | (with_reducible refine q3 ?_) | ((with_reducible refine q4 (fun _ => ?_) (fun _ => ?_)) <;> first | (exfalso; omega) | (conv => whnf)) | ((with_reducible first | refine q5 ?_ | refine q6 ?_ | refine q7 ?_ | refine q8 ?_ | refine q9 ?_ | refine q10 ?_ | refine q11 ?_ | refine q12 ?_ | refine q13 ?_ | refine q14 ?_ | refine q15 ?_); conv => whnf) | ((refine q16 (fun _ _ _ _ _ => ?_)); conv => whnf) | ((with_reducible first | refine q17 ?_ | refine q18 ?_ | refine q19 ?_ | refine q20 ?_); conv => whnf)))
        refine StoreA.var hB46 rfl rfl rfl fun w7 hu7 hB7 => ?_
        ((conv => whnf); repeat' (first | ((with_reducible first | refine q1 ?_ | refine q2 ?_); conv => whnf) | (with_reducible refine q3 ?_) | ((with_reducible refine q4 (fun _ => ?_) (fun _ => ?_)) <;> first | (exfalso; omega) | (conv => whnf)) | ((with_reducible first | refine q5 ?_ | refine q6 ?_ | refine q7 ?_ | refine q8 ?_ | refine q9 ?_ | refine q10 ?_ | refine q11 ?_ | refine q12 ?_ | refine q13 ?_ | refine q14 ?_ | refine q15 ?_); conv => whnf) | ((refine q16 (fun _ _ _ _ _ => ?_)); conv => whnf) | ((with_reducible first | refine q17 ?_ | refine q18 ?_ | refine q19 ?_ | refine q20 ?_); conv => whnf)))
        exact ⟨(hwv.tr he6).upd hu7 (by omega), rfl⟩
      | some cf =>
        rw [hd] at hr6 hC
        obtain ⟨bc, cc, rfl, hoc⟩ := hr6
        obtain ⟨hcw, hcfl⟩ := decodedM_isW hd
        simp only [Option.map_map] at hC
        have hBm6 := hBmv.ex he6
        have hO6 := hOv.ex he6
        have hB26 := hB2v.ex he6
        have hw6 := hwv.tr he6
        have hvsz := hwv.size
        ((conv => whnf); repeat' (first | ((with_reducible first | refine q1 ?_ | refine q2 ?_); conv => whnf) | (with_reducible refine q3 ?_) | ((with_reducible refine q4 (fun _ => ?_) (fun _ => ?_)) <;> first | (exfalso; omega) | (conv => whnf)) | ((with_reducible first | refine q5 ?_ | refine q6 ?_ | refine q7 ?_ | refine q8 ?_ | refine q9 ?_ | refine q10 ?_ | refine q11 ?_ | refine q12 ?_ | refine q13 ?_ | refine q14 ?_ | refine q15 ?_); conv => whnf) | ((refine q16 (fun _ _ _ _ _ => ?_)); conv => whnf) | ((with_reducible first | refine q17 ?_ | refine q18 ?_ | refine q19 ?_ | refine q20 ?_); conv => whnf)))
        have hgw : g < u.heap.size := (hO.row.at_ rfl).2
        have hbml := hBm'.lt
        have huvs := huv.size
        have hbcN : ∀ x, blkOf bc = some x → v.heap.size ≤ x := fun x hx => (hoc.blk_ge x hx).1
        refine loop_rule Tryz.tbOk (Nat × List Sl) [65] (fun | (k, _) => [.int .i64 (k:Int)])
          (fun | (k, ss'), v1 => k ≤ n ∧ ss'.length = n ∧ RwO v1 w.heap.size (some ⟨g, 0, none⟩) n ss' ∧ rowsOf ss' = addCol (rowsOf ss) cf k ∧ Ex w v1 ∧ Blk v1 bm [.slice (some ⟨g, 0, none⟩) n n, .slice none 0 0] 74 ∧ Blk v1 b2 (shC s) 23 ∧ Blk v1 b4 [.slice none 0 0, .slice none 0 0] 74 ∧
            Own v1 w.heap.size 3 1 bc cf.length cc (ints cf) ∧ (∀ i (hi : i < ss'.length) x, blkOf ss'[i].base = some x → bm < x ∧ blkOf bc ≠ some x)) (fun | (k, _) => n - k)
          (0, ss) rfl ⟨by omega, hsl, hO6, by rw [addCol_zero], hw6, hBm6, hB26, hB46, hoc.mono hvsz, fun i hi x hx => ⟨hbig i hi x hx, by
            intro e; have h1 := hbcN x e; have h2 := ((hO.each i hi).blk_ge x hx).2; omega⟩⟩ ?_
        clear hO6 hBm6 hB26 hB46 hoc hw6
        rintro ⟨k, ss'⟩ v1 ⟨hk, hsl', hO', hR', hw', hBm1, hB21, hB41, hoc, hbig'⟩ ux2
        by_cases hkn : k < n
        · have hks : k < ss'.length := by omega
          ((conv => whnf); repeat' (first | ((with_reducible first | refine q1 ?_ | refine q2 ?_); conv => whnf) | (with_reducible refine q3 ?_) | ((with_reducible refine q4 (fun _ => ?_) (fun _ => ?_)) <;> first | (exfalso; omega) | (conv => whnf)) | ((with_reducible first | refine q5 ?_ | refine q6 ?_ | refine q7 ?_ | refine q8 ?_ | refine q9 ?_ | refine q10 ?_ | refine q11 ?_ | refine q12 ?_ | refine q13 ?_ | refine q14 ?_ | refine q15 ?_); conv => whnf) | ((refine q16 (fun _ _ _ _ _ => ?_)); conv => whnf) | ((with_reducible first | refine q17 ?_ | refine q18 ?_ | refine q19 ?_ | refine q20 ?_); conv => whnf)))
          refine draw_rule Tryz.tbOk Tryz.mix (fun v2 => Blk v2 bm [.slice (some ⟨g, 0, none⟩) n n, .slice none 0 0] 74 ∧ v2.cell? ⟨g, k, none⟩ = some ss'[k].val) (.take 0 (.take 1 (.take 2 (.take 3 (.take 4 (.take 5 (.take 6 (.take 7 (.take 8 (.take 9 (.take 10 (.one 11 (.one 12 (.one 13 (.take 14 (.fin 15)))))))))))))))) (by kernel_rfl) (by kernel_rfl) ?_
          intro w8 hd8
          have hcg := (hO'.ex hd8.ex).cell hks
          have hBm8 := hBm1.ex hd8.ex
          refine ⟨⟨hBm8, hcg⟩, ?_⟩
          ((conv => whnf); repeat' (first | ((with_reducible first | refine q1 ?_ | refine q2 ?_); conv => whnf) | (with_reducible refine q3 ?_) | ((with_reducible refine q4 (fun _ => ?_) (fun _ => ?_)) <;> first | (exfalso; omega) | (conv => whnf)) | ((with_reducible first | refine q5 ?_ | refine q6 ?_ | refine q7 ?_ | refine q8 ?_ | refine q9 ?_ | refine q10 ?_ | refine q11 ?_ | refine q12 ?_ | refine q13 ?_ | refine q14 ?_ | refine q15 ?_); conv => whnf) | ((refine q16 (fun _ _ _ _ _ => ?_)); conv => whnf) | ((with_reducible first | refine q17 ?_ | refine q18 ?_ | refine q19 ?_ | refine q20 ?_); conv => whnf)))
          refine Hold1.any (fun x hx => hx.1.cell' rfl) ?_
          ((conv => whnf); repeat' (first | ((with_reducible first | refine q1 ?_ | refine q2 ?_); conv => whnf) | (with_reducible refine q3 ?_) | ((with_reducible refine q4 (fun _ => ?_) (fun _ => ?_)) <;> first | (exfalso; omega) | (conv => whnf)) | ((with_reducible first | refine q5 ?_ | refine q6 ?_ | refine q7 ?_ | refine q8 ?_ | refine q9 ?_ | refine q10 ?_ | refine q11 ?_ | refine q12 ?_ | refine q13 ?_ | refine q14 ?_ | refine q15 ?_); conv => whnf) | ((refine q16 (fun _ _ _ _ _ => ?_)); conv => whnf) | ((with_reducible first | refine q17 ?_ | refine q18 ?_ | refine q19 ?_ | refine q20 ?_); conv => whnf)))
          refine Hold1.any (fun x hx => hx.1.cell' rfl) ?_
          ((conv => whnf); repeat' (first | ((with_reducible first | refine q1 ?_ | refine q2 ?_); conv => whnf) | (with_reducible refine q3 ?_) | ((with_reducible refine q4 (fun _ => ?_) (fun _ => ?_)) <;> first | (exfalso; omega) | (conv => whnf)) | ((with_reducible first | refine q5 ?_ | refine q6 ?_ | refine q7 ?_ | refine q8 ?_ | refine q9 ?_ | refine q10 ?_ | refine q11 ?_ | refine q12 ?_ | refine q13 ?_ | refine q14 ?_ | refine q15 ?_); conv => whnf) | ((refine q16 (fun _ _ _ _ _ => ?_)); conv => whnf) | ((with_reducible first | refine q17 ?_ | refine q18 ?_ | refine q19 ?_ | refine q20 ?_); conv => whnf)))
          refine IdxA.at0 ?_
          ((conv => whnf); repeat' (first | ((with_reducible first | refine q1 ?_ | refine q2 ?_); conv => whnf) | (with_reducible refine q3 ?_) | ((with_reducible refine q4 (fun _ => ?_) (fun _ => ?_)) <;> first | (exfalso; omega) | (conv => whnf)) | ((with_reducible first | refine q5 ?_ | refine q6 ?_ | refine q7 ?_ | refine q8 ?_ | refine q9 ?_ | refine q10 ?_ | refine q11 ?_ | refine q12 ?_ | refine q13 ?_ | refine q14 ?_ | refine q15 ?_); conv => whnf) | ((refine q16 (fun _ _ _ _ _ => ?_)); conv => whnf) | ((with_reducible first | refine q17 ?_ | refine q18 ?_ | refine q19 ?_ | refine q20 ?_); conv => whnf)))
          refine Hold1.any (fun x hx => hx.2) ?_
          ((conv => whnf); repeat' (first | ((with_reducible first | refine q1 ?_ | refine q2 ?_); conv => whnf) | (with_reducible refine q3 ?_) | ((with_reducible refine q4 (fun _ => ?_) (fun _ => ?_)) <;> first | (exfalso; omega) | (conv => whnf)) | ((with_reducible first | refine q5 ?_ | refine q6 ?_ | refine q7 ?_ | refine q8 ?_ | refine q9 ?_ | refine q10 ?_ | refine q11 ?_ | refine q12 ?_ | refine q13 ?_ | refine q14 ?_ | refine q15 ?_); conv => whnf) | ((refine q16 (fun _ _ _ _ _ => ?_)); conv => whnf) | ((with_reducible first | refine q17 ?_ | refine q18 ?_ | refine q19 ?_ | refine q20 ?_); conv => whnf)))
          refine CallA.mono (Tryz.value bc cc cf _ w8 (hoc.ex hd8.ex).row (by omega) hcw (by omega)) ?_
          rintro r w9 ⟨rfl, he9⟩
          refine Anew.mk ⟨hBm8.ex he9, he9.cell hcg⟩ ?_
          ((conv => whnf); repeat' (first | ((with_reducible first | refine q1 ?_ | refine q2 ?_); conv => whnf) | (with_reducible refine q3 ?_) | ((with_reducible refine q4 (fun _ => ?_) (fun _ => ?_)) <;> first | (exfalso; omega) | (conv => whnf)) | ((with_reducible first | refine q5 ?_ | refine q6 ?_ | refine q7 ?_ | refine q8 ?_ | refine q9 ?_ | refine q10 ?_ | refine q11 ?_ | refine q12 ?_ | refine q13 ?_ | refine q14 ?_ | refine q15 ?_); conv => whnf) | ((refine q16 (fun _ _ _ _ _ => ?_)); conv => whnf) | ((with_reducible first | refine q17 ?_ | refine q18 ?_ | refine q19 ?_ | refine q20 ?_); conv => whnf)))
          refine NewS.mk' (cs := ints [valM cf ((k : Int) + 1)]) fun w10 b10 hb10 hs10 he10 hB10 => ?_
          refine Anew.mk ⟨(hBm8.ex he9).ex he10, (he9.tr he10).cell hcg⟩ ?_
          ((conv => whnf); repeat' (first | ((with_reducible first | refine q1 ?_ | refine q2 ?_); conv => whnf) | (with_reducible refine q3 ?_) | ((with_reducible refine q4 (fun _ => ?_) (fun _ => ?_)) <;> first | (exfalso; omega) | (conv => whnf)) | ((with_reducible first | refine q5 ?_ | refine q6 ?_ | refine q7 ?_ | refine q8 ?_ | refine q9 ?_ | refine q10 ?_ | refine q11 ?_ | refine q12 ?_ | refine q13 ?_ | refine q14 ?_ | refine q15 ?_); conv => whnf) | ((refine q16 (fun _ _ _ _ _ => ?_)); conv => whnf) | ((with_reducible first | refine q17 ?_ | refine q18 ?_ | refine q19 ?_ | refine q20 ?_); conv => whnf)))
          have he80 := (hd8.ex.tr he9).tr he10
          have hO10 := hO'.ex he80
          have hw10 := hw'.tr he80
          have hxk : ss'[k].xs = (dataOfCols cols n)[k]'(by simp [dataOfCols]; exact hkn) := by
            rw [← rowsOf_get hks]
            simp only [hR']
            rw [addCol_get _ _ _ (by rw [hR]; simp [dataOfCols]; exact hkn), if_neg (by omega)]
            simp only [hR]
          have hxl : ss'[k].xs.length = j := by rw [hxk]; simp [dataOfCols, hcl]
          have hrl : ss'[k].xs.length ≤ 1000000 := by omega
          refine RunV.append (e := 3) (sz := 1) (by_ := 8) (m := 1) (news := ints [valM cf ((k : Int) + 1)]) Tryz.tbOk w.heap.size (hO10.each k hks) hB10.row rfl rfl (ints_one _) (by omega) (by omega) rfl (by decide) hw10.size fun w11 b11 c11 ho11 hg11 hb11 => ?_
          have hgb : blkOf ss'[k].base ≠ some g := by intro e; have := (hbig' k hks g e).1; omega
          have hmb : blkOf ss'[k].base ≠ some bm := by intro e; have := (hbig' k hks bm e).1; omega
          have hBm11 := (hBm8.ex (he9.tr he10)).grown hg11 (Ne.symm hmb)
          have hc11 : w11.cell? ⟨g, k, none⟩ = some ss'[k].val := by
            rw [World.cell?_of_block (hg11.block g (hO10.row.at_ rfl).2 (Ne.symm hgb))]
            exact (he9.tr he10).cell hcg
          refine Anew.mk ⟨hBm11, hc11⟩ ?_
          ((conv => whnf); repeat' (first | ((with_reducible first | refine q1 ?_ | refine q2 ?_); conv => whnf) | (with_reducible refine q3 ?_) | ((with_reducible refine q4 (fun _ => ?_) (fun _ => ?_)) <;> first | (exfalso; omega) | (conv => whnf)) | ((with_reducible first | refine q5 ?_ | refine q6 ?_ | refine q7 ?_ | refine q8 ?_ | refine q9 ?_ | refine q10 ?_ | refine q11 ?_ | refine q12 ?_ | refine q13 ?_ | refine q14 ?_ | refine q15 ?_); conv => whnf) | ((refine q16 (fun _ _ _ _ _ => ?_)); conv => whnf) | ((with_reducible first | refine q17 ?_ | refine q18 ?_ | refine q19 ?_ | refine q20 ?_); conv => whnf)))
          refine IdxA.at0 ?_
          ((conv => whnf); repeat' (first | ((with_reducible first | refine q1 ?_ | refine q2 ?_); conv => whnf) | (with_reducible refine q3 ?_) | ((with_reducible refine q4 (fun _ => ?_) (fun _ => ?_)) <;> first | (exfalso; omega) | (conv => whnf)) | ((with_reducible first | refine q5 ?_ | refine q6 ?_ | refine q7 ?_ | refine q8 ?_ | refine q9 ?_ | refine q10 ?_ | refine q11 ?_ | refine q12 ?_ | refine q13 ?_ | refine q14 ?_ | refine q15 ?_); conv => whnf) | ((refine q16 (fun _ _ _ _ _ => ?_)); conv => whnf) | ((with_reducible first | refine q17 ?_ | refine q18 ?_ | refine q19 ?_ | refine q20 ?_); conv => whnf)))
          have hrow11 := hO10.row.grown hg11 (.inr (by simpa [blkOf] using Ne.symm hgb))
          refine StoreA.own1 hrow11 rfl (by omega) rfl fun w12 hu12 ho12 => ?_
          ((conv => whnf); repeat' (first | ((with_reducible first | refine q1 ?_ | refine q2 ?_); conv => whnf) | (with_reducible refine q3 ?_) | ((with_reducible refine q4 (fun _ => ?_) (fun _ => ?_)) <;> first | (exfalso; omega) | (conv => whnf)) | ((with_reducible first | refine q5 ?_ | refine q6 ?_ | refine q7 ?_ | refine q8 ?_ | refine q9 ?_ | refine q10 ?_ | refine q11 ?_ | refine q12 ?_ | refine q13 ?_ | refine q14 ?_ | refine q15 ?_); conv => whnf) | ((refine q16 (fun _ _ _ _ _ => ?_)); conv => whnf) | ((with_reducible first | refine q17 ?_ | refine q18 ?_ | refine q19 ?_ | refine q20 ?_); conv => whnf)))
          obtain ⟨s11, hs11⟩ : ∃ s : Sl, s = ⟨b11, c11, ss'[k].xs ++ [valM cf ((k : Int) + 1)]⟩ := ⟨_, rfl⟩
          have hval : Value.slice b11 (ss'[k].xs.length + 1) c11 = s11.val := by rw [hs11]; simp [Sl.val]
          rw [hval, slRow_set] at ho12
          have hown11 : Own w11 w.heap.size 3 1 s11.base s11.xs.length s11.cap (ints s11.xs) := by
            rw [hs11]; simp only [List.length_append, List.length_cons, List.length_nil, ints_append]; exact ho11
          have hO12 := hO10.setRow hks s11 hg11 hown11 (by rw [hs11]; exact hb11) hu12 ho12
          have hbN11 : ∀ x, blkOf ss'[k].base = some x → w.heap.size ≤ x := fun x hx => ((hO10.each k hks).blk_ge x hx).1
          have hw12 : Ex w w12 := (hw10.grow hg11 hbN11).upd hu12 (hO'.row.at_ rfl).1
          have hbl2 : blkOf ss'[k].base ≠ some b2 := by intro e; have := (hbig' k hks _ e).1; omega
          have hbl4 : blkOf ss'[k].base ≠ some b4 := by intro e; have := (hbig' k hks _ e).1; omega
          have hoc12 : Own w12 w.heap.size 3 1 bc cf.length cc (ints cf) := by
            refine ((hoc.ex he80).grown hg11 ?_).upd hu12 ?_
            · cases hb : bc with
              | none => exact .inl rfl
              | some a =>
                right; intro e
                exact (hbig' k hks a.block (by rw [← e]; rfl)).2 (by rw [hb]; rfl)
            · intro e; have := hbcN g e; omega
          have hsz10 := hw10.size
          have h81 := he80.size
          have hwv1 := hw'.size
          refine ⟨(k + 1, ss'.set k s11), rfl, ⟨by omega, by rw [List.length_set]; exact hsl', hO12, ?_, hw12, hu12.blk hBm11 (by omega), ?_, ?_, hoc12, ?_⟩, by simp only []; omega⟩
          · rw [rowsOf_set, hR', hs11, hxk]
            have := addCol_step (rows := rowsOf ss) (c := cf) (m := k) (by rw [rowsOf_length]; omega)
            rw [← this]
            congr 2
            simp only [hR]
          · exact hu12.blk ((hB21.ex he80).grown hg11 (Ne.symm hbl2)) (by omega)
          · exact hu12.blk ((hB41.ex he80).grown hg11 (Ne.symm hbl4)) (by omega)
          · intro i hi x hx
            have hi' : i < ss'.length := by simpa using hi
            rw [List.getElem_set] at hx
            split at hx
            · rw [hs11] at hx
              simp only [] at hx
              rcases hb11 with h1 | h1
              · exact hbig' k hks x (h1 ▸ hx)
              · rw [h1] at hx
                cases hx
                refine ⟨by have := hBm1.lt; omega, ?_⟩
                intro e
                have := (hoc.blk_ge _ e).2
                omega
            · exact hbig' i hi' x hx
        · obtain rfl : k = n := by omega
          rw [hR, addCol_all] at hR'
          ((conv => whnf); repeat' (first | ((with_reducible first | refine q1 ?_ | refine q2 ?_); conv => whnf) | (with_reducible refine q3 ?_) | ((with_reducible refine q4 (fun _ => ?_) (fun _ => ?_)) <;> first | (exfalso; omega) | (conv => whnf)) | ((with_reducible first | refine q5 ?_ | refine q6 ?_ | refine q7 ?_ | refine q8 ?_ | refine q9 ?_ | refine q10 ?_ | refine q11 ?_ | refine q12 ?_ | refine q13 ?_ | refine q14 ?_ | refine q15 ?_); conv => whnf) | ((refine q16 (fun _ _ _ _ _ => ?_)); conv => whnf) | ((with_reducible first | refine q17 ?_ | refine q18 ?_ | refine q19 ?_ | refine q20 ?_); conv => whnf)))
          refine ⟨(j + 1, ss', cols ++ [cf]), rfl, ⟨by omega, hsl', hO', hR', by simp [hcl], hw', hBm1, hB21, hB41, fun i hi x hx => (hbig' i hi x hx).1, ?_⟩, by simp only []; omega⟩
          rw [hC]
          congr 1
          funext y
          simp
  · obtain rfl : j = W := by omega
    rw [List.drop_of_length_le (by simp), colsM, Option.map_some, List.append_nil] at hC
    rw [hC] at hM
    simp only [] at hM
    rw [hM]
    ((conv => whnf); repeat' (first | ((with_reducible first | refine q1 ?_ | refine q2 ?_); conv => whnf) | (with_reducible refine q3 ?_) | ((with_reducible refine q4 (fun _ => ?_) (fun _ => ?_)) <;> first | (exfalso; omega) | (conv => whnf)) | ((with_reducible first | refine q5 ?_ | refine q6 ?_ | refine q7 ?_ | refine q8 ?_ | refine q9 ?_ | refine q10 ?_ | refine q11 ?_ | refine q12 ?_ | refine q13 ?_ | refine q14 ?_ | refine q15 ?_); conv => whnf) | ((refine q16 (fun _ _ _ _ _ => ?_)); conv => whnf) | ((with_reducible first | refine q17 ?_ | refine q18 ?_ | refine q19 ?_ | refine q20 ?_); conv => whnf)))
    obtain ⟨d, hdd⟩ : ∃ d, d = dataOfCols cols n := ⟨_, rfl⟩
    rw [← hdd] at hR hM ⊢
    have hdB : dataB s d = true := by rw [hdd]; exact dataOf_ok hn (by rw [hcl]; exact hW)
    have hrl : ∀ t ∈ ss, t.xs.length < 140737488355328 := by
      intro t ht
      have : t.xs ∈ d := by rw [← hR]; exact List.mem_map_of_mem ht
      have := ((dataB_spec hdB).2 _ this).1
      omega
    have hSls := hO.sls (by omega) hrl
    have hwh := Tryz.whole s (some ⟨g, 0, none⟩) n ss u hSls hs (by rw [hR]; exact hdB)
    rw [hsl, hR] at hwh
    refine CallA.mono hwh ?_
    rintro v w6 ⟨bR, cR, lsR, rfl, hLR, hmR, he6⟩
    have hgw : g < u.heap.size := (hO.row.at_ rfl).2
    have hbml := hBm'.lt
    have huvs := hwu.size
    have h6s := he6.size
    have hlR : lsR.length = (s.data + s.checks).toNat := by rw [← wholeM_length s d, ← hmR, List.length_map]
    have hw6 := hwu.tr he6
    have hBm6 := hBm'.ex he6
    have hbRN : ∀ x, blkOf bR = some x → u.heap.size ≤ x := fun x hx => (hLR.row.blk_ge x hx).1
    ((conv => whnf); repeat' (first | ((with_reducible first | refine q1 ?_ | refine q2 ?_); conv => whnf) | (with_reducible refine q3 ?_) | ((with_reducible refine q4 (fun _ => ?_) (fun _ => ?_)) <;> first | (exfalso; omega) | (conv => whnf)) | ((with_reducible first | refine q5 ?_ | refine q6 ?_ | refine q7 ?_ | refine q8 ?_ | refine q9 ?_ | refine q10 ?_ | refine q11 ?_ | refine q12 ?_ | refine q13 ?_ | refine q14 ?_ | refine q15 ?_); conv => whnf) | ((refine q16 (fun _ _ _ _ _ => ?_)); conv => whnf) | ((with_reducible first | refine q17 ?_ | refine q18 ?_ | refine q19 ?_ | refine q20 ?_); conv => whnf)))
    have hlm : (ls.map Lf.m).length = ls.length := by simp
    refine loop_rule Tryz.tbOk (Nat × Option Addr × Nat) [91] (fun | (k, _, _) => [.int .i64 (k:Int)])
      (fun | (k, bw, cw), v => k ≤ ls.length ∧ Own v w6.heap.size 3 1 bw (wrongAt (wholeM s d) (ls.map Lf.m) k).length cw (ints (wrongAt (wholeM s d) (ls.map Lf.m) k)) ∧ w6.grownBy v (some bm) ∧
        Blk v bm [.slice (some ⟨g, 0, none⟩) n n, .slice bw (wrongAt (wholeM s d) (ls.map Lf.m) k).length cw] 74) (fun | (k, _, _) => ls.length - k)
      (0, none, 0) rfl ⟨by omega, Own.nil _ _ _ _, ⟨rfl, rfl, rfl, Nat.le_refl _, fun _ _ _ => rfl⟩, hBm6⟩ ?_
    rintro ⟨k, bw, cw⟩ v ⟨hk, hOw, hgv, hBmv⟩ ux3
    have hwv : Ex w v := hw6.grow hgv (fun b hb => by cases hb; omega)
    have hgvs := hgv.size
    have hwl := wrongAt_length (wholeM s d) (ls.map Lf.m) k
    by_cases hkl : k < ls.length
    · have hstep := wrongAt_step (right := wholeM s d) (lm := ls.map Lf.m) (k := k) (by omega)
      have hlv := (h.each _ (List.getElem_mem hkl)).ex hwv
      have hlf := hv _ (List.getElem_mem hkl)
      have hnum : 1 ≤ ls[k].number ∧ ls[k].number ≤ s.data + s.checks := by
        simp only [leafB, Lf.m, Bool.and_eq_true] at hlf
        exact of_decide_eq_true hlf.1
      have hiR : (ls[k].number - 1).toNat < lsR.length := by omega
      have hLRv : LvO v u.heap.size bR cR lsR := hLR.grown hgv (.inr (by intro e; have := hbRN bm e; omega)) (fun i hi => by
        cases hb : lsR[i].words.base with
        | none => exact .inl rfl
        | some a => right; simp [blkOf]; have := ((hLR.each i hi).at_ hb).1; omega)
      ((conv => whnf); repeat' (first | ((with_reducible first | refine q1 ?_ | refine q2 ?_); conv => whnf) | (with_reducible refine q3 ?_) | ((with_reducible refine q4 (fun _ => ?_) (fun _ => ?_)) <;> first | (exfalso; omega) | (conv => whnf)) | ((with_reducible first | refine q5 ?_ | refine q6 ?_ | refine q7 ?_ | refine q8 ?_ | refine q9 ?_ | refine q10 ?_ | refine q11 ?_ | refine q12 ?_ | refine q13 ?_ | refine q14 ?_ | refine q15 ?_); conv => whnf) | ((refine q16 (fun _ _ _ _ _ => ?_)); conv => whnf) | ((with_reducible first | refine q17 ?_ | refine q18 ?_ | refine q19 ?_ | refine q20 ?_); conv => whnf)))
      refine IdxA.elem (sz := 2) (h.row.ex hwv) (fun _ => rfl) (by decide) rfl k rfl hkl (fun bq oq hbq hcq => ?_)
      (conv => whnf)
      refine LoadN.mk' (vs := lfC ls[k]) rfl (fun j x hj => hcq j x hj) ?_
      ((conv => whnf); repeat' (first | ((with_reducible first | refine q1 ?_ | refine q2 ?_); conv => whnf) | (with_reducible refine q3 ?_) | ((with_reducible refine q4 (fun _ => ?_) (fun _ => ?_)) <;> first | (exfalso; omega) | (conv => whnf)) | ((with_reducible first | refine q5 ?_ | refine q6 ?_ | refine q7 ?_ | refine q8 ?_ | refine q9 ?_ | refine q10 ?_ | refine q11 ?_ | refine q12 ?_ | refine q13 ?_ | refine q14 ?_ | refine q15 ?_); conv => whnf) | ((refine q16 (fun _ _ _ _ _ => ?_)); conv => whnf) | ((with_reducible first | refine q17 ?_ | refine q18 ?_ | refine q19 ?_ | refine q20 ?_); conv => whnf)))
      refine NewA.mk' fun w7 bl hbl hsl7 he7 hBl => ?_; ((conv => whnf); repeat' (first | ((with_reducible first | refine q1 ?_ | refine q2 ?_); conv => whnf) | (with_reducible refine q3 ?_) | ((with_reducible refine q4 (fun _ => ?_) (fun _ => ?_)) <;> first | (exfalso; omega) | (conv => whnf)) | ((with_reducible first | refine q5 ?_ | refine q6 ?_ | refine q7 ?_ | refine q8 ?_ | refine q9 ?_ | refine q10 ?_ | refine q11 ?_ | refine q12 ?_ | refine q13 ?_ | refine q14 ?_ | refine q15 ?_); conv => whnf) | ((refine q16 (fun _ _ _ _ _ => ?_)); conv => whnf) | ((with_reducible first | refine q17 ?_ | refine q18 ?_ | refine q19 ?_ | refine q20 ?_); conv => whnf)))
      refine StoreA.var hBl rfl rfl rfl fun w8 hu8 hB8 => ?_
      have he8 : Ex v w8 := he7.upd hu8 (by omega)
      have hB8 : Blk w8 bl (lfC ls[k]) 59 := hB8
      ((conv => whnf); repeat' (first | ((with_reducible first | refine q1 ?_ | refine q2 ?_); conv => whnf) | (with_reducible refine q3 ?_) | ((with_reducible refine q4 (fun _ => ?_) (fun _ => ?_)) <;> first | (exfalso; omega) | (conv => whnf)) | ((with_reducible first | refine q5 ?_ | refine q6 ?_ | refine q7 ?_ | refine q8 ?_ | refine q9 ?_ | refine q10 ?_ | refine q11 ?_ | refine q12 ?_ | refine q13 ?_ | refine q14 ?_ | refine q15 ?_); conv => whnf) | ((refine q16 (fun _ _ _ _ _ => ?_)); conv => whnf) | ((with_reducible first | refine q17 ?_ | refine q18 ?_ | refine q19 ?_ | refine q20 ?_); conv => whnf)))
      refine draw_rule Tryz.tbOk Tryz.mix (fun u2 => Ex w8 u2) (.take 0 (.take 1 (.take 2 (.take 3 (.take 4 (.take 5 (.take 6 (.take 7 (.take 8 (.one 9 (.take 10 (.done)))))))))))) (by kernel_rfl) (by kernel_rfl) ?_
      intro w9 hd9
      refine ⟨hd9.ex, ?_⟩
      have hLR8 := hLRv.ex he8
      have hLR9 := hLR8.ex hd9.ex
      have hiR' : (wholeM s d).length = lsR.length := by rw [← hmR, List.length_map]
      have hWI : wordsIn (wholeM s d) ((ls.map Lf.m)[k]'(by omega)) = (lsR[(ls[k].number - 1).toNat]'hiR).words.xs := by
        unfold wordsIn
        have e1 : ((ls.map Lf.m)[k]'(by omega)).1 = ls[k].number := by simp [Lf.m]
        rw [e1, getD_get (by omega)]
        have : (wholeM s d)[(ls[k].number - 1).toNat]'(by omega) = Lf.m (lsR[(ls[k].number - 1).toNat]'hiR) := by
          simp only [← hmR, List.getElem_map]
        rw [this]; rfl
      have hXI : ((ls.map Lf.m)[k]'(by omega)).2 = ls[k].words.xs := by simp [Lf.m]
      rw [hWI, hXI] at hstep
      ((conv => whnf); repeat' (first | ((with_reducible first | refine q1 ?_ | refine q2 ?_); conv => whnf) | (with_reducible refine q3 ?_) | ((with_reducible refine q4 (fun _ => ?_) (fun _ => ?_)) <;> first | (exfalso; omega) | (conv => whnf)) | ((with_reducible first | refine q5 ?_ | refine q6 ?_ | refine q7 ?_ | refine q8 ?_ | refine q9 ?_ | refine q10 ?_ | refine q11 ?_ | refine q12 ?_ | refine q13 ?_ | refine q14 ?_ | refine q15 ?_); conv => whnf) | ((refine q16 (fun _ _ _ _ _ => ?_)); conv => whnf) | ((with_reducible first | refine q17 ?_ | refine q18 ?_ | refine q19 ?_ | refine q20 ?_); conv => whnf)))
      refine IdxA.elem (sz := 2) hLR8.row.row (fun _ => rfl) (by decide) hiR' (ls[k].number - 1).toNat (by omega) hiR (fun br or_ hbr hcr => ?_)
      (conv => whnf)
      refine Hold1.mk' (hcr 1 _ rfl) (fun _ h => h) ?_
      ((conv => whnf); repeat' (first | ((with_reducible first | refine q1 ?_ | refine q2 ?_); conv => whnf) | (with_reducible refine q3 ?_) | ((with_reducible refine q4 (fun _ => ?_) (fun _ => ?_)) <;> first | (exfalso; omega) | (conv => whnf)) | ((with_reducible first | refine q5 ?_ | refine q6 ?_ | refine q7 ?_ | refine q8 ?_ | refine q9 ?_ | refine q10 ?_ | refine q11 ?_ | refine q12 ?_ | refine q13 ?_ | refine q14 ?_ | refine q15 ?_); conv => whnf) | ((refine q16 (fun _ _ _ _ _ => ?_)); conv => whnf) | ((with_reducible first | refine q17 ?_ | refine q18 ?_ | refine q19 ?_ | refine q20 ?_); conv => whnf)))
      have hrr := (hLR9.each _ hiR).row
      have hlr : (lsR[(ls[k].number - 1).toNat]'hiR).words.xs.length < 140737488355328 := by
        have : Lf.m (lsR[(ls[k].number - 1).toNat]'hiR) ∈ wholeM s d := by rw [← hmR]; exact List.mem_map_of_mem (List.getElem_mem hiR)
        simp only [wholeM, List.mem_map] at this
        obtain ⟨q, _, hq⟩ := this
        have := congrArg (fun z : LM => z.2.length) hq
        simp only [Lf.m, wordsAt, List.length_map, List.length_range] at this
        omega
      refine CallA.mono (Tryz.equalInts _ _ _ _ _ ls[k].words.xs w9 hrr (hlv.1.ex (he8.tr hd9.ex)) hlr) ?_
      rintro r w10 ⟨rfl, he10⟩
      refine Anew.mk (hd9.ex.tr he10) ?_
      have he810 := (he8.tr hd9.ex).tr he10
      have hOw10 := hOw.ex he810
      have hgv10 := grown_below hgv he810 hgv.size
      have hBm10 := hBmv.ex he810
      have hB10 := (hB8.ex hd9.ex).ex he10
      have hv10 := he810.size
      ((conv => whnf); repeat' (first | ((with_reducible first | refine q1 ?_ | refine q2 ?_); conv => whnf) | (with_reducible refine q3 ?_) | ((with_reducible refine q4 (fun _ => ?_) (fun _ => ?_)) <;> first | (exfalso; omega) | (conv => whnf)) | ((with_reducible first | refine q5 ?_ | refine q6 ?_ | refine q7 ?_ | refine q8 ?_ | refine q9 ?_ | refine q10 ?_ | refine q11 ?_ | refine q12 ?_ | refine q13 ?_ | refine q14 ?_ | refine q15 ?_); conv => whnf) | ((refine q16 (fun _ _ _ _ _ => ?_)); conv => whnf) | ((with_reducible first | refine q17 ?_ | refine q18 ?_ | refine q19 ?_ | refine q20 ?_); conv => whnf)))
      · rename_i heq
        rw [if_pos heq, List.append_nil] at hstep
        exact ⟨(k + 1, bw, cw), rfl, ⟨by omega, by rw [hstep]; exact hOw10, hgv10, by rw [hstep]; exact hBm10⟩, by simp only []; omega⟩
      · rename_i heq
        rw [if_neg heq] at hstep
        have hst2 : wrongAt (wholeM s d) (ls.map Lf.m) (k + 1) = wrongAt (wholeM s d) (ls.map Lf.m) k ++ [ls[k].number] := by rw [hstep]; simp [Lf.m]
        refine NewS.mk' (cs := ints [ls[k].number]) fun w11 b11 hb11 hs11 he11 hB11 => ?_
        ((conv => whnf); repeat' (first | ((with_reducible first | refine q1 ?_ | refine q2 ?_); conv => whnf) | (with_reducible refine q3 ?_) | ((with_reducible refine q4 (fun _ => ?_) (fun _ => ?_)) <;> first | (exfalso; omega) | (conv => whnf)) | ((with_reducible first | refine q5 ?_ | refine q6 ?_ | refine q7 ?_ | refine q8 ?_ | refine q9 ?_ | refine q10 ?_ | refine q11 ?_ | refine q12 ?_ | refine q13 ?_ | refine q14 ?_ | refine q15 ?_); conv => whnf) | ((refine q16 (fun _ _ _ _ _ => ?_)); conv => whnf) | ((with_reducible first | refine q17 ?_ | refine q18 ?_ | refine q19 ?_ | refine q20 ?_); conv => whnf)))
        have hOw11 := hOw10.ex he11
        have hBm11 := hBm10.ex he11
        refine RunV.append (e := 3) (sz := 1) (by_ := 8) (m := 1) (news := ints [ls[k].number]) Tryz.tbOk w6.heap.size hOw11 hB11.row rfl rfl (ints_one _) (by omega) (by omega) rfl (by decide) (by have := he11.size; omega) fun w12 b12 c12 ho12 hg12 hb12 => ?_
        have hbwN : ∀ x, blkOf bw = some x → w6.heap.size ≤ x := fun x hx => (hOw11.blk_ge x hx).1
        have hBm12 := hBm11.grown hg12 (by intro e; have := hbwN _ e.symm; have := hBm6.lt; omega)
        have h11s := he11.size
        ((conv => whnf); repeat' (first | ((with_reducible first | refine q1 ?_ | refine q2 ?_); conv => whnf) | (with_reducible refine q3 ?_) | ((with_reducible refine q4 (fun _ => ?_) (fun _ => ?_)) <;> first | (exfalso; omega) | (conv => whnf)) | ((with_reducible first | refine q5 ?_ | refine q6 ?_ | refine q7 ?_ | refine q8 ?_ | refine q9 ?_ | refine q10 ?_ | refine q11 ?_ | refine q12 ?_ | refine q13 ?_ | refine q14 ?_ | refine q15 ?_); conv => whnf) | ((refine q16 (fun _ _ _ _ _ => ?_)); conv => whnf) | ((with_reducible first | refine q17 ?_ | refine q18 ?_ | refine q19 ?_ | refine q20 ?_); conv => whnf)))
        refine StoreA.one hBm12 (by simp) rfl fun w13 hu13 hB13 => ?_
        ((conv => whnf); repeat' (first | ((with_reducible first | refine q1 ?_ | refine q2 ?_); conv => whnf) | (with_reducible refine q3 ?_) | ((with_reducible refine q4 (fun _ => ?_) (fun _ => ?_)) <;> first | (exfalso; omega) | (conv => whnf)) | ((with_reducible first | refine q5 ?_ | refine q6 ?_ | refine q7 ?_ | refine q8 ?_ | refine q9 ?_ | refine q10 ?_ | refine q11 ?_ | refine q12 ?_ | refine q13 ?_ | refine q14 ?_ | refine q15 ?_); conv => whnf) | ((refine q16 (fun _ _ _ _ _ => ?_)); conv => whnf) | ((with_reducible first | refine q17 ?_ | refine q18 ?_ | refine q19 ?_ | refine q20 ?_); conv => whnf)))
        rw [← ints_append, ← hst2] at ho12
        have hl2 : (wrongAt (wholeM s d) (ls.map Lf.m) (k + 1)).length = (wrongAt (wholeM s d) (ls.map Lf.m) k).length + 1 := by rw [hst2]; simp
        have hgv12 := grown_below (grown_below hgv10 he11 (by omega)) (ex_grown hg12 hbwN (by omega)) (Nat.le_refl _)
        refine ⟨(k + 1, b12, c12), rfl, ⟨by omega, ?_, grown_then hgv12 hu13, by rw [hl2]; exact hB13⟩, by simp only []; omega⟩
        rw [hl2]
        refine ho12.upd hu13 ?_
        intro e
        have := (ho12.blk_ge _ e).1
        have := hBm6.lt
        omega
    · obtain rfl : k = ls.length := by omega
      have hwall : wrongAt (wholeM s d) (ls.map Lf.m) ls.length = wrongU (wholeM s d) (ls.map Lf.m) := by unfold wrongAt; rw [List.take_of_length_le (by simp)]
      rw [hwall] at hOw hBmv hwl
      obtain ⟨wr, hwr⟩ : ∃ wr, wr = wrongU (wholeM s d) (ls.map Lf.m) := ⟨_, rfl⟩
      rw [← hwr] at hOw hBmv hwl hM ⊢
      ((conv => whnf); repeat' (first | ((with_reducible first | refine q1 ?_ | refine q2 ?_); conv => whnf) | (with_reducible refine q3 ?_) | ((with_reducible refine q4 (fun _ => ?_) (fun _ => ?_)) <;> first | (exfalso; omega) | (conv => whnf)) | ((with_reducible first | refine q5 ?_ | refine q6 ?_ | refine q7 ?_ | refine q8 ?_ | refine q9 ?_ | refine q10 ?_ | refine q11 ?_ | refine q12 ?_ | refine q13 ?_ | refine q14 ?_ | refine q15 ?_); conv => whnf) | ((refine q16 (fun _ _ _ _ _ => ?_)); conv => whnf) | ((with_reducible first | refine q17 ?_ | refine q18 ?_ | refine q19 ?_ | refine q20 ?_); conv => whnf)))
      refine CallA.mono (Tryz.sortInts bw cw w6.heap.size wr v hOw (by omega)) ?_
      rintro r w7 ⟨hO7, hg7⟩
      have hbwN : ∀ x, blkOf bw = some x → w6.heap.size ≤ x := fun x hx => (hOw.blk_ge x hx).1
      have hbm6 := hBm6.lt
      have hb46 : b4 < w6.heap.size := by have := hB4u.lt; omega
      have hb26 : b2 < w6.heap.size := by have := hB2u.lt; omega
      have hBm7 := hBmv.grown hg7 (by intro e; have := hbwN _ e.symm; omega)
      have hB47 := ((hB4u.ex he6).grown hgv (by intro e; cases e; omega)).grown hg7 (by intro e; have := hbwN _ e.symm; omega)
      have hB27 := ((hB2u.ex he6).grown hgv (by intro e; cases e; omega)).grown hg7 (by intro e; have := hbwN _ e.symm; omega)
      have hw7 : Ex w w7 := hwv.grow hg7 fun b hb => by have := hbwN b hb; omega
      ((conv => whnf); repeat' (first | ((with_reducible first | refine q1 ?_ | refine q2 ?_); conv => whnf) | (with_reducible refine q3 ?_) | ((with_reducible refine q4 (fun _ => ?_) (fun _ => ?_)) <;> first | (exfalso; omega) | (conv => whnf)) | ((with_reducible first | refine q5 ?_ | refine q6 ?_ | refine q7 ?_ | refine q8 ?_ | refine q9 ?_ | refine q10 ?_ | refine q11 ?_ | refine q12 ?_ | refine q13 ?_ | refine q14 ?_ | refine q15 ?_); conv => whnf) | ((refine q16 (fun _ _ _ _ _ => ?_)); conv => whnf) | ((with_reducible first | refine q17 ?_ | refine q18 ?_ | refine q19 ?_ | refine q20 ?_); conv => whnf)))
      refine draw_rule Tryz.tbOk Tryz.mix (fun x => w7.grownBy x (some b4)) (.take 0 (.take 1 (.take 2 (.take 3 (.take 4 (.take 5 (.take 6 (.take 7 (.take 8 (.take 9 (.take 10 (.one 11 (.take 12 (.done)))))))))))))) (by kernel_rfl) (by kernel_rfl) ?_
      intro w8 hd8
      refine ⟨⟨hd8.os, hd8.tape, hd8.output, by rw [hd8.size]; exact Nat.le_refl _, fun k hk _ => by rw [hd8.heap]⟩, ?_⟩
      have hB48 := hB47.ex hd8.ex
      ((conv => whnf); repeat' (first | ((with_reducible first | refine q1 ?_ | refine q2 ?_); conv => whnf) | (with_reducible refine q3 ?_) | ((with_reducible refine q4 (fun _ => ?_) (fun _ => ?_)) <;> first | (exfalso; omega) | (conv => whnf)) | ((with_reducible first | refine q5 ?_ | refine q6 ?_ | refine q7 ?_ | refine q8 ?_ | refine q9 ?_ | refine q10 ?_ | refine q11 ?_ | refine q12 ?_ | refine q13 ?_ | refine q14 ?_ | refine q15 ?_); conv => whnf) | ((refine q16 (fun _ _ _ _ _ => ?_)); conv => whnf) | ((with_reducible first | refine q17 ?_ | refine q18 ?_ | refine q19 ?_ | refine q20 ?_); conv => whnf)))
      refine HoldN.butR (vs := [.slice (some ⟨g, 0, none⟩) n n, .slice bw wr.length cw]) rfl (fun j x hj => by rw [Nat.zero_add]; exact hBm7.cell' hj) (by intro e; cases e; omega) ?_
      ((conv => whnf); repeat' (first | ((with_reducible first | refine q1 ?_ | refine q2 ?_); conv => whnf) | (with_reducible refine q3 ?_) | ((with_reducible refine q4 (fun _ => ?_) (fun _ => ?_)) <;> first | (exfalso; omega) | (conv => whnf)) | ((with_reducible first | refine q5 ?_ | refine q6 ?_ | refine q7 ?_ | refine q8 ?_ | refine q9 ?_ | refine q10 ?_ | refine q11 ?_ | refine q12 ?_ | refine q13 ?_ | refine q14 ?_ | refine q15 ?_); conv => whnf) | ((refine q16 (fun _ _ _ _ _ => ?_)); conv => whnf) | ((with_reducible first | refine q17 ?_ | refine q18 ?_ | refine q19 ?_ | refine q20 ?_); conv => whnf)))
      refine StoreA.var hB48 rfl rfl rfl fun w9 hu9 hB9 => ?_
      refine Anew.mk (grown_then ⟨hd8.os, hd8.tape, hd8.output, by rw [hd8.size]; exact Nat.le_refl _, fun k hk _ => by rw [hd8.heap]⟩ hu9) ?_
      have hw9 : Ex w w9 := (hw7.tr hd8.ex).upd hu9 (by omega)
      ((conv => whnf); repeat' (first | ((with_reducible first | refine q1 ?_ | refine q2 ?_); conv => whnf) | (with_reducible refine q3 ?_) | ((with_reducible refine q4 (fun _ => ?_) (fun _ => ?_)) <;> first | (exfalso; omega) | (conv => whnf)) | ((with_reducible first | refine q5 ?_ | refine q6 ?_ | refine q7 ?_ | refine q8 ?_ | refine q9 ?_ | refine q10 ?_ | refine q11 ?_ | refine q12 ?_ | refine q13 ?_ | refine q14 ?_ | refine q15 ?_); conv => whnf) | ((refine q16 (fun _ _ _ _ _ => ?_)); conv => whnf) | ((with_reducible first | refine q17 ?_ | refine q18 ?_ | refine q19 ?_ | refine q20 ?_); conv => whnf)))
      refine ⟨hw9, some ⟨g, 0, none⟩, n, ss, bw, cw, ?_, ?_, hR, ?_, ⟨fun a ha => (hO.row.at_ ha).1, fun t ht a ha => ?_⟩, fun a ha => by have := hbwN a.block (by rw [ha]; rfl); omega⟩
      · rw [sortI_length, hsl]; rfl
      · have hg9 : v.grownBy w9 (blkOf bw) → True := fun _ => trivial
        have hNe : ∀ (b : Option Addr) (m c : Nat) (cs : List Value), Own u w.heap.size 3 1 b m c cs → (∀ x, blkOf b = some x → bm < x) → Row w9 b cs := by
          intro b m c cs ho hbig
          have h1 := (ho.ex he6).grown hgv (by cases hb : b with
            | none => exact .inl rfl
            | some a => right; intro e; have := hbig bm (by rw [hb]; exact e); omega)
          have h2 := h1.grown hg7 (by cases hb : b with
            | none => exact .inl rfl
            | some a => right; intro e; have h3 := (ho.at_ hb).2; have h4 := hbwN a.block (by rw [← e]; rfl); omega)
          have h3 := (h2.ex hd8.ex).upd hu9 (by intro e; have := hbig _ e; omega)
          exact h3.row
        refine ⟨?_, by omega, ?_⟩
        · have h1 := (hO.row.ex he6).grown hgv (.inr (by simp [blkOf]; omega))
          have h2 := h1.grown hg7 (.inr (by intro e; have := hbwN g (by rw [← e]; rfl); omega))
          exact ((h2.ex hd8.ex).upd hu9 (by simp [blkOf]; omega)).row
        · intro t ht
          obtain ⟨i, hi, rfl⟩ := List.mem_iff_getElem.1 ht
          exact ⟨hNe _ _ _ _ (hO.each i hi) (hbig i hi), hrl _ (List.getElem_mem hi)⟩
      · exact ((hO7.ex hd8.ex).upd hu9 (by intro e; have := hbwN _ e; omega)).row
      · obtain ⟨i, hi, rfl⟩ := List.mem_iff_getElem.1 ht
        exact ((hO.each i hi).at_ ha).1
end Go.Proofs
