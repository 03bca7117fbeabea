/-
  L8: a part of the proof. By an AI agent.
-/
import Derived.Test.YtpeihahmhpamoaaGreatVQ
import Derived.Test.YtpeihahmhpamoaaGreatV9
import Derived.Test.YtpeihahmhpamoaaGreatL7
set_option linter.all false
namespace Go.Proofs
open Go.V
open Go.RowKit (Below)
/-! ### leaves of data -/
def dotsJ (rows : List (List Int)) (j : Nat) : List (Int × Int) := rows.zipIdx.map fun p => ((p.2 : Int) + 1, p.1.getD j 0)
def placeM (rows : List (List Int)) (j : Nat) : List Int := throughM (dotsJ rows j)
theorem dataB_spec {s : Shape} {d : List (List Int)} (h : dataB s d = true) : (d.length : Int) = s.data ∧ ∀ l ∈ d, (l.length : Int) = s.width ∧ isW l := by
  simp only [dataB, Bool.and_eq_true, decide_eq_true_eq, List.all_eq_true] at h
  exact ⟨h.1, fun l hl => ⟨(h.2 l hl).1, words_spec (h.2 l hl).2⟩⟩
theorem shOk_spec {s : Shape} (h : shOk s = true) : 1 ≤ s.data ∧ s.data ≤ 20 ∧ 0 ≤ s.checks ∧ s.checks ≤ 20 ∧ 1 ≤ s.width ∧ s.width ≤ 32 := by simpa [shOk] using h
theorem dotsJ_take (rows : List (List Int)) (j k : Nat) (hk : k < rows.length) : dotsJ (rows.take (k + 1)) j = dotsJ (rows.take k) j ++ [((k : Int) + 1, rows[k].getD j 0)] := by
  unfold dotsJ
  rw [List.take_succ_eq_append_getElem hk, List.zipIdx_append]
  simp [Nat.min_eq_left (Nat.le_of_lt hk)]
theorem dotsJ_length (rows : List (List Int)) (j : Nat) : (dotsJ rows j).length = rows.length := by simp [dotsJ]
theorem dotsJ_ok {rows : List (List Int)} {j : Nat} (hl : rows.length ≤ 20) (h : ∀ l ∈ rows, isW l) : ∀ p ∈ dotsJ rows j, dotB p = true := by
  intro p hp
  simp only [dotsJ, List.mem_map] at hp
  obtain ⟨⟨r, k⟩, hm, rfl⟩ := hp
  obtain ⟨h1, h2, h3⟩ := List.mem_zipIdx hm
  have hr : r ∈ rows := by rw [h3]; exact List.getElem_mem _
  have : 0 ≤ r.getD j 0 ∧ r.getD j 0 ≤ 65520 := by
    rw [List.getD_eq_getElem?_getD]
    cases hg : r[j]? with
    | none => simp
    | some x => exact h r hr x (List.mem_of_getElem? hg)
  simp only [dotB, wordB, Bool.and_eq_true, decide_eq_true_eq]
  exact ⟨by omega, this⟩
theorem Tryz.places1 (s : Shape) (b1 b2 M : Nat) (base : Option Addr) (cap : Nat) (ss : List Sl) (I : World → Prop)
    (hI : ∀ u, I u → Blk u b1 (shC s) 23 ∧ u.cell? ⟨b2, 0, none⟩ = some (.slice base ss.length cap) ∧ Sls u base ss ∧ M ≤ u.heap.size) (hE : ExK I) (hs : shOk s = true) (hd : dataB s (rowsOf ss) = true) :
    IterG Tryz.prog 129 (fun y => [y, .pointer (some ⟨b1, 0, none⟩), .pointer (some ⟨b2, 0, none⟩)]) s.width.toNat
      (fun j vs u => ∃ b c, vs = [.int .i64 (j : Int), .slice b (placeM (rowsOf ss) j).length c] ∧ Row u b (ints (placeM (rowsOf ss) j)) ∧ ∀ a, b = some a → M ≤ a.block) I := by
  intro l J Jx hJ hJx hy u0 h0 hI0
  obtain ⟨hB0, hc0, hS0, hM0⟩ := hI _ hI0
  obtain ⟨hs1, hs2, hs3, hs4, hs5, hs6⟩ := shOk_spec hs
  obtain ⟨hd1, hd2⟩ := dataB_spec hd
  rw [rowsOf_length] at hd1
  refine callA_intro Tryz.tbOk Tryz.func129 rfl Tryz.ntmps129 Tryz.results129 (by decide) (by simp) ?_
  ((conv => whnf); repeat' (first | ((with_reducible first | refine q1 ?_ | refine q2 ?_); conv => whnf) | (with_reducible refine q3 ?_) | ((with_reducible refine q4 (fun _ => ?_) (fun _ => ?_)) <;> first | (exfalso; omega) | (conv => whnf)) | ((with_reducible first | refine q5 ?_ | refine q6 ?_ | refine q7 ?_ | refine q8 ?_ | refine q9 ?_ | refine q10 ?_ | refine q11 ?_ | refine q12 ?_ | refine q13 ?_ | refine q14 ?_ | refine q15 ?_); conv => whnf) | ((refine q16 (fun _ _ _ _ _ => ?_)); conv => whnf) | ((with_reducible first | refine q17 ?_ | refine q18 ?_ | refine q19 ?_ | refine q20 ?_); conv => whnf)))
  refine loop_rule Tryz.tbOk Nat [10] (fun j => [.int .i64 (j:Int)]) (fun j w' => j ≤ s.width.toNat ∧ J j w' ∧ I w') (fun j => s.width.toNat - j) 0 rfl ⟨by omega, h0, hI0⟩ ?_
  rintro j w' ⟨hj, hJj, hIj⟩ u
  obtain ⟨hB, hc, hS, hM⟩ := hI _ hIj
  by_cases hlt : j < s.width.toNat
  · ((conv => whnf); repeat' (first | ((with_reducible first | refine q1 ?_ | refine q2 ?_); conv => whnf) | (with_reducible refine q3 ?_) | ((with_reducible refine q4 (fun _ => ?_) (fun _ => ?_)) <;> first | (exfalso; omega) | (conv => whnf)) | ((with_reducible first | refine q5 ?_ | refine q6 ?_ | refine q7 ?_ | refine q8 ?_ | refine q9 ?_ | refine q10 ?_ | refine q11 ?_ | refine q12 ?_ | refine q13 ?_ | refine q14 ?_ | refine q15 ?_); conv => whnf) | ((refine q16 (fun _ _ _ _ _ => ?_)); conv => whnf) | ((with_reducible first | refine q17 ?_ | refine q18 ?_ | refine q19 ?_ | refine q20 ?_); conv => whnf)))
    refine loop_rule Tryz.tbOk (Nat × Option Addr × Nat × Nat) [15, 5] (fun | (k, bl, n, cl) => [.int .i64 (k:Int), .slice bl n cl])
      (fun | (k, bl, n, cl), w2 => k ≤ ss.length ∧ n = k ∧ Own w2 w'.heap.size 70 2 bl n cl (rowC dotC (dotsJ ((rowsOf ss).take k) j)) ∧ Ex w' w2) (fun | (k, _, _, _) => ss.length - k)
      (0, none, 0, 0) rfl ⟨by omega, rfl, Own.nil _ _ _ _, Ex.refl _⟩ ?_
    rintro ⟨k, bl, n, cl⟩ w2 ⟨hk, rfl, hO, he2⟩ u2
    have hS2 := hS.ex he2
    by_cases hkl : n < ss.length
    · ((conv => whnf); repeat' (first | ((with_reducible first | refine q1 ?_ | refine q2 ?_); conv => whnf) | (with_reducible refine q3 ?_) | ((with_reducible refine q4 (fun _ => ?_) (fun _ => ?_)) <;> first | (exfalso; omega) | (conv => whnf)) | ((with_reducible first | refine q5 ?_ | refine q6 ?_ | refine q7 ?_ | refine q8 ?_ | refine q9 ?_ | refine q10 ?_ | refine q11 ?_ | refine q12 ?_ | refine q13 ?_ | refine q14 ?_ | refine q15 ?_); conv => whnf) | ((refine q16 (fun _ _ _ _ _ => ?_)); conv => whnf) | ((with_reducible first | refine q17 ?_ | refine q18 ?_ | refine q19 ?_ | refine q20 ?_); conv => whnf)))
      refine IdxA.elem (sz := 1) hS2.1 (fun _ => rfl) (by decide) rfl n rfl hkl (fun b o hb hc => ?_)
      (conv => whnf)
      refine Load1.mk' (hc 0 _ rfl) ?_
      ((conv => whnf); repeat' (first | ((with_reducible first | refine q1 ?_ | refine q2 ?_); conv => whnf) | (with_reducible refine q3 ?_) | ((with_reducible refine q4 (fun _ => ?_) (fun _ => ?_)) <;> first | (exfalso; omega) | (conv => whnf)) | ((with_reducible first | refine q5 ?_ | refine q6 ?_ | refine q7 ?_ | refine q8 ?_ | refine q9 ?_ | refine q10 ?_ | refine q11 ?_ | refine q12 ?_ | refine q13 ?_ | refine q14 ?_ | refine q15 ?_); conv => whnf) | ((refine q16 (fun _ _ _ _ _ => ?_)); conv => whnf) | ((with_reducible first | refine q17 ?_ | refine q18 ?_ | refine q19 ?_ | refine q20 ?_); conv => whnf)))
      have hrk := slsGet hS2 hkl
      have hjl := (hd2 ss[n].xs (by rw [← rowsOf_get hkl]; exact List.getElem_mem _)).1
      have hjl' : j < ss[n].xs.length := by omega
      refine IdxA.ints hrk.1 rfl j rfl hjl' fun _ _ _ hcj => ?_
      ((conv => whnf); repeat' (first | ((with_reducible first | refine q1 ?_ | refine q2 ?_); conv => whnf) | (with_reducible refine q3 ?_) | ((with_reducible refine q4 (fun _ => ?_) (fun _ => ?_)) <;> first | (exfalso; omega) | (conv => whnf)) | ((with_reducible first | refine q5 ?_ | refine q6 ?_ | refine q7 ?_ | refine q8 ?_ | refine q9 ?_ | refine q10 ?_ | refine q11 ?_ | refine q12 ?_ | refine q13 ?_ | refine q14 ?_ | refine q15 ?_); conv => whnf) | ((refine q16 (fun _ _ _ _ _ => ?_)); conv => whnf) | ((with_reducible first | refine q17 ?_ | refine q18 ?_ | refine q19 ?_ | refine q20 ?_); conv => whnf)))
      refine NewS.mk' (cs := dotC ((n : Int) + 1, ss[n].xs[j])) fun w3 b3 hb3 hs3 he3 hB3 => ?_
      ((conv => whnf); repeat' (first | ((with_reducible first | refine q1 ?_ | refine q2 ?_); conv => whnf) | (with_reducible refine q3 ?_) | ((with_reducible refine q4 (fun _ => ?_) (fun _ => ?_)) <;> first | (exfalso; omega) | (conv => whnf)) | ((with_reducible first | refine q5 ?_ | refine q6 ?_ | refine q7 ?_ | refine q8 ?_ | refine q9 ?_ | refine q10 ?_ | refine q11 ?_ | refine q12 ?_ | refine q13 ?_ | refine q14 ?_ | refine q15 ?_); conv => whnf) | ((refine q16 (fun _ _ _ _ _ => ?_)); conv => whnf) | ((with_reducible first | refine q17 ?_ | refine q18 ?_ | refine q19 ?_ | refine q20 ?_); conv => whnf)))
      refine RunV.append (e := 70) (sz := 2) (by_ := 16) (m := 1) (news := dotC ((n : Int) + 1, ss[n].xs[j])) Tryz.tbOk w'.heap.size (hO.ex he3) hB3.row rfl rfl (all_one rfl) (by omega) (by omega) rfl (by decide) (by have := he2.size; omega) fun w4 b4 c4 ho4 hg4 hb4 => ?_
      ((conv => whnf); repeat' (first | ((with_reducible first | refine q1 ?_ | refine q2 ?_); conv => whnf) | (with_reducible refine q3 ?_) | ((with_reducible refine q4 (fun _ => ?_) (fun _ => ?_)) <;> first | (exfalso; omega) | (conv => whnf)) | ((with_reducible first | refine q5 ?_ | refine q6 ?_ | refine q7 ?_ | refine q8 ?_ | refine q9 ?_ | refine q10 ?_ | refine q11 ?_ | refine q12 ?_ | refine q13 ?_ | refine q14 ?_ | refine q15 ?_); conv => whnf) | ((refine q16 (fun _ _ _ _ _ => ?_)); conv => whnf) | ((with_reducible first | refine q17 ?_ | refine q18 ?_ | refine q19 ?_ | refine q20 ?_); conv => whnf)))
      refine ⟨(n + 1, b4, n + 1, c4), rfl, ⟨by omega, rfl, ?_, (he2.tr he3).grow hg4 (fun b hb => (hO.blk_ge b hb).1)⟩, by simp only []; omega⟩
      rw [dotsJ_take _ _ _ (by rw [rowsOf_length]; exact hkl), rowC_append, rowsOf_get hkl]
      have : ss[n].xs.getD j 0 = ss[n].xs[j] := by simp [hjl']
      rw [this]
      exact ho4
    · have : n = ss.length := by omega
      subst this
      rw [List.take_of_length_le (by rw [rowsOf_length]; omega)] at hO
      ((conv => whnf); repeat' (first | ((with_reducible first | refine q1 ?_ | refine q2 ?_); conv => whnf) | (with_reducible refine q3 ?_) | ((with_reducible refine q4 (fun _ => ?_) (fun _ => ?_)) <;> first | (exfalso; omega) | (conv => whnf)) | ((with_reducible first | refine q5 ?_ | refine q6 ?_ | refine q7 ?_ | refine q8 ?_ | refine q9 ?_ | refine q10 ?_ | refine q11 ?_ | refine q12 ?_ | refine q13 ?_ | refine q14 ?_ | refine q15 ?_); conv => whnf) | ((refine q16 (fun _ _ _ _ _ => ?_)); conv => whnf) | ((with_reducible first | refine q17 ?_ | refine q18 ?_ | refine q19 ?_ | refine q20 ?_); conv => whnf)))
      have hlen : (dotsJ (rowsOf ss) j).length = ss.length := by rw [dotsJ_length, rowsOf_length]
      have hth := Tryz.through bl cl (dotsJ (rowsOf ss) j) w2 hO.row (by omega) (dotsJ_ok (by rw [rowsOf_length]; omega) (fun l hl => (hd2 l hl).2))
      rw [hlen] at hth
      refine CallA.mono hth ?_
      rintro v w3 ⟨b3, c3, rfl, ho3, he3⟩
      ((conv => whnf); repeat' (first | ((with_reducible first | refine q1 ?_ | refine q2 ?_); conv => whnf) | (with_reducible refine q3 ?_) | ((with_reducible refine q4 (fun _ => ?_) (fun _ => ?_)) <;> first | (exfalso; omega) | (conv => whnf)) | ((with_reducible first | refine q5 ?_ | refine q6 ?_ | refine q7 ?_ | refine q8 ?_ | refine q9 ?_ | refine q10 ?_ | refine q11 ?_ | refine q12 ?_ | refine q13 ?_ | refine q14 ?_ | refine q15 ?_); conv => whnf) | ((refine q16 (fun _ _ _ _ _ => ?_)); conv => whnf) | ((with_reducible first | refine q17 ?_ | refine q18 ?_ | refine q19 ?_ | refine q20 ?_); conv => whnf)))
      have hy' := hy j _ hlt w3 ⟨b3, c3, rfl, ho3.row, fun a ha => by have h1 := (ho3.at_ ha).1; have h2 := he2.size; omega⟩ (hJ _ _ _ hJj (he2.tr he3)) (hE _ _ hIj (he2.tr he3))
      refine YieldA.mono hy' ?_
      rintro v w4 (⟨rfl, hJ4, hI4⟩ | ⟨rfl, hJx4⟩)
      · ((conv => whnf); repeat' (first | ((with_reducible first | refine q1 ?_ | refine q2 ?_); conv => whnf) | (with_reducible refine q3 ?_) | ((with_reducible refine q4 (fun _ => ?_) (fun _ => ?_)) <;> first | (exfalso; omega) | (conv => whnf)) | ((with_reducible first | refine q5 ?_ | refine q6 ?_ | refine q7 ?_ | refine q8 ?_ | refine q9 ?_ | refine q10 ?_ | refine q11 ?_ | refine q12 ?_ | refine q13 ?_ | refine q14 ?_ | refine q15 ?_); conv => whnf) | ((refine q16 (fun _ _ _ _ _ => ?_)); conv => whnf) | ((with_reducible first | refine q17 ?_ | refine q18 ?_ | refine q19 ?_ | refine q20 ?_); conv => whnf)))
        exact ⟨j + 1, rfl, ⟨by omega, hJ4, hI4⟩, by omega⟩
      · ((conv => whnf); repeat' (first | ((with_reducible first | refine q1 ?_ | refine q2 ?_); conv => whnf) | (with_reducible refine q3 ?_) | ((with_reducible refine q4 (fun _ => ?_) (fun _ => ?_)) <;> first | (exfalso; omega) | (conv => whnf)) | ((with_reducible first | refine q5 ?_ | refine q6 ?_ | refine q7 ?_ | refine q8 ?_ | refine q9 ?_ | refine q10 ?_ | refine q11 ?_ | refine q12 ?_ | refine q13 ?_ | refine q14 ?_ | refine q15 ?_); conv => whnf) | ((refine q16 (fun _ _ _ _ _ => ?_)); conv => whnf) | ((with_reducible first | refine q17 ?_ | refine q18 ?_ | refine q19 ?_ | refine q20 ?_); conv => whnf)))
        exact .inr hJx4
  · ((conv => whnf); repeat' (first | ((with_reducible first | refine q1 ?_ | refine q2 ?_); conv => whnf) | (with_reducible refine q3 ?_) | ((with_reducible refine q4 (fun _ => ?_) (fun _ => ?_)) <;> first | (exfalso; omega) | (conv => whnf)) | ((with_reducible first | refine q5 ?_ | refine q6 ?_ | refine q7 ?_ | refine q8 ?_ | refine q9 ?_ | refine q10 ?_ | refine q11 ?_ | refine q12 ?_ | refine q13 ?_ | refine q14 ?_ | refine q15 ?_); conv => whnf) | ((refine q16 (fun _ _ _ _ _ => ?_)); conv => whnf) | ((with_reducible first | refine q17 ?_ | refine q18 ?_ | refine q19 ?_ | refine q20 ?_); conv => whnf)))
    have : j = s.width.toNat := by omega
    subst this
    exact .inl hJj
/-- leaves that are held alone -/
structure LvO (w : World) (N : Nat) (base : Option Addr) (cap : Nat) (ls : List Lf) : Prop where
  row : Own w N 59 2 base ls.length cap (rowC lfC ls)
  each : ∀ i (h : i < ls.length), Own w N 3 1 ls[i].words.base ls[i].words.xs.length ls[i].words.cap (ints ls[i].words.xs)
  apart : ∀ i j (hi : i < ls.length) (hj : j < ls.length), i ≠ j → ls[i].words.base = none ∨ blkOf ls[i].words.base ≠ blkOf ls[j].words.base
  off : ∀ i (hi : i < ls.length), ls[i].words.base = none ∨ blkOf ls[i].words.base ≠ blkOf base
theorem LvO.grown {w w' : World} {N : Nat} {base : Option Addr} {cap : Nat} {ls : List Lf} (h : LvO w N base cap ls) {row : Option Nat} (g : w.grownBy w' row) (h1 : base = none ∨ blkOf base ≠ row) (h2 : ∀ i (hi : i < ls.length), ls[i].words.base = none ∨ blkOf ls[i].words.base ≠ row) : LvO w' N base cap ls :=
  ⟨h.row.grown g h1, fun i hi => (h.each i hi).grown g (h2 i hi), h.apart, h.off⟩
theorem LvO.ex {w w' : World} {N : Nat} {base : Option Addr} {cap : Nat} {ls : List Lf} (h : LvO w N base cap ls) (e : Ex w w') : LvO w' N base cap ls :=
  ⟨h.row.ex e, fun i hi => (h.each i hi).ex e, h.apart, h.off⟩
theorem lfC_len (x : Lf) : (lfC x).length = 2 := rfl
/-- a word of a leaf is written -/
theorem LvO.word {w w' : World} {N b : Nat} {base : Option Addr} {cap : Nat} {ls : List Lf} (h : LvO w N base cap ls) {i : Nat} (hi : i < ls.length) {xs : List Int} (hb : ls[i].words.base = some ⟨b, 0, none⟩) (hx : xs.length = ls[i].words.xs.length)
    (u : Upd w w' b) (ho : Own w' N 3 1 ls[i].words.base ls[i].words.xs.length ls[i].words.cap (ints xs)) : LvO w' N base cap (ls.set i { ls[i] with words := { ls[i].words with xs := xs } }) := by
  have hne := h.off i hi
  have hget : ∀ j (hj : j < (ls.set i { ls[i] with words := { ls[i].words with xs := xs } }).length), (ls.set i { ls[i] with words := { ls[i].words with xs := xs } })[j].words.base = (ls[j]'(by simpa using hj)).words.base := by
    intro j hj
    rw [List.getElem_set]
    split
    · rename_i e; subst e; rfl
    · rfl
  refine ⟨?_, ?_, ?_, ?_⟩
  · have h1 := h.row.upd u (by
      rcases hne with h | h
      · rw [h] at hb; cases hb
      · rw [hb] at h; intro e; rw [e] at h; simp [blkOf] at h)
    have hc : lfC { ls[i] with words := { ls[i].words with xs := xs } } = lfC ls[i] := by simp [lfC, Sl.val, hx]
    have : rowC lfC (ls.set i { ls[i] with words := { ls[i].words with xs := xs } }) = rowC lfC ls := by
      rw [← rowC_set (sz := 2) (fun _ => rfl) ls i _ hi, hc]
      have := rowC_set (sz := 2) (c := lfC) (fun _ => rfl) ls i ls[i] hi
      rw [this, List.set_getElem_self]
    rw [this, List.length_set]; exact h1
  · intro j hj
    rw [List.getElem_set]
    split
    · rename_i e; subst e; simp only []; rw [hx]; exact ho
    · rename_i e
      have hj' : j < ls.length := by simpa using hj
      refine (h.each j hj').upd u ?_
      rcases h.apart i j hi hj' e with h1 | h1
      · rw [h1] at hb; cases hb
      · rw [hb] at h1; intro e2; rw [e2] at h1; simp [blkOf] at h1
  · intro j k hj hk hjk
    rw [hget, hget]; exact h.apart j k _ _ hjk
  · intro j hj
    rw [hget]; exact h.off j _
/-- a leaf is put into the row, its words in a block of their own -/
theorem LvO.put {w w' : World} {N g : Nat} {base : Option Addr} {cap : Nat} {ls : List Lf} (h : LvO w N base cap ls) {i : Nat} (hi : i < ls.length) {x : Lf} (hg : base = some ⟨g, 0, none⟩)
    (u : Upd w w' g) (ho : Own w' N 59 2 base ls.length cap (rowC lfC (ls.set i x))) (hx : Own w' N 3 1 x.words.base x.words.xs.length x.words.cap (ints x.words.xs)) (hxb : x.words.base = none ∨ blkOf x.words.base ≠ blkOf base)
    (hne : ∀ j (hj : j < ls.length), ls[j].words.base = none ∨ blkOf ls[j].words.base ≠ blkOf x.words.base) : LvO w' N base cap (ls.set i x) := by
  refine ⟨by rw [List.length_set]; exact ho, ?_, ?_, ?_⟩
  · intro j hj
    have hj' : j < ls.length := by simpa using hj
    rw [List.getElem_set]
    split
    · exact hx
    · have h2 := h.off j hj'
      rw [hg] at h2
      exact (h.each j hj').grown (grown_upd u) (by simpa [blkOf] using h2)
  · intro j k hj hk hjk
    have hj' : j < ls.length := by simpa using hj
    have hk' : k < ls.length := by simpa using hk
    rw [List.getElem_set, List.getElem_set]
    split
    · split
      · omega
      · by_cases hxn : x.words.base = none
        · exact .inl hxn
        · rcases hne k hk' with h1 | h1
          · right; rw [h1]
            intro e
            cases hb : x.words.base with
            | none => exact hxn hb
            | some a => rw [hb] at e; simp [blkOf] at e
          · exact .inr (fun e => h1 e.symm)
    · split
      · exact hne j hj'
      · exact h.apart j k hj' hk' hjk
  · intro j hj
    have hj' : j < ls.length := by simpa using hj
    rw [List.getElem_set]
    split
    · exact hxb
    · exact h.off j hj'
end Go.Proofs
