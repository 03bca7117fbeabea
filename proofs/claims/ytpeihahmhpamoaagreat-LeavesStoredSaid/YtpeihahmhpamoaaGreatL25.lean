/-
  L25: a part of the proof. By an AI agent.
-/
import Derived.Test.YtpeihahmhpamoaaGreatVQ
import Derived.Test.YtpeihahmhpamoaaGreatV10
import Derived.Test.YtpeihahmhpamoaaGreatL24
set_option linter.all false
namespace Go.Proofs
open Go.V
open Go.RowKit (Below)
theorem findP_none {rows : List (List Int)} {used c : Nat} (h : ∀ i (hi : i < rows.length), used ≤ i → rows[i].getD c 0 = 0) : findP rows used c = none := by
  unfold findP
  rw [Option.map_eq_none_iff, List.findIdx?_eq_none_iff]
  intro r hr
  obtain ⟨i, hi, rfl⟩ := List.mem_iff_getElem.1 hr
  rw [List.length_drop] at hi
  rw [List.getElem_drop]
  simpa using h (used + i) (by omega) (by omega)
theorem findP_some {rows : List (List Int)} {used c p : Nat} (hu : used ≤ p) (hp : p < rows.length) (h : ∀ i (hi : i < p), used ≤ i → (rows[i]'(by omega)).getD c 0 = 0) (hn : rows[p].getD c 0 ≠ 0) : findP rows used c = some p := by
  unfold findP
  have : (rows.drop used).findIdx? (fun r => decide (r.getD c 0 ≠ 0)) = some (p - used) := by
    rw [List.findIdx?_eq_some_iff_getElem]
    refine ⟨by rw [List.length_drop]; omega, ?_, ?_⟩
    · rw [List.getElem_drop]
      have e : used + (p - used) = p := by omega
      simp only [e]
      simpa using hn
    · intro j hj
      rw [List.getElem_drop]
      simpa using h (used + j) (by omega) (by omega)
  rw [this]
  simp; omega
theorem getD_word {r : List Int} (h : isW r) (c : Nat) : 0 ≤ r.getD c 0 ∧ r.getD c 0 ≤ 65520 := by
  rw [List.getD_eq_getElem?_getD]
  cases hg : r[c]? with
  | none => simp
  | some x => exact h x (List.mem_of_getElem? hg)
theorem getD_get {α : Type} {l : List α} {i : Nat} (h : i < l.length) (d : α) : l.getD i d = l[i] := by simp [h]
theorem Own.cell1 {w : World} {N T g n cap : Nat} {cs : List Value} (h : Own w N T 1 (some ⟨g, 0, none⟩) n cap cs) {k : Nat} {v : Value} (hv : cs[k]? = some v) : w.cell? ⟨g, k, none⟩ = some v := by
  obtain ⟨b, o, hb, hc⟩ := h.row.at_ (by intro e; rw [e] at hv; simp at hv)
  cases hb
  have := hc k v hv
  rwa [Nat.zero_add] at this
theorem IdxA.at0' {g n k : Nat} {i : Int} {K : Addr → Prop} (hi : i = (k : Int)) (hk : k < n) (f : K ⟨g, k, none⟩) : IdxA (some ⟨g, 0, none⟩) i n 1 K := by
  refine ⟨⟨g, 0, none⟩, rfl, by omega, by omega, ?_⟩
  rw [addr_add, hi, Int.toNat_natCast, Nat.mul_one, Nat.zero_add]; exact f
theorem IdxA.at0 {g n k : Nat} {K : Addr → Prop} (f : K ⟨g, k, none⟩) (hk : k < n := by omega) : IdxA (some ⟨g, 0, none⟩) (k : Int) n 1 K := IdxA.at0' rfl hk f
theorem slRow_get (ss : List Sl) {k : Nat} (hk : k < ss.length) : (rowC slC ss)[k]? = some ss[k].val := by
  have := rowC_get (c := slC) (sz := 1) (fun _ => rfl) ss k 0 hk (by decide)
  rw [Nat.mul_one, Nat.add_zero] at this; rw [this]; rfl
theorem RwO.cell {w : World} {N g cap : Nat} {ss : List Sl} (h : RwO w N (some ⟨g, 0, none⟩) cap ss) {k : Nat} (hk : k < ss.length) : w.cell? ⟨g, k, none⟩ = some ss[k].val := Own.cell1 h.row (slRow_get ss hk)
theorem RwO.in_ {w : World} {N g cap : Nat} {ss : List Sl} (h : RwO w N (some ⟨g, 0, none⟩) cap ss) {k : Nat} (hk : k < ss.length) (hx : 0 < ss[k].xs.length) : ∃ b, ss[k].base = some ⟨b, 0, none⟩ ∧ b ≠ g ∧ N ≤ b ∧ ∀ c (hc : c < ss[k].xs.length), w.cell? ⟨b, c, none⟩ = some (.int .i64 ss[k].xs[c]) := by
  have he := h.each k hk
  have ho := h.off k hk
  rcases he.2 with ⟨hv, h0⟩ | ⟨b, cap', cur, hv, hN, _⟩
  · omega
  · injection hv with h1
    refine ⟨b, h1, ?_, hN, fun c hc => ?_⟩
    · rw [h1] at ho; simpa [blkOf] using ho
    · rw [h1] at he
      exact Own.cell1 he (ints_get hc)
theorem RwO.openAt {w : World} {N g cap b L : Nat} {ss : List Sl} {i : Nat} {s : Sl} (h : RwO w N (some ⟨g, 0, none⟩) cap ss) (hs : ss[i]? = some s) (hb : s.base = some ⟨b, 0, none⟩) (hx : s.xs.length = L) :
    w.cell? ⟨g, i, none⟩ = some (.slice (some ⟨b, 0, none⟩) L s.cap) ∧ Own w N 3 1 (some ⟨b, 0, none⟩) L s.cap (ints s.xs) ∧ ∀ (c : Nat) (x : Int), s.xs[c]? = some x → w.cell? ⟨b, c, none⟩ = some (.int .i64 x) := by
  obtain ⟨hi, rfl⟩ := List.getElem?_eq_some_iff.1 hs
  have ho := h.each i hi
  rw [hb, hx] at ho
  refine ⟨?_, ho, fun c x hc => Own.cell1 ho (by simp [ints, hc])⟩
  rw [h.cell hi, Sl.val, hb, hx]
def _root_.Go.V.Sl.put (s : Sl) (xs : List Int) : Sl := ⟨s.base, s.cap, xs⟩
theorem _root_.Go.V.Sl.put_self (s : Sl) : s.put s.xs = s := rfl
theorem RwO.openPut {w : World} {N g cap b L : Nat} {ss : List Sl} {i : Nat} {xs : List Int} (hi : i < ss.length) (h : RwO w N (some ⟨g, 0, none⟩) cap (ss.set i (ss[i].put xs))) (hb : ss[i].base = some ⟨b, 0, none⟩) (hx : xs.length = L) :
    w.cell? ⟨g, i, none⟩ = some (.slice (some ⟨b, 0, none⟩) L ss[i].cap) ∧ Own w N 3 1 (some ⟨b, 0, none⟩) L ss[i].cap (ints xs) ∧ ∀ (c : Nat) (x : Int), xs[c]? = some x → w.cell? ⟨b, c, none⟩ = some (.int .i64 x) :=
  h.openAt (i := i) (List.getElem?_set_self hi) hb hx
theorem RwO.base_ {w : World} {N g cap : Nat} {ss : List Sl} (h : RwO w N (some ⟨g, 0, none⟩) cap ss) {k : Nat} (hk : k < ss.length) (hx : 0 < ss[k].xs.length) : ∃ b, ss[k].base = some ⟨b, 0, none⟩ ∧ b ≠ g ∧ N ≤ b := by
  obtain ⟨b, h1, h2, h3, _⟩ := h.in_ hk hx
  exact ⟨b, h1, h2, h3⟩
theorem RwO.ne_ {w : World} {N g cap : Nat} {ss : List Sl} (h : RwO w N (some ⟨g, 0, none⟩) cap ss) {i j a b : Nat} (hi : i < ss.length) (hj : j < ss.length) (hij : i ≠ j) (h1 : ss[i].base = some ⟨a, 0, none⟩) (h2 : ss[j].base = some ⟨b, 0, none⟩) : a ≠ b := by
  rcases h.apart i j hi hj hij with h | h
  · rw [h] at h1; cases h1
  · rw [h1, h2] at h; simpa [blkOf] using h
/-- a number of a row that is changed is changed again -/
theorem RwO.word2 {w w' : World} {N b : Nat} {base : Option Addr} {cap : Nat} {ss : List Sl} {i : Nat} (hi : i < ss.length) {xs0 xs : List Int} (h : RwO w N base cap (ss.set i (ss[i].put xs0))) (hb : ss[i].base = some ⟨b, 0, none⟩) (hx : xs.length = xs0.length)
    (u : Upd w w' b) (ho : Own w' N 3 1 (some ⟨b, 0, none⟩) xs0.length ss[i].cap (ints xs)) : RwO w' N base cap (ss.set i (ss[i].put xs)) := by
  have hi' : i < (ss.set i (ss[i].put xs0)).length := by simpa using hi
  have e : (ss.set i (ss[i].put xs0))[i] = ss[i].put xs0 := by simp
  have h2 := h.word (i := i) hi' (xs := xs) (b := b) (by rw [e]; exact hb) (by rw [e]; exact hx) u (by rw [e]; simp only [Sl.put]; rw [hb]; exact ho)
  rw [List.set_set, e] at h2
  exact h2
/-- what stays while equations are solved -/
structure SolveFr (w w2 : World) (N b3 ba many : Nat) (at_ : List Int) (u : World) : Prop where
  be : Below N w u
  own : Own u w.heap.size 3 1 (some ⟨ba, 0, none⟩) many many (ints at_)
  blk : Blk u b3 [.int .i64 (many : Int)] 3
  sz : w2.heap.size ≤ u.heap.size
theorem SolveFr.ex {w w2 : World} {N b3 ba many : Nat} {at_ : List Int} {u u' : World} (h : SolveFr w w2 N b3 ba many at_ u) (e : Ex u u') (hN : N ≤ w.heap.size) : SolveFr w w2 N b3 ba many at_ u' :=
  ⟨h.be.trans (e.mono (by have := h.be.size; omega)), h.own.ex e, h.blk.ex e, Nat.le_trans h.sz e.size⟩
theorem SolveFr.upd {w w2 : World} {N b3 ba many : Nat} {at_ : List Int} {u u' : World} (h : SolveFr w w2 N b3 ba many at_ u) {b : Nat} (e : Upd u u' b) (hb : N ≤ b) (hb2 : b < w.heap.size) (h3 : w.heap.size ≤ b3) (ha : w.heap.size ≤ ba) : SolveFr w w2 N b3 ba many at_ u' :=
  ⟨h.be.trans (e.below hb), h.own.upd e (by simp [blkOf]; omega), e.blk h.blk (by omega), by rw [e.size]; exact h.sz⟩
theorem RowsW.get {n : Nat} {ss : List Sl} (h : RowsW n (rowsOf ss)) {i : Nat} (hi : i < ss.length) : ss[i].xs.length = n ∧ isW ss[i].xs := by
  have := h ((rowsOf ss)[i]'(by rw [rowsOf_length]; exact hi)) (List.getElem_mem _)
  rwa [rowsOf_get hi] at this
theorem Tryz.solve1 (many b : Nat) (ss xs : List Sl) (hs : ∀ s ∈ xs, s ∈ ss) (hl : ∀ s ∈ ss, s.xs.length = many + 1) : PredA Tryz.prog 179 [.pointer (some ⟨b, 0, none⟩)] Sl.val xs (fun s => decide (s.xs.getD many 0 ≠ 0)) fun u => Blk u b [.int .i64 (many : Int)] 3 ∧ ∀ s ∈ ss, Row u s.base (ints s.xs) := by
  intro s hm w ⟨hb, hr⟩
  have hrs := hr s (hs s hm)
  have hls := hl s (hs s hm)
  have hlt : many < s.xs.length := by omega
  refine callA_intro Tryz.tbOk Tryz.func179 rfl Tryz.ntmps179 Tryz.results179 (by decide) (by simp) ?_
  ((conv => whnf); repeat' (first | ((with_reducible first | refine q1 ?_ | refine q2 ?_); conv => whnf) | (with_reducible refine q3 ?_) | ((with_reducible refine q4 (fun _ => ?_) (fun _ => ?_)) <;> first | (exfalso; omega) | (conv => whnf)) | ((with_reducible first | refine q5 ?_ | refine q6 ?_ | refine q7 ?_ | refine q8 ?_ | refine q9 ?_ | refine q10 ?_ | refine q11 ?_ | refine q12 ?_ | refine q13 ?_ | refine q14 ?_ | refine q15 ?_); conv => whnf) | ((refine q16 (fun _ _ _ _ _ => ?_)); conv => whnf) | ((with_reducible first | refine q17 ?_ | refine q18 ?_ | refine q19 ?_ | refine q20 ?_); conv => whnf)))
  refine ⟨?_, Ex.refl _⟩
  show _ = Value.bool (decide (s.xs.getD many 0 ≠ 0))
  rw [getD_get hlt]
def solF (rows : List (List Int)) (many : Nat) (k : Int) : Int := if 0 < k then (rows.getD (k - 1).toNat []).getD many 0 else 0
def solAt (rows : List (List Int)) (many : Nat) (at_ : List Int) (k : Nat) : List Int := (at_.take k).map (solF rows many) ++ List.replicate (at_.length - k) 0
theorem solAt_zero (rows : List (List Int)) (many : Nat) (at_ : List Int) : solAt rows many at_ 0 = List.replicate at_.length 0 := by simp [solAt]
theorem solAt_all (rows : List (List Int)) (many : Nat) (at_ : List Int) : solAt rows many at_ at_.length = at_.map (solF rows many) := by simp [solAt]
theorem solAt_length (rows : List (List Int)) (many : Nat) (at_ : List Int) {k : Nat} (hk : k ≤ at_.length) : (solAt rows many at_ k).length = at_.length := by simp [solAt]; omega
theorem solAt_set (rows : List (List Int)) (many : Nat) (at_ : List Int) {k : Nat} (hk : k < at_.length) : (solAt rows many at_ k).set k (solF rows many at_[k]) = solAt rows many at_ (k + 1) := by
  unfold solAt
  rw [List.take_succ_eq_append_getElem hk, List.map_append, show at_.length - k = (at_.length - (k + 1)) + 1 by omega, List.replicate_succ]
  exact (mid_get _ _ _ _ _ (by simp; omega)).2
theorem solAt_skip (rows : List (List Int)) (many : Nat) (at_ : List Int) {k : Nat} (hk : k < at_.length) (h : ¬ 0 < at_[k]) : solAt rows many at_ k = solAt rows many at_ (k + 1) := by
  unfold solAt
  rw [List.take_succ_eq_append_getElem hk, List.map_append, show at_.length - k = (at_.length - (k + 1)) + 1 by omega, List.replicate_succ]
  simp [solF, h]
set_option maxRecDepth 4000 in
set_option maxHeartbeats 2000000 in
theorem Tryz.solve (g cap N many : Nat) (ss0 : List Sl) (w : World) (hO0 : RwO w N (some ⟨g, 0, none⟩) cap ss0) (hN : N ≤ w.heap.size) (hW0 : RowsW (many + 1) (rowsOf ss0)) (hm : many ≤ 100000) (hl : ss0.length ≤ 100000) :
    CallA Tryz.prog 142 [.slice (some ⟨g, 0, none⟩) ss0.length cap, .int .i64 (many : Int)] w fun v w' => Below N w w' ∧ match solveM (rowsOf ss0) many with
      | none => v = .tuple #[.slice none 0 0, .bool false]
      | some xs => ∃ b c, v = .tuple #[.slice b xs.length c, .bool true] ∧ Own w' w.heap.size 3 1 b xs.length c (ints xs) := by
  have hg : N ≤ g ∧ g < w.heap.size := by simpa using hO0.row.at_ rfl
  have hbl0 : ∀ i (hi : i < ss0.length), ∀ a, ss0[i].base = some a → a.block < w.heap.size := fun i hi a ha => ((hO0.each i hi).at_ ha).2
  refine callA_intro Tryz.tbOk Tryz.func142 rfl Tryz.ntmps142 Tryz.results142 (by decide) (by simp) ?_
  ((conv => whnf); repeat' (first | ((with_reducible first | refine q1 ?_ | refine q2 ?_); conv => whnf) | (with_reducible refine q3 ?_) | ((with_reducible refine q4 (fun _ => ?_) (fun _ => ?_)) <;> first | (exfalso; omega) | (conv => whnf)) | ((with_reducible first | refine q5 ?_ | refine q6 ?_ | refine q7 ?_ | refine q8 ?_ | refine q9 ?_ | refine q10 ?_ | refine q11 ?_ | refine q12 ?_ | refine q13 ?_ | refine q14 ?_ | refine q15 ?_); conv => whnf) | ((refine q16 (fun _ _ _ _ _ => ?_)); conv => whnf) | ((with_reducible first | refine q17 ?_ | refine q18 ?_ | refine q19 ?_ | refine q20 ?_); conv => whnf)))
  refine NewA.mk' fun w1 b3 hb3 hs3 he1 hB3 => ?_; ((conv => whnf); repeat' (first | ((with_reducible first | refine q1 ?_ | refine q2 ?_); conv => whnf) | (with_reducible refine q3 ?_) | ((with_reducible refine q4 (fun _ => ?_) (fun _ => ?_)) <;> first | (exfalso; omega) | (conv => whnf)) | ((with_reducible first | refine q5 ?_ | refine q6 ?_ | refine q7 ?_ | refine q8 ?_ | refine q9 ?_ | refine q10 ?_ | refine q11 ?_ | refine q12 ?_ | refine q13 ?_ | refine q14 ?_ | refine q15 ?_); conv => whnf) | ((refine q16 (fun _ _ _ _ _ => ?_)); conv => whnf) | ((with_reducible first | refine q17 ?_ | refine q18 ?_ | refine q19 ?_ | refine q20 ?_); conv => whnf)))
  refine RunV.make (e := 3) (sz := 1) (by_ := 8) Tryz.tbOk w.heap.size many many rfl rfl rfl (by omega) (by omega) (by omega) rfl (by decide) (by omega) fun w2 ba hba hsa he2 hoa => ?_
  have hoa' : Own w2 w.heap.size 3 1 (some ⟨ba, 0, none⟩) many many (ints (List.replicate many 0)) := by rw [← ints_rep]; exact hoa
  have hB32 : Blk w2 b3 [.int .i64 (many : Int)] 3 := Blk.ex hB3 he2
  have hEw := he1.tr he2
  ((conv => whnf); repeat' (first | ((with_reducible first | refine q1 ?_ | refine q2 ?_); conv => whnf) | (with_reducible refine q3 ?_) | ((with_reducible refine q4 (fun _ => ?_) (fun _ => ?_)) <;> first | (exfalso; omega) | (conv => whnf)) | ((with_reducible first | refine q5 ?_ | refine q6 ?_ | refine q7 ?_ | refine q8 ?_ | refine q9 ?_ | refine q10 ?_ | refine q11 ?_ | refine q12 ?_ | refine q13 ?_ | refine q14 ?_ | refine q15 ?_); conv => whnf) | ((refine q16 (fun _ _ _ _ _ => ?_)); conv => whnf) | ((with_reducible first | refine q17 ?_ | refine q18 ?_ | refine q19 ?_ | refine q20 ?_); conv => whnf)))
  refine loop_rule Tryz.tbOk (Nat × Nat × List Int × List Sl) [22, 7] (fun | (c, used, _, _) => [.int .i64 (c:Int), .int .i64 (used:Int)])
    (fun | (c, used, at_, ss), u => c ≤ many ∧ used ≤ c ∧ used ≤ ss.length ∧ ss.length = ss0.length ∧ at_.length = many ∧ RwO u N (some ⟨g, 0, none⟩) cap ss ∧ RowsW (many + 1) (rowsOf ss) ∧ (∀ i (hi : i < ss.length), ∀ a, ss[i].base = some a → a.block < w.heap.size) ∧
      Own u w.heap.size 3 1 (some ⟨ba, 0, none⟩) many many (ints at_) ∧ Blk u b3 [.int .i64 (many : Int)] 3 ∧ Below N w u ∧ w2.heap.size ≤ u.heap.size ∧ (∀ x ∈ at_, 0 ≤ x ∧ x ≤ (used : Int)) ∧
      solveG (many - c) c used (rowsOf ss) at_ = solveG many 0 0 (rowsOf ss0) (List.replicate many 0)) (fun | (c, _, _, _) => many - c)
    (0, 0, List.replicate many 0, ss0) rfl ⟨by omega, by omega, by omega, rfl, by simp, hO0.ex hEw, hW0, hbl0, hoa', hB32, Below.mono hEw hN, Nat.le_refl _, ?_, rfl⟩ ?_
  · intro x hx; have := (List.mem_replicate.1 hx).2; omega
  rintro ⟨c, used, at_, ss⟩ u ⟨hc, huc, hul, hsl, hal, hO, hRW, hbl, hoa3, hB3u, hBe, hsz, hatr, hG⟩ uu
  have hrow := hO.row.row
  have hRWi : ∀ i (hi : i < ss.length), ss[i].xs.length = many + 1 ∧ isW ss[i].xs := fun i hi => by
    have := hRW ((rowsOf ss)[i]'(by rw [rowsOf_length]; exact hi)) (List.getElem_mem _)
    rwa [rowsOf_get hi] at this
  by_cases hcm : c < many
  · obtain ⟨n, hn⟩ : ∃ n, many - c = n + 1 := ⟨many - c - 1, by omega⟩
    rw [hn, solveG] at hG
    ((conv => whnf); repeat' (first | ((with_reducible first | refine q1 ?_ | refine q2 ?_); conv => whnf) | (with_reducible refine q3 ?_) | ((with_reducible refine q4 (fun _ => ?_) (fun _ => ?_)) <;> first | (exfalso; omega) | (conv => whnf)) | ((with_reducible first | refine q5 ?_ | refine q6 ?_ | refine q7 ?_ | refine q8 ?_ | refine q9 ?_ | refine q10 ?_ | refine q11 ?_ | refine q12 ?_ | refine q13 ?_ | refine q14 ?_ | refine q15 ?_); conv => whnf) | ((refine q16 (fun _ _ _ _ _ => ?_)); conv => whnf) | ((with_reducible first | refine q17 ?_ | refine q18 ?_ | refine q19 ?_ | refine q20 ?_); conv => whnf)))
    refine scope_rule Tryz.tbOk ?_
    ((conv => whnf); repeat' (first | ((with_reducible first | refine q1 ?_ | refine q2 ?_); conv => whnf) | (with_reducible refine q3 ?_) | ((with_reducible refine q4 (fun _ => ?_) (fun _ => ?_)) <;> first | (exfalso; omega) | (conv => whnf)) | ((with_reducible first | refine q5 ?_ | refine q6 ?_ | refine q7 ?_ | refine q8 ?_ | refine q9 ?_ | refine q10 ?_ | refine q11 ?_ | refine q12 ?_ | refine q13 ?_ | refine q14 ?_ | refine q15 ?_); conv => whnf) | ((refine q16 (fun _ _ _ _ _ => ?_)); conv => whnf) | ((with_reducible first | refine q17 ?_ | refine q18 ?_ | refine q19 ?_ | refine q20 ?_); conv => whnf)))
    refine loop_rule Tryz.tbOk (Nat × Int) [10, 9] (fun | (r, p) => [.int .i64 (r:Int), .int .i64 p]) (fun | (r, p), u' => u' = u ∧ p = -1 ∧ used ≤ r ∧ r ≤ ss.length ∧ ∀ i (hi : i < r) (hi2 : i < ss.length), used ≤ i → ss[i].xs.getD c 0 = 0) (fun | (r, _) => ss.length - r)
      (used, -1) rfl ⟨rfl, rfl, by omega, by omega, fun i hi _ h => by omega⟩ ?_
    rintro ⟨r, p⟩ u' ⟨rfl, rfl, hur, hr, hzero⟩ ux
    by_cases hrl : r < ss.length
    · obtain ⟨hxl, hxw⟩ := hRWi r hrl
      have hrr := (hO.each r hrl).row
      ((conv => whnf); repeat' (first | ((with_reducible first | refine q1 ?_ | refine q2 ?_); conv => whnf) | (with_reducible refine q3 ?_) | ((with_reducible refine q4 (fun _ => ?_) (fun _ => ?_)) <;> first | (exfalso; omega) | (conv => whnf)) | ((with_reducible first | refine q5 ?_ | refine q6 ?_ | refine q7 ?_ | refine q8 ?_ | refine q9 ?_ | refine q10 ?_ | refine q11 ?_ | refine q12 ?_ | refine q13 ?_ | refine q14 ?_ | refine q15 ?_); conv => whnf) | ((refine q16 (fun _ _ _ _ _ => ?_)); conv => whnf) | ((with_reducible first | refine q17 ?_ | refine q18 ?_ | refine q19 ?_ | refine q20 ?_); conv => whnf)))
      refine IdxA.elem (sz := 1) hrow (fun _ => rfl) (by decide) hsl.symm r rfl hrl (fun bq oq hbq hcq => ?_)
      (conv => whnf)
      refine Load1.mk' (hcq 0 _ rfl) ?_
      ((conv => whnf); repeat' (first | ((with_reducible first | refine q1 ?_ | refine q2 ?_); conv => whnf) | (with_reducible refine q3 ?_) | ((with_reducible refine q4 (fun _ => ?_) (fun _ => ?_)) <;> first | (exfalso; omega) | (conv => whnf)) | ((with_reducible first | refine q5 ?_ | refine q6 ?_ | refine q7 ?_ | refine q8 ?_ | refine q9 ?_ | refine q10 ?_ | refine q11 ?_ | refine q12 ?_ | refine q13 ?_ | refine q14 ?_ | refine q15 ?_); conv => whnf) | ((refine q16 (fun _ _ _ _ _ => ?_)); conv => whnf) | ((with_reducible first | refine q17 ?_ | refine q18 ?_ | refine q19 ?_ | refine q20 ?_); conv => whnf)))
      · rename_i hne _
        have hxc : ss[r].xs.getD c 0 = ss[r].xs[c]'(by omega) := getD_get (by omega) 0
        have hP : findP (rowsOf ss) used c = some r := findP_some hur (by rw [rowsOf_length]; exact hrl) (fun i hi hui => by
          rw [rowsOf_get (by omega)]; exact hzero i hi (by omega) hui) (by rw [rowsOf_get hrl, hxc]; simpa using hne)
        rw [hP] at hG
        simp only [] at hG
        have hus : used < ss.length := by omega
        refine draw_rule Tryz.tbOk Tryz.mix (fun _ => True) (.take 0 (.take 1 (.take 2 (.take 3 (.take 4 (.take 5 (.take 6 (.take 8 (.take 9 (.take 10 (.two 7 (.one 11 (.take 12 (.one 13 (.take 14 (.fin 15))))) 11 (.one 7 (.take 12 (.one 13 (.take 14 (.fin 15)))))))))))))))) (by kernel_rfl) (by kernel_rfl) ?_
        intro u1 hd1
        refine ⟨trivial, ?_⟩
        have hO1 := hO.ex hd1.ex
        ((conv => whnf); repeat' (first | ((with_reducible first | refine q1 ?_ | refine q2 ?_); conv => whnf) | (with_reducible refine q3 ?_) | ((with_reducible refine q4 (fun _ => ?_) (fun _ => ?_)) <;> first | (exfalso; omega) | (conv => whnf)) | ((with_reducible first | refine q5 ?_ | refine q6 ?_ | refine q7 ?_ | refine q8 ?_ | refine q9 ?_ | refine q10 ?_ | refine q11 ?_ | refine q12 ?_ | refine q13 ?_ | refine q14 ?_ | refine q15 ?_); conv => whnf) | ((refine q16 (fun _ _ _ _ _ => ?_)); conv => whnf) | ((with_reducible first | refine q17 ?_ | refine q18 ?_ | refine q19 ?_ | refine q20 ?_); conv => whnf)))
        refine IdxA.at0 ?_
        ((conv => whnf); repeat' (first | ((with_reducible first | refine q1 ?_ | refine q2 ?_); conv => whnf) | (with_reducible refine q3 ?_) | ((with_reducible refine q4 (fun _ => ?_) (fun _ => ?_)) <;> first | (exfalso; omega) | (conv => whnf)) | ((with_reducible first | refine q5 ?_ | refine q6 ?_ | refine q7 ?_ | refine q8 ?_ | refine q9 ?_ | refine q10 ?_ | refine q11 ?_ | refine q12 ?_ | refine q13 ?_ | refine q14 ?_ | refine q15 ?_); conv => whnf) | ((refine q16 (fun _ _ _ _ _ => ?_)); conv => whnf) | ((with_reducible first | refine q17 ?_ | refine q18 ?_ | refine q19 ?_ | refine q20 ?_); conv => whnf)))
        refine IdxA.at0 ?_
        ((conv => whnf); repeat' (first | ((with_reducible first | refine q1 ?_ | refine q2 ?_); conv => whnf) | (with_reducible refine q3 ?_) | ((with_reducible refine q4 (fun _ => ?_) (fun _ => ?_)) <;> first | (exfalso; omega) | (conv => whnf)) | ((with_reducible first | refine q5 ?_ | refine q6 ?_ | refine q7 ?_ | refine q8 ?_ | refine q9 ?_ | refine q10 ?_ | refine q11 ?_ | refine q12 ?_ | refine q13 ?_ | refine q14 ?_ | refine q15 ?_); conv => whnf) | ((refine q16 (fun _ _ _ _ _ => ?_)); conv => whnf) | ((with_reducible first | refine q17 ?_ | refine q18 ?_ | refine q19 ?_ | refine q20 ?_); conv => whnf)))
        have hcr := hO1.cell hrl
        have hcu := hO1.cell hus
        refine And2.mk ?_ ?_
        all_goals
          ((conv => whnf); repeat' (first | ((with_reducible first | refine q1 ?_ | refine q2 ?_); conv => whnf) | (with_reducible refine q3 ?_) | ((with_reducible refine q4 (fun _ => ?_) (fun _ => ?_)) <;> first | (exfalso; omega) | (conv => whnf)) | ((with_reducible first | refine q5 ?_ | refine q6 ?_ | refine q7 ?_ | refine q8 ?_ | refine q9 ?_ | refine q10 ?_ | refine q11 ?_ | refine q12 ?_ | refine q13 ?_ | refine q14 ?_ | refine q15 ?_); conv => whnf) | ((refine q16 (fun _ _ _ _ _ => ?_)); conv => whnf) | ((with_reducible first | refine q17 ?_ | refine q18 ?_ | refine q19 ?_ | refine q20 ?_); conv => whnf)))
          refine Anew.mk trivial ?_
          ((conv => whnf); repeat' (first | ((with_reducible first | refine q1 ?_ | refine q2 ?_); conv => whnf) | (with_reducible refine q3 ?_) | ((with_reducible refine q4 (fun _ => ?_) (fun _ => ?_)) <;> first | (exfalso; omega) | (conv => whnf)) | ((with_reducible first | refine q5 ?_ | refine q6 ?_ | refine q7 ?_ | refine q8 ?_ | refine q9 ?_ | refine q10 ?_ | refine q11 ?_ | refine q12 ?_ | refine q13 ?_ | refine q14 ?_ | refine q15 ?_); conv => whnf) | ((refine q16 (fun _ _ _ _ _ => ?_)); conv => whnf) | ((with_reducible first | refine q17 ?_ | refine q18 ?_ | refine q19 ?_ | refine q20 ?_); conv => whnf)))
          refine Anew.mk trivial ?_
          ((conv => whnf); repeat' (first | ((with_reducible first | refine q1 ?_ | refine q2 ?_); conv => whnf) | (with_reducible refine q3 ?_) | ((with_reducible refine q4 (fun _ => ?_) (fun _ => ?_)) <;> first | (exfalso; omega) | (conv => whnf)) | ((with_reducible first | refine q5 ?_ | refine q6 ?_ | refine q7 ?_ | refine q8 ?_ | refine q9 ?_ | refine q10 ?_ | refine q11 ?_ | refine q12 ?_ | refine q13 ?_ | refine q14 ?_ | refine q15 ?_); conv => whnf) | ((refine q16 (fun _ _ _ _ _ => ?_)); conv => whnf) | ((with_reducible first | refine q17 ?_ | refine q18 ?_ | refine q19 ?_ | refine q20 ?_); conv => whnf)))
          refine IdxA.at0 ?_
          ((conv => whnf); repeat' (first | ((with_reducible first | refine q1 ?_ | refine q2 ?_); conv => whnf) | (with_reducible refine q3 ?_) | ((with_reducible refine q4 (fun _ => ?_) (fun _ => ?_)) <;> first | (exfalso; omega) | (conv => whnf)) | ((with_reducible first | refine q5 ?_ | refine q6 ?_ | refine q7 ?_ | refine q8 ?_ | refine q9 ?_ | refine q10 ?_ | refine q11 ?_ | refine q12 ?_ | refine q13 ?_ | refine q14 ?_ | refine q15 ?_); conv => whnf) | ((refine q16 (fun _ _ _ _ _ => ?_)); conv => whnf) | ((with_reducible first | refine q17 ?_ | refine q18 ?_ | refine q19 ?_ | refine q20 ?_); conv => whnf)))
          refine StoreA.own1 hO1.row rfl hus rfl fun w3 hu3 ho3 => ?_
          ((conv => whnf); repeat' (first | ((with_reducible first | refine q1 ?_ | refine q2 ?_); conv => whnf) | (with_reducible refine q3 ?_) | ((with_reducible refine q4 (fun _ => ?_) (fun _ => ?_)) <;> first | (exfalso; omega) | (conv => whnf)) | ((with_reducible first | refine q5 ?_ | refine q6 ?_ | refine q7 ?_ | refine q8 ?_ | refine q9 ?_ | refine q10 ?_ | refine q11 ?_ | refine q12 ?_ | refine q13 ?_ | refine q14 ?_ | refine q15 ?_); conv => whnf) | ((refine q16 (fun _ _ _ _ _ => ?_)); conv => whnf) | ((with_reducible first | refine q17 ?_ | refine q18 ?_ | refine q19 ?_ | refine q20 ?_); conv => whnf)))
          refine Anew.mk trivial ?_
          ((conv => whnf); repeat' (first | ((with_reducible first | refine q1 ?_ | refine q2 ?_); conv => whnf) | (with_reducible refine q3 ?_) | ((with_reducible refine q4 (fun _ => ?_) (fun _ => ?_)) <;> first | (exfalso; omega) | (conv => whnf)) | ((with_reducible first | refine q5 ?_ | refine q6 ?_ | refine q7 ?_ | refine q8 ?_ | refine q9 ?_ | refine q10 ?_ | refine q11 ?_ | refine q12 ?_ | refine q13 ?_ | refine q14 ?_ | refine q15 ?_); conv => whnf) | ((refine q16 (fun _ _ _ _ _ => ?_)); conv => whnf) | ((with_reducible first | refine q17 ?_ | refine q18 ?_ | refine q19 ?_ | refine q20 ?_); conv => whnf)))
          refine IdxA.at0 ?_
          ((conv => whnf); repeat' (first | ((with_reducible first | refine q1 ?_ | refine q2 ?_); conv => whnf) | (with_reducible refine q3 ?_) | ((with_reducible refine q4 (fun _ => ?_) (fun _ => ?_)) <;> first | (exfalso; omega) | (conv => whnf)) | ((with_reducible first | refine q5 ?_ | refine q6 ?_ | refine q7 ?_ | refine q8 ?_ | refine q9 ?_ | refine q10 ?_ | refine q11 ?_ | refine q12 ?_ | refine q13 ?_ | refine q14 ?_ | refine q15 ?_); conv => whnf) | ((refine q16 (fun _ _ _ _ _ => ?_)); conv => whnf) | ((with_reducible first | refine q17 ?_ | refine q18 ?_ | refine q19 ?_ | refine q20 ?_); conv => whnf)))
          refine StoreA.own1 ho3 rfl hrl rfl fun w4 hu4 ho4 => ?_
          rw [slRow_set, slRow_set, ← swapL_eq hus hrl] at ho4
          have hO4 : RwO w4 N (some ⟨g, 0, none⟩) cap (swapL ss used r) := hO1.swap hus hrl rfl (grown_upd (hu3.trans hu4)) ho4
          have hF4 : SolveFr w w2 N b3 ba many at_ w4 := SolveFr.ex ⟨hBe, hoa3, hB3u, hsz⟩ hd1.ex hN |>.upd (hu3.trans hu4) hg.1 hg.2 (by omega) (by have := he1.size; omega)
          clear ho3 hu3 hu4 ho4 hcr hcu hO1 hoa3 hB3u hO hrow hrr hBe
          obtain ⟨ss1, hss1⟩ : ∃ s, s = swapL ss used r := ⟨_, rfl⟩
          rw [← hss1] at hO4
          have hl1 : ss1.length = ss.length := by rw [hss1, swapL_length]
          have hR1 : rowsOf ss1 = swapL (rowsOf ss) used r := by rw [hss1, rowsOf_swap ss hus hrl]
          have hW1 : RowsW (many + 1) (rowsOf ss1) := by rw [hR1]; exact hRW.swap _ _
          have hbl1 : ∀ i (hi : i < ss1.length), ∀ a, ss1[i].base = some a → a.block < w.heap.size := by
            subst hss1; intro i hi a ha; rw [swapL_get hus hrl hi] at ha; exact hbl _ _ a ha
          have hu1 : used < ss1.length := by omega
          obtain ⟨hxl1, hxw1⟩ := hW1.get hu1
          obtain ⟨bu, hbu, hbug, hbuN⟩ := hO4.base_ hu1 (by omega)
          have hbuw := hbl1 _ hu1 _ hbu
          obtain ⟨hcu, -, hcel⟩ := hO4.openAt (List.getElem?_eq_getElem hu1) hbu hxl1
          have hcc := hcel c _ (List.getElem?_eq_getElem (by omega))
          have hxr := hxw1 _ (List.getElem_mem (show c < ss1[used].xs.length by omega))
          ((conv => whnf); repeat' (first | ((with_reducible first | refine q1 ?_ | refine q2 ?_); conv => whnf) | (with_reducible refine q3 ?_) | ((with_reducible refine q4 (fun _ => ?_) (fun _ => ?_)) <;> first | (exfalso; omega) | (conv => whnf)) | ((with_reducible first | refine q5 ?_ | refine q6 ?_ | refine q7 ?_ | refine q8 ?_ | refine q9 ?_ | refine q10 ?_ | refine q11 ?_ | refine q12 ?_ | refine q13 ?_ | refine q14 ?_ | refine q15 ?_); conv => whnf) | ((refine q16 (fun _ _ _ _ _ => ?_)); conv => whnf) | ((with_reducible first | refine q17 ?_ | refine q18 ?_ | refine q19 ?_ | refine q20 ?_); conv => whnf)))
          refine IdxA.at0 ?_
          ((conv => whnf); repeat' (first | ((with_reducible first | refine q1 ?_ | refine q2 ?_); conv => whnf) | (with_reducible refine q3 ?_) | ((with_reducible refine q4 (fun _ => ?_) (fun _ => ?_)) <;> first | (exfalso; omega) | (conv => whnf)) | ((with_reducible first | refine q5 ?_ | refine q6 ?_ | refine q7 ?_ | refine q8 ?_ | refine q9 ?_ | refine q10 ?_ | refine q11 ?_ | refine q12 ?_ | refine q13 ?_ | refine q14 ?_ | refine q15 ?_); conv => whnf) | ((refine q16 (fun _ _ _ _ _ => ?_)); conv => whnf) | ((with_reducible first | refine q17 ?_ | refine q18 ?_ | refine q19 ?_ | refine q20 ?_); conv => whnf)))
          refine IdxA.at0 ?_
          ((conv => whnf); repeat' (first | ((with_reducible first | refine q1 ?_ | refine q2 ?_); conv => whnf) | (with_reducible refine q3 ?_) | ((with_reducible refine q4 (fun _ => ?_) (fun _ => ?_)) <;> first | (exfalso; omega) | (conv => whnf)) | ((with_reducible first | refine q5 ?_ | refine q6 ?_ | refine q7 ?_ | refine q8 ?_ | refine q9 ?_ | refine q10 ?_ | refine q11 ?_ | refine q12 ?_ | refine q13 ?_ | refine q14 ?_ | refine q15 ?_); conv => whnf) | ((refine q16 (fun _ _ _ _ _ => ?_)); conv => whnf) | ((with_reducible first | refine q17 ?_ | refine q18 ?_ | refine q19 ?_ | refine q20 ?_); conv => whnf)))
          refine CallA.mono (Tryz.inverse _ _ (by omega)) ?_; rintro v w5 ⟨rfl, he5⟩; ((conv => whnf); repeat' (first | ((with_reducible first | refine q1 ?_ | refine q2 ?_); conv => whnf) | (with_reducible refine q3 ?_) | ((with_reducible refine q4 (fun _ => ?_) (fun _ => ?_)) <;> first | (exfalso; omega) | (conv => whnf)) | ((with_reducible first | refine q5 ?_ | refine q6 ?_ | refine q7 ?_ | refine q8 ?_ | refine q9 ?_ | refine q10 ?_ | refine q11 ?_ | refine q12 ?_ | refine q13 ?_ | refine q14 ?_ | refine q15 ?_); conv => whnf) | ((refine q16 (fun _ _ _ _ _ => ?_)); conv => whnf) | ((with_reducible first | refine q17 ?_ | refine q18 ?_ | refine q19 ?_ | refine q20 ?_); conv => whnf)))
          have hcu5 := he5.cell hcu
          refine IdxA.at0 ?_
          ((conv => whnf); repeat' (first | ((with_reducible first | refine q1 ?_ | refine q2 ?_); conv => whnf) | (with_reducible refine q3 ?_) | ((with_reducible refine q4 (fun _ => ?_) (fun _ => ?_)) <;> first | (exfalso; omega) | (conv => whnf)) | ((with_reducible first | refine q5 ?_ | refine q6 ?_ | refine q7 ?_ | refine q8 ?_ | refine q9 ?_ | refine q10 ?_ | refine q11 ?_ | refine q12 ?_ | refine q13 ?_ | refine q14 ?_ | refine q15 ?_); conv => whnf) | ((refine q16 (fun _ _ _ _ _ => ?_)); conv => whnf) | ((with_reducible first | refine q17 ?_ | refine q18 ?_ | refine q19 ?_ | refine q20 ?_); conv => whnf)))
          have hyr := powM_range (ss1[used].xs[c]'(by omega)) 65519
          obtain ⟨y, hy⟩ : ∃ y, y = powM (ss1[used].xs[c]'(by omega)) 65519 := ⟨_, rfl⟩
          rw [← hy] at hyr ⊢
          refine loop_rule Tryz.tbOk Nat [70] (fun k => [.int .i64 (k:Int)]) (fun k u => k ≤ many + 1 ∧ RwO u N (some ⟨g, 0, none⟩) cap (ss1.set used (ss1[used].put (partAt (fun a => a * y % 65521) ss1[used].xs k))) ∧ SolveFr w w2 N b3 ba many at_ u) (fun k => many + 1 - k)
            0 rfl ⟨by omega, by rw [partAt_zero, Sl.put_self, List.set_getElem_self]; exact hO4.ex he5, hF4.ex he5 hN⟩ ?_
          rintro k u6 ⟨hk, hO6, hF6⟩ ux6
          by_cases hkm : k < many + 1
          · ((conv => whnf); repeat' (first | ((with_reducible first | refine q1 ?_ | refine q2 ?_); conv => whnf) | (with_reducible refine q3 ?_) | ((with_reducible refine q4 (fun _ => ?_) (fun _ => ?_)) <;> first | (exfalso; omega) | (conv => whnf)) | ((with_reducible first | refine q5 ?_ | refine q6 ?_ | refine q7 ?_ | refine q8 ?_ | refine q9 ?_ | refine q10 ?_ | refine q11 ?_ | refine q12 ?_ | refine q13 ?_ | refine q14 ?_ | refine q15 ?_); conv => whnf) | ((refine q16 (fun _ _ _ _ _ => ?_)); conv => whnf) | ((with_reducible first | refine q17 ?_ | refine q18 ?_ | refine q19 ?_ | refine q20 ?_); conv => whnf)))
            refine draw_rule Tryz.tbOk Tryz.mix (fun u2 => Ex u6 u2) (.take 0 (.take 1 (.take 2 (.take 3 (.take 4 (.take 5 (.take 6 (.take 7 (.take 8 (.take 9 (.take 10 (.take 11 (.take 12 (.take 13 (.one 14 (.take 15 (.fin 16))))))))))))))))) (by kernel_rfl) (by kernel_rfl) ?_
            intro u7 hd7
            refine ⟨hd7.ex, ?_⟩
            have hO7 := hO6.ex hd7.ex
            have hF7 := hF6.ex hd7.ex hN
            have hpl : (partAt (fun a => a * y % 65521) ss1[used].xs k).length = many + 1 := by rw [partAt_length (by omega), hxl1]
            obtain ⟨hp1, hp2⟩ := partAt_next (g := fun a => a * y % 65521) (r := ss1[used].xs) (k := k) (by omega)
            obtain ⟨hc7, hor7, hce7⟩ := hO7.openPut hu1 hbu hpl
            have hce7 := hce7 k _ hp1
            have hxk := hxw1 _ (List.getElem_mem (show k < ss1[used].xs.length by omega))
            have hmul := mul_word (a := ss1[used].xs[k]'(by omega)) (by omega) hyr
            have hc6 : u6.cell? ⟨g, used, none⟩ = _ := (hO6.openPut hu1 hbu hpl).1
            have hce6 : u6.cell? ⟨bu, k, none⟩ = _ := (hO6.openPut hu1 hbu hpl).2.2 k _ hp1
            ((conv => whnf); repeat' (first | ((with_reducible first | refine q1 ?_ | refine q2 ?_); conv => whnf) | (with_reducible refine q3 ?_) | ((with_reducible refine q4 (fun _ => ?_) (fun _ => ?_)) <;> first | (exfalso; omega) | (conv => whnf)) | ((with_reducible first | refine q5 ?_ | refine q6 ?_ | refine q7 ?_ | refine q8 ?_ | refine q9 ?_ | refine q10 ?_ | refine q11 ?_ | refine q12 ?_ | refine q13 ?_ | refine q14 ?_ | refine q15 ?_); conv => whnf) | ((refine q16 (fun _ _ _ _ _ => ?_)); conv => whnf) | ((with_reducible first | refine q17 ?_ | refine q18 ?_ | refine q19 ?_ | refine q20 ?_); conv => whnf)))
            refine IdxA.at0 ?_
            ((conv => whnf); repeat' (first | ((with_reducible first | refine q1 ?_ | refine q2 ?_); conv => whnf) | (with_reducible refine q3 ?_) | ((with_reducible refine q4 (fun _ => ?_) (fun _ => ?_)) <;> first | (exfalso; omega) | (conv => whnf)) | ((with_reducible first | refine q5 ?_ | refine q6 ?_ | refine q7 ?_ | refine q8 ?_ | refine q9 ?_ | refine q10 ?_ | refine q11 ?_ | refine q12 ?_ | refine q13 ?_ | refine q14 ?_ | refine q15 ?_); conv => whnf) | ((refine q16 (fun _ _ _ _ _ => ?_)); conv => whnf) | ((with_reducible first | refine q17 ?_ | refine q18 ?_ | refine q19 ?_ | refine q20 ?_); conv => whnf)))
            refine IdxA.at0 ?_
            ((conv => whnf); repeat' (first | ((with_reducible first | refine q1 ?_ | refine q2 ?_); conv => whnf) | (with_reducible refine q3 ?_) | ((with_reducible refine q4 (fun _ => ?_) (fun _ => ?_)) <;> first | (exfalso; omega) | (conv => whnf)) | ((with_reducible first | refine q5 ?_ | refine q6 ?_ | refine q7 ?_ | refine q8 ?_ | refine q9 ?_ | refine q10 ?_ | refine q11 ?_ | refine q12 ?_ | refine q13 ?_ | refine q14 ?_ | refine q15 ?_); conv => whnf) | ((refine q16 (fun _ _ _ _ _ => ?_)); conv => whnf) | ((with_reducible first | refine q17 ?_ | refine q18 ?_ | refine q19 ?_ | refine q20 ?_); conv => whnf)))
            refine IdxA.at0 ?_
            ((conv => whnf); repeat' (first | ((with_reducible first | refine q1 ?_ | refine q2 ?_); conv => whnf) | (with_reducible refine q3 ?_) | ((with_reducible refine q4 (fun _ => ?_) (fun _ => ?_)) <;> first | (exfalso; omega) | (conv => whnf)) | ((with_reducible first | refine q5 ?_ | refine q6 ?_ | refine q7 ?_ | refine q8 ?_ | refine q9 ?_ | refine q10 ?_ | refine q11 ?_ | refine q12 ?_ | refine q13 ?_ | refine q14 ?_ | refine q15 ?_); conv => whnf) | ((refine q16 (fun _ _ _ _ _ => ?_)); conv => whnf) | ((with_reducible first | refine q17 ?_ | refine q18 ?_ | refine q19 ?_ | refine q20 ?_); conv => whnf)))
            refine CallA.mono (Tryz.mod _ _ (by omega)) ?_; rintro v w8 ⟨rfl, rfl⟩; ((conv => whnf); repeat' (first | ((with_reducible first | refine q1 ?_ | refine q2 ?_); conv => whnf) | (with_reducible refine q3 ?_) | ((with_reducible refine q4 (fun _ => ?_) (fun _ => ?_)) <;> first | (exfalso; omega) | (conv => whnf)) | ((with_reducible first | refine q5 ?_ | refine q6 ?_ | refine q7 ?_ | refine q8 ?_ | refine q9 ?_ | refine q10 ?_ | refine q11 ?_ | refine q12 ?_ | refine q13 ?_ | refine q14 ?_ | refine q15 ?_); conv => whnf) | ((refine q16 (fun _ _ _ _ _ => ?_)); conv => whnf) | ((with_reducible first | refine q17 ?_ | refine q18 ?_ | refine q19 ?_ | refine q20 ?_); conv => whnf)))
            refine Anew.mk hd7.ex ?_
            ((conv => whnf); repeat' (first | ((with_reducible first | refine q1 ?_ | refine q2 ?_); conv => whnf) | (with_reducible refine q3 ?_) | ((with_reducible refine q4 (fun _ => ?_) (fun _ => ?_)) <;> first | (exfalso; omega) | (conv => whnf)) | ((with_reducible first | refine q5 ?_ | refine q6 ?_ | refine q7 ?_ | refine q8 ?_ | refine q9 ?_ | refine q10 ?_ | refine q11 ?_ | refine q12 ?_ | refine q13 ?_ | refine q14 ?_ | refine q15 ?_); conv => whnf) | ((refine q16 (fun _ _ _ _ _ => ?_)); conv => whnf) | ((with_reducible first | refine q17 ?_ | refine q18 ?_ | refine q19 ?_ | refine q20 ?_); conv => whnf)))
            refine IdxA.at0 ?_
            ((conv => whnf); repeat' (first | ((with_reducible first | refine q1 ?_ | refine q2 ?_); conv => whnf) | (with_reducible refine q3 ?_) | ((with_reducible refine q4 (fun _ => ?_) (fun _ => ?_)) <;> first | (exfalso; omega) | (conv => whnf)) | ((with_reducible first | refine q5 ?_ | refine q6 ?_ | refine q7 ?_ | refine q8 ?_ | refine q9 ?_ | refine q10 ?_ | refine q11 ?_ | refine q12 ?_ | refine q13 ?_ | refine q14 ?_ | refine q15 ?_); conv => whnf) | ((refine q16 (fun _ _ _ _ _ => ?_)); conv => whnf) | ((with_reducible first | refine q17 ?_ | refine q18 ?_ | refine q19 ?_ | refine q20 ?_); conv => whnf)))
            refine StoreA.own1 hor7 rfl (by omega) rfl fun w8 hu8 ho8 => ?_
            ((conv => whnf); repeat' (first | ((with_reducible first | refine q1 ?_ | refine q2 ?_); conv => whnf) | (with_reducible refine q3 ?_) | ((with_reducible refine q4 (fun _ => ?_) (fun _ => ?_)) <;> first | (exfalso; omega) | (conv => whnf)) | ((with_reducible first | refine q5 ?_ | refine q6 ?_ | refine q7 ?_ | refine q8 ?_ | refine q9 ?_ | refine q10 ?_ | refine q11 ?_ | refine q12 ?_ | refine q13 ?_ | refine q14 ?_ | refine q15 ?_); conv => whnf) | ((refine q16 (fun _ _ _ _ _ => ?_)); conv => whnf) | ((with_reducible first | refine q17 ?_ | refine q18 ?_ | refine q19 ?_ | refine q20 ?_); conv => whnf)))
            rw [ints_set, hp2] at ho8
            exact ⟨k + 1, rfl, ⟨by omega, hO7.word2 hu1 hbu (by rw [hpl, partAt_length (by omega), hxl1]) hu8 (by rw [hpl]; exact ho8), hF7.upd hu8 hbuN hbuw (by omega) (by have := he1.size; omega)⟩, by omega⟩
          · obtain rfl : k = many + 1 := by omega
            have hrest : partAt (fun a => a * y % 65521) ss1[used].xs (many + 1) = scaleM y ss1[used].xs := by rw [← hxl1, partAt_all]; rfl
            rw [hrest] at hO6
            obtain ⟨p, hp⟩ : ∃ p, p = scaleM y ss1[used].xs := ⟨_, rfl⟩
            rw [← hp] at hO6
            obtain ⟨hpl, hpw⟩ : p.length = many + 1 ∧ isW p := by rw [hp]; exact scaleM_ok y hxl1
            obtain ⟨ss2, hss2⟩ : ∃ s, s = ss1.set used (ss1[used].put p) := ⟨_, rfl⟩
            rw [← hss2] at hO6
            have hl2 : ss2.length = ss.length := by rw [hss2, List.length_set, hl1]
            have hR2 : rowsOf ss2 = (rowsOf ss1).set used p := by rw [hss2, rowsOf_set]; rfl
            have hW2 : RowsW (many + 1) (rowsOf ss2) := by rw [hR2]; exact hW1.set _ ⟨hpl, hpw⟩
            have hbs2 : ∀ i (hi : i < ss2.length), ss2[i].base = (ss1[i]'(by omega)).base := by
              subst hss2; intro i hi; rw [List.getElem_set]; split
              · rename_i e; subst e; rfl
              · rfl
            have hstep : stepRows (rowsOf ss) used r c = elimAt used c p (rowsOf ss2) ss.length := by
              have h1 : (swapL (rowsOf ss) used r).getD used [] = ss1[used].xs := by rw [← hR1, getD_get (by rw [rowsOf_length]; exact hu1), rowsOf_get hu1]
              have h2 : scaledM (swapL (rowsOf ss) used r) used c = p := by unfold scaledM; rw [h1, getD_get (by omega), ← hy]; exact hp.symm
              show elimAt used c (scaledM (swapL (rowsOf ss) used r) used c) ((swapL (rowsOf ss) used r).set used (scaledM (swapL (rowsOf ss) used r) used c)) (rowsOf ss).length = _
              rw [h2, ← hR1, ← hR2, rowsOf_length]
            clear hrest hO4 hcel hcc hcu hcu5
            ((conv => whnf); repeat' (first | ((with_reducible first | refine q1 ?_ | refine q2 ?_); conv => whnf) | (with_reducible refine q3 ?_) | ((with_reducible refine q4 (fun _ => ?_) (fun _ => ?_)) <;> first | (exfalso; omega) | (conv => whnf)) | ((with_reducible first | refine q5 ?_ | refine q6 ?_ | refine q7 ?_ | refine q8 ?_ | refine q9 ?_ | refine q10 ?_ | refine q11 ?_ | refine q12 ?_ | refine q13 ?_ | refine q14 ?_ | refine q15 ?_); conv => whnf) | ((refine q16 (fun _ _ _ _ _ => ?_)); conv => whnf) | ((with_reducible first | refine q17 ?_ | refine q18 ?_ | refine q19 ?_ | refine q20 ?_); conv => whnf)))
            refine loop_rule Tryz.tbOk (Nat × List Sl) [92] (fun | (m, _) => [.int .i64 (m:Int)]) (fun | (m, ss3), u => m ≤ ss.length ∧ ss3.length = ss.length ∧ rowsOf ss3 = elimAt used c p (rowsOf ss2) m ∧ RwO u N (some ⟨g, 0, none⟩) cap ss3 ∧ SolveFr w w2 N b3 ba many at_ u ∧
                ∀ i (hi : i < ss3.length) (hi2 : i < ss1.length), ss3[i].base = ss1[i].base) (fun | (m, _) => ss.length - m)
              (0, ss2) rfl ⟨by omega, hl2, by rw [elimAt_zero], hO6, hF6, fun i hi _ => hbs2 i hi⟩ ?_
            rintro ⟨m, ss3⟩ u7 ⟨hm7, hl3, hR3, hO7, hF7, hbs3⟩ ux7
            have hW3 : RowsW (many + 1) (rowsOf ss3) := by rw [hR3]; exact elimAt_ok hW2 hpl
            have hu3 : used < ss3.length := by omega
            have hxu3 : ss3[used].xs = p := by
              rw [← rowsOf_get hu3]
              simp only [hR3]
              rw [elimAt_rest (by rw [rowsOf_length]; omega) (.inr rfl)]
              simp only [hR2]
              simp
            by_cases hml : m < ss.length
            · have hm3 : m < ss3.length := by omega
              have hmlr2 : m < (rowsOf ss2).length := by rw [rowsOf_length]; omega
              obtain ⟨hxl3, hxw3⟩ := hW3.get hm3
              have hxm : (rowsOf ss2)[m]'(by rw [rowsOf_length]; omega) = ss3[m].xs := by
                rw [← rowsOf_get hm3]
                simp only [hR3]
                rw [elimAt_rest (by rw [rowsOf_length]; omega) (.inl (Nat.le_refl _))]
              obtain ⟨bm, hbm, hbmg, hbmN⟩ := hO7.base_ hm3 (by omega)
              have hbmw : bm < w.heap.size := hbl1 m (by omega) ⟨bm, 0, none⟩ (by rw [← hbs3 m hm3 (by omega)]; exact hbm)
              obtain ⟨hcm7, -, hcel⟩ := hO7.openAt (List.getElem?_eq_getElem hm3) hbm hxl3
              have hcc := hcel c _ (List.getElem?_eq_getElem (by omega))
              have hfr := hxw3 _ (List.getElem_mem (show c < ss3[m].xs.length by omega))
              obtain ⟨f, hf⟩ : ∃ f, f = ss3[m].xs[c]'(by omega) := ⟨_, rfl⟩
              rw [← hf] at hcc hfr
              have hfd : ss3[m].xs.getD c 0 = f := by rw [hf]; exact getD_get _ _
              ((conv => whnf); repeat' (first | ((with_reducible first | refine q1 ?_ | refine q2 ?_); conv => whnf) | (with_reducible refine q3 ?_) | ((with_reducible refine q4 (fun _ => ?_) (fun _ => ?_)) <;> first | (exfalso; omega) | (conv => whnf)) | ((with_reducible first | refine q5 ?_ | refine q6 ?_ | refine q7 ?_ | refine q8 ?_ | refine q9 ?_ | refine q10 ?_ | refine q11 ?_ | refine q12 ?_ | refine q13 ?_ | refine q14 ?_ | refine q15 ?_); conv => whnf) | ((refine q16 (fun _ _ _ _ _ => ?_)); conv => whnf) | ((with_reducible first | refine q17 ?_ | refine q18 ?_ | refine q19 ?_ | refine q20 ?_); conv => whnf)))
              refine IdxA.at0 ?_
              ((conv => whnf); repeat' (first | ((with_reducible first | refine q1 ?_ | refine q2 ?_); conv => whnf) | (with_reducible refine q3 ?_) | ((with_reducible refine q4 (fun _ => ?_) (fun _ => ?_)) <;> first | (exfalso; omega) | (conv => whnf)) | ((with_reducible first | refine q5 ?_ | refine q6 ?_ | refine q7 ?_ | refine q8 ?_ | refine q9 ?_ | refine q10 ?_ | refine q11 ?_ | refine q12 ?_ | refine q13 ?_ | refine q14 ?_ | refine q15 ?_); conv => whnf) | ((refine q16 (fun _ _ _ _ _ => ?_)); conv => whnf) | ((with_reducible first | refine q17 ?_ | refine q18 ?_ | refine q19 ?_ | refine q20 ?_); conv => whnf)))
              refine IdxA.at0 ?_
              ((conv => whnf); repeat' (first | ((with_reducible first | refine q1 ?_ | refine q2 ?_); conv => whnf) | (with_reducible refine q3 ?_) | ((with_reducible refine q4 (fun _ => ?_) (fun _ => ?_)) <;> first | (exfalso; omega) | (conv => whnf)) | ((with_reducible first | refine q5 ?_ | refine q6 ?_ | refine q7 ?_ | refine q8 ?_ | refine q9 ?_ | refine q10 ?_ | refine q11 ?_ | refine q12 ?_ | refine q13 ?_ | refine q14 ?_ | refine q15 ?_); conv => whnf) | ((refine q16 (fun _ _ _ _ _ => ?_)); conv => whnf) | ((with_reducible first | refine q17 ?_ | refine q18 ?_ | refine q19 ?_ | refine q20 ?_); conv => whnf)))
              · rename_i hmu
                exact ⟨(m + 1, ss3), rfl, ⟨by omega, hl3, hR3.trans (elimAt_skip hmlr2 (.inl (by omega))).symm, hO7, hF7, hbs3⟩, by simp only []; omega⟩
              · rename_i hmu hf0
                exact ⟨(m + 1, ss3), rfl, ⟨by omega, hl3, hR3.trans (elimAt_skip hmlr2 (.inr (by rw [hxm, hfd]; exact hf0))).symm, hO7, hF7, hbs3⟩, by simp only []; omega⟩
              · rename_i hmu hf0
                have hmu' : m ≠ used := by omega
                refine IdxA.at0 ?_
                ((conv => whnf); repeat' (first | ((with_reducible first | refine q1 ?_ | refine q2 ?_); conv => whnf) | (with_reducible refine q3 ?_) | ((with_reducible refine q4 (fun _ => ?_) (fun _ => ?_)) <;> first | (exfalso; omega) | (conv => whnf)) | ((with_reducible first | refine q5 ?_ | refine q6 ?_ | refine q7 ?_ | refine q8 ?_ | refine q9 ?_ | refine q10 ?_ | refine q11 ?_ | refine q12 ?_ | refine q13 ?_ | refine q14 ?_ | refine q15 ?_); conv => whnf) | ((refine q16 (fun _ _ _ _ _ => ?_)); conv => whnf) | ((with_reducible first | refine q17 ?_ | refine q18 ?_ | refine q19 ?_ | refine q20 ?_); conv => whnf)))
                obtain ⟨bv, hbv, hbvg, hbvN⟩ := hO7.base_ hu3 (by rw [hxu3]; omega)
                have hbmv := hO7.ne_ hm3 hu3 hmu' hbm hbv
                refine loop_rule Tryz.tbOk Nat [114] (fun k => [.int .i64 (k:Int)]) (fun k u => k ≤ many + 1 ∧ RwO u N (some ⟨g, 0, none⟩) cap (ss3.set m (ss3[m].put (part2 f ss3[m].xs p k))) ∧ SolveFr w w2 N b3 ba many at_ u) (fun k => many + 1 - k)
                  0 rfl ⟨by omega, by rw [part2_zero, _root_.Go.V.Sl.put_self, List.set_getElem_self]; exact hO7, hF7⟩ ?_
                rintro k u8 ⟨hk, hO8, hF8⟩ ux8
                by_cases hkm : k < many + 1
                · ((conv => whnf); repeat' (first | ((with_reducible first | refine q1 ?_ | refine q2 ?_); conv => whnf) | (with_reducible refine q3 ?_) | ((with_reducible refine q4 (fun _ => ?_) (fun _ => ?_)) <;> first | (exfalso; omega) | (conv => whnf)) | ((with_reducible first | refine q5 ?_ | refine q6 ?_ | refine q7 ?_ | refine q8 ?_ | refine q9 ?_ | refine q10 ?_ | refine q11 ?_ | refine q12 ?_ | refine q13 ?_ | refine q14 ?_ | refine q15 ?_); conv => whnf) | ((refine q16 (fun _ _ _ _ _ => ?_)); conv => whnf) | ((with_reducible first | refine q17 ?_ | refine q18 ?_ | refine q19 ?_ | refine q20 ?_); conv => whnf)))
                  refine draw_rule Tryz.tbOk Tryz.mix (fun u2 => Ex u8 u2) (.take 0 (.take 1 (.take 2 (.take 3 (.take 4 (.take 5 (.take 6 (.take 7 (.take 8 (.take 9 (.take 10 (.take 11 (.take 12 (.take 13 (.take 14 (.take 15 (.take 16 (.take 17 (.take 18 (.take 19 (.take 20 (.take 21 (.one 22 (.take 23 (.fin 24))))))))))))))))))))))))) (by kernel_rfl) (by kernel_rfl) ?_
                  intro u9 hd9
                  refine ⟨hd9.ex, ?_⟩
                  have hO9 := hO8.ex hd9.ex
                  have hF9 := hF8.ex hd9.ex hN
                  have hpl2 : (part2 f ss3[m].xs p k).length = many + 1 := by rw [part2_length (by omega) (by omega), hxl3]
                  obtain ⟨hp1, hp2⟩ := part2_next (f := f) (r := ss3[m].xs) (p := p) (k := k) (by omega) (by omega)
                  obtain ⟨hc9, hor9, hce9⟩ := hO9.openPut hm3 hbm hpl2
                  have hce9 := hce9 k _ hp1
                  have hc8 : u8.cell? ⟨g, m, none⟩ = _ := (hO8.openPut hm3 hbm hpl2).1
                  have hce8 : u8.cell? ⟨bm, k, none⟩ = _ := (hO8.openPut hm3 hbm hpl2).2.2 k _ hp1
                  have hsu : (ss3.set m (ss3[m].put (part2 f ss3[m].xs p k)))[used]? = some ss3[used] := by rw [List.getElem?_set_ne hmu']; exact List.getElem?_eq_getElem hu3
                  obtain ⟨hcv8, -, hcev8⟩ := hO8.openAt (L := many + 1) hsu hbv (by rw [hxu3]; exact hpl)
                  have hcev8 := hcev8 k (p[k]'(by omega)) (by rw [hxu3]; exact List.getElem?_eq_getElem _)
                  obtain ⟨hcv9, -, hcev9⟩ := hO9.openAt (L := many + 1) hsu hbv (by rw [hxu3]; exact hpl)
                  have hcev9 := hcev9 k (p[k]'(by omega)) (by rw [hxu3]; exact List.getElem?_eq_getElem _)
                  have hxk := hxw3 _ (List.getElem_mem (show k < ss3[m].xs.length by omega))
                  have hpk := hpw _ (List.getElem_mem (show k < p.length by omega))
                  have hmul := mul_word (a := f) (b := p[k]'(by omega)) (by omega) (by omega)
                  ((conv => whnf); repeat' (first | ((with_reducible first | refine q1 ?_ | refine q2 ?_); conv => whnf) | (with_reducible refine q3 ?_) | ((with_reducible refine q4 (fun _ => ?_) (fun _ => ?_)) <;> first | (exfalso; omega) | (conv => whnf)) | ((with_reducible first | refine q5 ?_ | refine q6 ?_ | refine q7 ?_ | refine q8 ?_ | refine q9 ?_ | refine q10 ?_ | refine q11 ?_ | refine q12 ?_ | refine q13 ?_ | refine q14 ?_ | refine q15 ?_); conv => whnf) | ((refine q16 (fun _ _ _ _ _ => ?_)); conv => whnf) | ((with_reducible first | refine q17 ?_ | refine q18 ?_ | refine q19 ?_ | refine q20 ?_); conv => whnf)))
                  refine IdxA.at0 ?_
                  ((conv => whnf); repeat' (first | ((with_reducible first | refine q1 ?_ | refine q2 ?_); conv => whnf) | (with_reducible refine q3 ?_) | ((with_reducible refine q4 (fun _ => ?_) (fun _ => ?_)) <;> first | (exfalso; omega) | (conv => whnf)) | ((with_reducible first | refine q5 ?_ | refine q6 ?_ | refine q7 ?_ | refine q8 ?_ | refine q9 ?_ | refine q10 ?_ | refine q11 ?_ | refine q12 ?_ | refine q13 ?_ | refine q14 ?_ | refine q15 ?_); conv => whnf) | ((refine q16 (fun _ _ _ _ _ => ?_)); conv => whnf) | ((with_reducible first | refine q17 ?_ | refine q18 ?_ | refine q19 ?_ | refine q20 ?_); conv => whnf)))
                  refine IdxA.at0 ?_
                  ((conv => whnf); repeat' (first | ((with_reducible first | refine q1 ?_ | refine q2 ?_); conv => whnf) | (with_reducible refine q3 ?_) | ((with_reducible refine q4 (fun _ => ?_) (fun _ => ?_)) <;> first | (exfalso; omega) | (conv => whnf)) | ((with_reducible first | refine q5 ?_ | refine q6 ?_ | refine q7 ?_ | refine q8 ?_ | refine q9 ?_ | refine q10 ?_ | refine q11 ?_ | refine q12 ?_ | refine q13 ?_ | refine q14 ?_ | refine q15 ?_); conv => whnf) | ((refine q16 (fun _ _ _ _ _ => ?_)); conv => whnf) | ((with_reducible first | refine q17 ?_ | refine q18 ?_ | refine q19 ?_ | refine q20 ?_); conv => whnf)))
                  refine IdxA.at0 ?_
                  ((conv => whnf); repeat' (first | ((with_reducible first | refine q1 ?_ | refine q2 ?_); conv => whnf) | (with_reducible refine q3 ?_) | ((with_reducible refine q4 (fun _ => ?_) (fun _ => ?_)) <;> first | (exfalso; omega) | (conv => whnf)) | ((with_reducible first | refine q5 ?_ | refine q6 ?_ | refine q7 ?_ | refine q8 ?_ | refine q9 ?_ | refine q10 ?_ | refine q11 ?_ | refine q12 ?_ | refine q13 ?_ | refine q14 ?_ | refine q15 ?_); conv => whnf) | ((refine q16 (fun _ _ _ _ _ => ?_)); conv => whnf) | ((with_reducible first | refine q17 ?_ | refine q18 ?_ | refine q19 ?_ | refine q20 ?_); conv => whnf)))
                  refine IdxA.at0 ?_
                  ((conv => whnf); repeat' (first | ((with_reducible first | refine q1 ?_ | refine q2 ?_); conv => whnf) | (with_reducible refine q3 ?_) | ((with_reducible refine q4 (fun _ => ?_) (fun _ => ?_)) <;> first | (exfalso; omega) | (conv => whnf)) | ((with_reducible first | refine q5 ?_ | refine q6 ?_ | refine q7 ?_ | refine q8 ?_ | refine q9 ?_ | refine q10 ?_ | refine q11 ?_ | refine q12 ?_ | refine q13 ?_ | refine q14 ?_ | refine q15 ?_); conv => whnf) | ((refine q16 (fun _ _ _ _ _ => ?_)); conv => whnf) | ((with_reducible first | refine q17 ?_ | refine q18 ?_ | refine q19 ?_ | refine q20 ?_); conv => whnf)))
                  refine IdxA.at0 ?_
                  ((conv => whnf); repeat' (first | ((with_reducible first | refine q1 ?_ | refine q2 ?_); conv => whnf) | (with_reducible refine q3 ?_) | ((with_reducible refine q4 (fun _ => ?_) (fun _ => ?_)) <;> first | (exfalso; omega) | (conv => whnf)) | ((with_reducible first | refine q5 ?_ | refine q6 ?_ | refine q7 ?_ | refine q8 ?_ | refine q9 ?_ | refine q10 ?_ | refine q11 ?_ | refine q12 ?_ | refine q13 ?_ | refine q14 ?_ | refine q15 ?_); conv => whnf) | ((refine q16 (fun _ _ _ _ _ => ?_)); conv => whnf) | ((with_reducible first | refine q17 ?_ | refine q18 ?_ | refine q19 ?_ | refine q20 ?_); conv => whnf)))
                  refine CallA.mono (Tryz.mod _ _ (by omega)) ?_; rintro v w8 ⟨rfl, rfl⟩; ((conv => whnf); repeat' (first | ((with_reducible first | refine q1 ?_ | refine q2 ?_); conv => whnf) | (with_reducible refine q3 ?_) | ((with_reducible refine q4 (fun _ => ?_) (fun _ => ?_)) <;> first | (exfalso; omega) | (conv => whnf)) | ((with_reducible first | refine q5 ?_ | refine q6 ?_ | refine q7 ?_ | refine q8 ?_ | refine q9 ?_ | refine q10 ?_ | refine q11 ?_ | refine q12 ?_ | refine q13 ?_ | refine q14 ?_ | refine q15 ?_); conv => whnf) | ((refine q16 (fun _ _ _ _ _ => ?_)); conv => whnf) | ((with_reducible first | refine q17 ?_ | refine q18 ?_ | refine q19 ?_ | refine q20 ?_); conv => whnf)))
                  refine Anew.mk hd9.ex ?_
                  ((conv => whnf); repeat' (first | ((with_reducible first | refine q1 ?_ | refine q2 ?_); conv => whnf) | (with_reducible refine q3 ?_) | ((with_reducible refine q4 (fun _ => ?_) (fun _ => ?_)) <;> first | (exfalso; omega) | (conv => whnf)) | ((with_reducible first | refine q5 ?_ | refine q6 ?_ | refine q7 ?_ | refine q8 ?_ | refine q9 ?_ | refine q10 ?_ | refine q11 ?_ | refine q12 ?_ | refine q13 ?_ | refine q14 ?_ | refine q15 ?_); conv => whnf) | ((refine q16 (fun _ _ _ _ _ => ?_)); conv => whnf) | ((with_reducible first | refine q17 ?_ | refine q18 ?_ | refine q19 ?_ | refine q20 ?_); conv => whnf)))
                  refine IdxA.at0 ?_
                  ((conv => whnf); repeat' (first | ((with_reducible first | refine q1 ?_ | refine q2 ?_); conv => whnf) | (with_reducible refine q3 ?_) | ((with_reducible refine q4 (fun _ => ?_) (fun _ => ?_)) <;> first | (exfalso; omega) | (conv => whnf)) | ((with_reducible first | refine q5 ?_ | refine q6 ?_ | refine q7 ?_ | refine q8 ?_ | refine q9 ?_ | refine q10 ?_ | refine q11 ?_ | refine q12 ?_ | refine q13 ?_ | refine q14 ?_ | refine q15 ?_); conv => whnf) | ((refine q16 (fun _ _ _ _ _ => ?_)); conv => whnf) | ((with_reducible first | refine q17 ?_ | refine q18 ?_ | refine q19 ?_ | refine q20 ?_); conv => whnf)))
                  refine StoreA.own1 hor9 rfl (by omega) rfl fun w8 hu8 ho8 => ?_
                  ((conv => whnf); repeat' (first | ((with_reducible first | refine q1 ?_ | refine q2 ?_); conv => whnf) | (with_reducible refine q3 ?_) | ((with_reducible refine q4 (fun _ => ?_) (fun _ => ?_)) <;> first | (exfalso; omega) | (conv => whnf)) | ((with_reducible first | refine q5 ?_ | refine q6 ?_ | refine q7 ?_ | refine q8 ?_ | refine q9 ?_ | refine q10 ?_ | refine q11 ?_ | refine q12 ?_ | refine q13 ?_ | refine q14 ?_ | refine q15 ?_); conv => whnf) | ((refine q16 (fun _ _ _ _ _ => ?_)); conv => whnf) | ((with_reducible first | refine q17 ?_ | refine q18 ?_ | refine q19 ?_ | refine q20 ?_); conv => whnf)))
                  rw [ints_set, hp2] at ho8
                  exact ⟨k + 1, rfl, ⟨by omega, hO9.word2 hm3 hbm (by rw [hpl2, part2_length (by omega) (by omega), hxl3]) hu8 (by rw [hpl2]; exact ho8), hF9.upd hu8 hbmN hbmw (by omega) (by have := he1.size; omega)⟩, by omega⟩
                · obtain rfl : k = many + 1 := by omega
                  have hrest : part2 f ss3[m].xs p (many + 1) = elimM f ss3[m].xs p := by rw [← hxl3, part2_all (by omega)]
                  rw [hrest] at hO8
                  ((conv => whnf); repeat' (first | ((with_reducible first | refine q1 ?_ | refine q2 ?_); conv => whnf) | (with_reducible refine q3 ?_) | ((with_reducible refine q4 (fun _ => ?_) (fun _ => ?_)) <;> first | (exfalso; omega) | (conv => whnf)) | ((with_reducible first | refine q5 ?_ | refine q6 ?_ | refine q7 ?_ | refine q8 ?_ | refine q9 ?_ | refine q10 ?_ | refine q11 ?_ | refine q12 ?_ | refine q13 ?_ | refine q14 ?_ | refine q15 ?_); conv => whnf) | ((refine q16 (fun _ _ _ _ _ => ?_)); conv => whnf) | ((with_reducible first | refine q17 ?_ | refine q18 ?_ | refine q19 ?_ | refine q20 ?_); conv => whnf)))
                  refine ⟨(m + 1, ss3.set m (ss3[m].put (elimM f ss3[m].xs p))), rfl, ⟨by omega, by rw [List.length_set]; exact hl3, ?_, hO8, hF8, ?_⟩, by simp only []; omega⟩
                  · rw [rowsOf_set, hR3, elimAt_step hmlr2 (by rw [hxm, hfd]; rintro (h | h); exact hmu' h; exact hf0 h)]
                    simp only [hxm, hfd]; rfl
                  · intro i hi hi2
                    rw [List.getElem_set]
                    split
                    · rename_i e; subst e; exact hbs3 _ _ hi2
                    · exact hbs3 _ _ hi2
            · obtain rfl : m = ss.length := by omega
              rw [← hstep] at hR3
              ((conv => whnf); repeat' (first | ((with_reducible first | refine q1 ?_ | refine q2 ?_); conv => whnf) | (with_reducible refine q3 ?_) | ((with_reducible refine q4 (fun _ => ?_) (fun _ => ?_)) <;> first | (exfalso; omega) | (conv => whnf)) | ((with_reducible first | refine q5 ?_ | refine q6 ?_ | refine q7 ?_ | refine q8 ?_ | refine q9 ?_ | refine q10 ?_ | refine q11 ?_ | refine q12 ?_ | refine q13 ?_ | refine q14 ?_ | refine q15 ?_); conv => whnf) | ((refine q16 (fun _ _ _ _ _ => ?_)); conv => whnf) | ((with_reducible first | refine q17 ?_ | refine q18 ?_ | refine q19 ?_ | refine q20 ?_); conv => whnf)))
              refine IdxA.at0 ?_
              ((conv => whnf); repeat' (first | ((with_reducible first | refine q1 ?_ | refine q2 ?_); conv => whnf) | (with_reducible refine q3 ?_) | ((with_reducible refine q4 (fun _ => ?_) (fun _ => ?_)) <;> first | (exfalso; omega) | (conv => whnf)) | ((with_reducible first | refine q5 ?_ | refine q6 ?_ | refine q7 ?_ | refine q8 ?_ | refine q9 ?_ | refine q10 ?_ | refine q11 ?_ | refine q12 ?_ | refine q13 ?_ | refine q14 ?_ | refine q15 ?_); conv => whnf) | ((refine q16 (fun _ _ _ _ _ => ?_)); conv => whnf) | ((with_reducible first | refine q17 ?_ | refine q18 ?_ | refine q19 ?_ | refine q20 ?_); conv => whnf)))
              refine StoreA.own1 hF7.own rfl hcm rfl fun w8 hu8 ho8 => ?_
              ((conv => whnf); repeat' (first | ((with_reducible first | refine q1 ?_ | refine q2 ?_); conv => whnf) | (with_reducible refine q3 ?_) | ((with_reducible refine q4 (fun _ => ?_) (fun _ => ?_)) <;> first | (exfalso; omega) | (conv => whnf)) | ((with_reducible first | refine q5 ?_ | refine q6 ?_ | refine q7 ?_ | refine q8 ?_ | refine q9 ?_ | refine q10 ?_ | refine q11 ?_ | refine q12 ?_ | refine q13 ?_ | refine q14 ?_ | refine q15 ?_); conv => whnf) | ((refine q16 (fun _ _ _ _ _ => ?_)); conv => whnf) | ((with_reducible first | refine q17 ?_ | refine q18 ?_ | refine q19 ?_ | refine q20 ?_); conv => whnf)))
              rw [ints_set] at ho8
              refine ⟨(c + 1, used + 1, at_.set c ((used : Int) + 1), ss3), rfl, ⟨by omega, by omega, by omega, by omega, by rw [List.length_set]; exact hal, hO7.grown (grown_upd hu8) (.inr (by simp [blkOf]; have := he1.size; omega)) ?_, hW3, ?_, ho8, hu8.blk hF7.blk (by omega), hF7.be.trans (hu8.below (by have := he1.size; omega)), by rw [hu8.size]; exact hF7.sz, ?_, ?_⟩, by simp only []; omega⟩
              · intro i hi
                cases hb : ss3[i].base with
                | none => exact .inl rfl
                | some a =>
                  have h1 := hbl1 i (by omega) a (by rw [← hbs3 i hi (by omega)]; exact hb)
                  have h2 := he1.size
                  right; simp [blkOf]; omega
              · intro i hi a ha
                exact hbl1 i (by omega) a (by rw [← hbs3 i hi (by omega)]; exact ha)
              · intro x hx
                rcases List.mem_or_eq_of_mem_set hx with h1 | h1
                · have := hatr x h1; omega
                · subst h1; omega
              · rw [show many - (c + 1) = n by omega, hR3]; exact hG
      · rename_i heq
        refine ⟨(r + 1, -1), rfl, ⟨rfl, rfl, by omega, by omega, fun i hi hi2 hui => ?_⟩, by simp only []; omega⟩
        by_cases e : i = r
        · subst e
          rw [getD_get (show c < ss[i].xs.length by omega)]
          simpa using heq
        · exact hzero i (by omega) hi2 hui
    · have : r = ss.length := by omega
      subst this
      have hP : findP (rowsOf ss) used c = none := findP_none (fun i hi hui => by
        rw [rowsOf_length] at hi
        rw [rowsOf_get hi]; exact hzero i hi hi hui)
      rw [hP] at hG
      ((conv => whnf); repeat' (first | ((with_reducible first | refine q1 ?_ | refine q2 ?_); conv => whnf) | (with_reducible refine q3 ?_) | ((with_reducible refine q4 (fun _ => ?_) (fun _ => ?_)) <;> first | (exfalso; omega) | (conv => whnf)) | ((with_reducible first | refine q5 ?_ | refine q6 ?_ | refine q7 ?_ | refine q8 ?_ | refine q9 ?_ | refine q10 ?_ | refine q11 ?_ | refine q12 ?_ | refine q13 ?_ | refine q14 ?_ | refine q15 ?_); conv => whnf) | ((refine q16 (fun _ _ _ _ _ => ?_)); conv => whnf) | ((with_reducible first | refine q17 ?_ | refine q18 ?_ | refine q19 ?_ | refine q20 ?_); conv => whnf)))
      exact ⟨(c + 1, used, at_, ss), rfl, ⟨by omega, by omega, hul, hsl, hal, hO, hRW, hbl, hoa3, hB3u, hBe, hsz, hatr, by rw [show many - (c + 1) = n by omega]; exact hG⟩, by simp only []; omega⟩
  · have : c = many := by omega
    subst this
    ((conv => whnf); repeat' (first | ((with_reducible first | refine q1 ?_ | refine q2 ?_); conv => whnf) | (with_reducible refine q3 ?_) | ((with_reducible refine q4 (fun _ => ?_) (fun _ => ?_)) <;> first | (exfalso; omega) | (conv => whnf)) | ((with_reducible first | refine q5 ?_ | refine q6 ?_ | refine q7 ?_ | refine q8 ?_ | refine q9 ?_ | refine q10 ?_ | refine q11 ?_ | refine q12 ?_ | refine q13 ?_ | refine q14 ?_ | refine q15 ?_); conv => whnf) | ((refine q16 (fun _ _ _ _ _ => ?_)); conv => whnf) | ((with_reducible first | refine q17 ?_ | refine q18 ?_ | refine q19 ?_ | refine q20 ?_); conv => whnf)))
    rw [show c - c = 0 by omega, solveG] at hG
    have hcap := hO0.row.le
    refine RunV.sliceRow (e := 57) (sz := 1) (by_ := 24) (z := some (.slice none 0 0)) Tryz.tbOk rfl hrow used ss0.length cap (ss0.length - used) (.inl rfl) (.inr ⟨rfl, rfl⟩) (.inr ⟨rfl, rfl⟩) (fun _ => rfl) (by omega) hcap (Nat.le_refl _) fun b' c' hc' _ hrow' => ?_
    have hdl : (ss.drop used).length = ss0.length - used := by rw [List.length_drop]; omega
    rw [rowC_drop (sz := 1) (fun _ => rfl), ← hdl, List.take_of_length_le (by rw [rowC_length (sz := 1) (fun _ => rfl)]; exact Nat.le_refl _)] at hrow'
    ((conv => whnf); repeat' (first | ((with_reducible first | refine q1 ?_ | refine q2 ?_); conv => whnf) | (with_reducible refine q3 ?_) | ((with_reducible refine q4 (fun _ => ?_) (fun _ => ?_)) <;> first | (exfalso; omega) | (conv => whnf)) | ((with_reducible first | refine q5 ?_ | refine q6 ?_ | refine q7 ?_ | refine q8 ?_ | refine q9 ?_ | refine q10 ?_ | refine q11 ?_ | refine q12 ?_ | refine q13 ?_ | refine q14 ?_ | refine q15 ?_); conv => whnf) | ((refine q16 (fun _ _ _ _ _ => ?_)); conv => whnf) | ((with_reducible first | refine q17 ?_ | refine q18 ?_ | refine q19 ?_ | refine q20 ?_); conv => whnf)))
    have hI0 : Blk u b3 [.int .i64 (c : Int)] 3 ∧ ∀ s ∈ ss, Row u s.base (ints s.xs) := ⟨hB3u, fun s hs => by
      obtain ⟨i, hi, rfl⟩ := List.mem_iff_getElem.1 hs
      exact (hO.each i hi).row⟩
    have hcall := Tryz.containsSls b' c' (ss.drop used) 179 #[.pointer (some ⟨b3, 0, none⟩)] _ _ u (Tryz.solve1 c b3 ss (ss.drop used) (fun s hs => List.mem_of_mem_drop hs) (fun s hs => by
      obtain ⟨i, hi, rfl⟩ := List.mem_iff_getElem.1 hs
      exact (hRWi i hi).1)) (fun u u' h e => ⟨h.1.ex e, fun s hs => (h.2 s hs).ex e⟩) hI0 hrow' (by omega)
    rw [hdl] at hcall
    have hS : solveM (rowsOf ss0) c = if (ss.drop used).any (fun s => decide (s.xs.getD c 0 ≠ 0)) then none else some (at_.map (solF (rowsOf ss) c)) := by
      unfold solveM
      rw [← hG]
      simp only []
      have e : ((rowsOf ss).drop used).any (fun x => decide (x.getD c 0 ≠ 0)) = (ss.drop used).any (fun s => decide (s.xs.getD c 0 ≠ 0)) := by
        rw [rowsOf, ← List.map_drop, List.any_map]; rfl
      rw [e]; rfl
    refine CallA.mono hcall ?_
    rintro v w3 ⟨rfl, he3⟩
    have hF3 : SolveFr w w2 N b3 ba c at_ w3 := SolveFr.ex ⟨hBe, hoa3, hB3u, hsz⟩ he3 hN
    have hO3 := hO.ex he3
    ((conv => whnf); repeat' (first | ((with_reducible first | refine q1 ?_ | refine q2 ?_); conv => whnf) | (with_reducible refine q3 ?_) | ((with_reducible refine q4 (fun _ => ?_) (fun _ => ?_)) <;> first | (exfalso; omega) | (conv => whnf)) | ((with_reducible first | refine q5 ?_ | refine q6 ?_ | refine q7 ?_ | refine q8 ?_ | refine q9 ?_ | refine q10 ?_ | refine q11 ?_ | refine q12 ?_ | refine q13 ?_ | refine q14 ?_ | refine q15 ?_); conv => whnf) | ((refine q16 (fun _ _ _ _ _ => ?_)); conv => whnf) | ((with_reducible first | refine q17 ?_ | refine q18 ?_ | refine q19 ?_ | refine q20 ?_); conv => whnf)))
    refine Br.var (fun h => ?_) (fun h => ?_)
    · ((conv => whnf); repeat' (first | ((with_reducible first | refine q1 ?_ | refine q2 ?_); conv => whnf) | (with_reducible refine q3 ?_) | ((with_reducible refine q4 (fun _ => ?_) (fun _ => ?_)) <;> first | (exfalso; omega) | (conv => whnf)) | ((with_reducible first | refine q5 ?_ | refine q6 ?_ | refine q7 ?_ | refine q8 ?_ | refine q9 ?_ | refine q10 ?_ | refine q11 ?_ | refine q12 ?_ | refine q13 ?_ | refine q14 ?_ | refine q15 ?_); conv => whnf) | ((refine q16 (fun _ _ _ _ _ => ?_)); conv => whnf) | ((with_reducible first | refine q17 ?_ | refine q18 ?_ | refine q19 ?_ | refine q20 ?_); conv => whnf)))
      refine ⟨hF3.be, ?_⟩
      rw [hS, if_pos h]
    · have hB33 := hF3.blk
      rw [if_neg (by simp only [h]; exact Bool.false_ne_true)] at hS
      ((conv => whnf); repeat' (first | ((with_reducible first | refine q1 ?_ | refine q2 ?_); conv => whnf) | (with_reducible refine q3 ?_) | ((with_reducible refine q4 (fun _ => ?_) (fun _ => ?_)) <;> first | (exfalso; omega) | (conv => whnf)) | ((with_reducible first | refine q5 ?_ | refine q6 ?_ | refine q7 ?_ | refine q8 ?_ | refine q9 ?_ | refine q10 ?_ | refine q11 ?_ | refine q12 ?_ | refine q13 ?_ | refine q14 ?_ | refine q15 ?_); conv => whnf) | ((refine q16 (fun _ _ _ _ _ => ?_)); conv => whnf) | ((with_reducible first | refine q17 ?_ | refine q18 ?_ | refine q19 ?_ | refine q20 ?_); conv => whnf)))
      refine RunV.make (e := 3) (sz := 1) (by_ := 8) Tryz.tbOk w.heap.size c c rfl rfl rfl (by omega) (by omega) (by omega) rfl (by decide) (by have := hF3.be.size; omega) fun w4 bo hbo hso he4 hoo => ?_
      rw [show reps c (cellsOf (Value.int IntKind.i64 0)) = ints (List.replicate c 0) from ints_rep _ _] at hoo
      ((conv => whnf); repeat' (first | ((with_reducible first | refine q1 ?_ | refine q2 ?_); conv => whnf) | (with_reducible refine q3 ?_) | ((with_reducible refine q4 (fun _ => ?_) (fun _ => ?_)) <;> first | (exfalso; omega) | (conv => whnf)) | ((with_reducible first | refine q5 ?_ | refine q6 ?_ | refine q7 ?_ | refine q8 ?_ | refine q9 ?_ | refine q10 ?_ | refine q11 ?_ | refine q12 ?_ | refine q13 ?_ | refine q14 ?_ | refine q15 ?_); conv => whnf) | ((refine q16 (fun _ _ _ _ _ => ?_)); conv => whnf) | ((with_reducible first | refine q17 ?_ | refine q18 ?_ | refine q19 ?_ | refine q20 ?_); conv => whnf)))
      have hF4 := hF3.ex he4 hN
      have hsz3 := hF3.be.size
      refine loop_rule Tryz.tbOk Nat [159] (fun k => [.int .i64 (k:Int)]) (fun k u => k ≤ c ∧ Own u w.heap.size 3 1 (some ⟨bo, 0, none⟩) c c (ints (solAt (rowsOf ss) c at_ k)) ∧ RwO u N (some ⟨g, 0, none⟩) cap ss ∧ SolveFr w w2 N b3 ba c at_ u) (fun k => c - k)
        0 rfl ⟨by omega, by rw [solAt_zero, hal]; exact hoo, hO3.ex he4, hF4⟩ ?_
      rintro k u8 ⟨hk, hoo8, hO8, hF8⟩ ux8
      by_cases hkc : k < c
      · have hka : k < at_.length := by omega
        have hcb : u8.cell? ⟨ba, k, none⟩ = _ := Own.cell1 hF8.own (ints_get hka)
        have hak := hatr _ (List.getElem_mem hka)
        ((conv => whnf); repeat' (first | ((with_reducible first | refine q1 ?_ | refine q2 ?_); conv => whnf) | (with_reducible refine q3 ?_) | ((with_reducible refine q4 (fun _ => ?_) (fun _ => ?_)) <;> first | (exfalso; omega) | (conv => whnf)) | ((with_reducible first | refine q5 ?_ | refine q6 ?_ | refine q7 ?_ | refine q8 ?_ | refine q9 ?_ | refine q10 ?_ | refine q11 ?_ | refine q12 ?_ | refine q13 ?_ | refine q14 ?_ | refine q15 ?_); conv => whnf) | ((refine q16 (fun _ _ _ _ _ => ?_)); conv => whnf) | ((with_reducible first | refine q17 ?_ | refine q18 ?_ | refine q19 ?_ | refine q20 ?_); conv => whnf)))
        refine IdxA.at0 ?_
        ((conv => whnf); repeat' (first | ((with_reducible first | refine q1 ?_ | refine q2 ?_); conv => whnf) | (with_reducible refine q3 ?_) | ((with_reducible refine q4 (fun _ => ?_) (fun _ => ?_)) <;> first | (exfalso; omega) | (conv => whnf)) | ((with_reducible first | refine q5 ?_ | refine q6 ?_ | refine q7 ?_ | refine q8 ?_ | refine q9 ?_ | refine q10 ?_ | refine q11 ?_ | refine q12 ?_ | refine q13 ?_ | refine q14 ?_ | refine q15 ?_); conv => whnf) | ((refine q16 (fun _ _ _ _ _ => ?_)); conv => whnf) | ((with_reducible first | refine q17 ?_ | refine q18 ?_ | refine q19 ?_ | refine q20 ?_); conv => whnf)))
        · rename_i hpos
          refine draw_rule Tryz.tbOk Tryz.mix (fun u2 => Ex u8 u2) (.take 0 (.take 1 (.take 2 (.take 3 (.take 4 (.take 5 (.take 6 (.take 7 (.take 8 (.take 9 (.take 10 (.fin 11)))))))))))) (by kernel_rfl) (by kernel_rfl) ?_
          intro u9 hd9
          refine ⟨hd9.ex, ?_⟩
          have hi1 : (at_[k] - 1).toNat < ss.length := by omega
          obtain ⟨hil, hiw⟩ := hRWi _ hi1
          obtain ⟨bi, hbi, -, -⟩ := hO8.base_ hi1 (by omega)
          obtain ⟨hci, -, hcei⟩ := hO8.openAt (List.getElem?_eq_getElem hi1) hbi hil
          have hcei := hcei c _ (List.getElem?_eq_getElem (by omega))
          have hB8 := hF8.blk
          ((conv => whnf); repeat' (first | ((with_reducible first | refine q1 ?_ | refine q2 ?_); conv => whnf) | (with_reducible refine q3 ?_) | ((with_reducible refine q4 (fun _ => ?_) (fun _ => ?_)) <;> first | (exfalso; omega) | (conv => whnf)) | ((with_reducible first | refine q5 ?_ | refine q6 ?_ | refine q7 ?_ | refine q8 ?_ | refine q9 ?_ | refine q10 ?_ | refine q11 ?_ | refine q12 ?_ | refine q13 ?_ | refine q14 ?_ | refine q15 ?_); conv => whnf) | ((refine q16 (fun _ _ _ _ _ => ?_)); conv => whnf) | ((with_reducible first | refine q17 ?_ | refine q18 ?_ | refine q19 ?_ | refine q20 ?_); conv => whnf)))
          refine IdxA.at0' (k := (at_[k] - 1).toNat) (by omega) (by omega) ?_
          ((conv => whnf); repeat' (first | ((with_reducible first | refine q1 ?_ | refine q2 ?_); conv => whnf) | (with_reducible refine q3 ?_) | ((with_reducible refine q4 (fun _ => ?_) (fun _ => ?_)) <;> first | (exfalso; omega) | (conv => whnf)) | ((with_reducible first | refine q5 ?_ | refine q6 ?_ | refine q7 ?_ | refine q8 ?_ | refine q9 ?_ | refine q10 ?_ | refine q11 ?_ | refine q12 ?_ | refine q13 ?_ | refine q14 ?_ | refine q15 ?_); conv => whnf) | ((refine q16 (fun _ _ _ _ _ => ?_)); conv => whnf) | ((with_reducible first | refine q17 ?_ | refine q18 ?_ | refine q19 ?_ | refine q20 ?_); conv => whnf)))
          refine IdxA.at0 ?_
          ((conv => whnf); repeat' (first | ((with_reducible first | refine q1 ?_ | refine q2 ?_); conv => whnf) | (with_reducible refine q3 ?_) | ((with_reducible refine q4 (fun _ => ?_) (fun _ => ?_)) <;> first | (exfalso; omega) | (conv => whnf)) | ((with_reducible first | refine q5 ?_ | refine q6 ?_ | refine q7 ?_ | refine q8 ?_ | refine q9 ?_ | refine q10 ?_ | refine q11 ?_ | refine q12 ?_ | refine q13 ?_ | refine q14 ?_ | refine q15 ?_); conv => whnf) | ((refine q16 (fun _ _ _ _ _ => ?_)); conv => whnf) | ((with_reducible first | refine q17 ?_ | refine q18 ?_ | refine q19 ?_ | refine q20 ?_); conv => whnf)))
          refine IdxA.at0 ?_
          ((conv => whnf); repeat' (first | ((with_reducible first | refine q1 ?_ | refine q2 ?_); conv => whnf) | (with_reducible refine q3 ?_) | ((with_reducible refine q4 (fun _ => ?_) (fun _ => ?_)) <;> first | (exfalso; omega) | (conv => whnf)) | ((with_reducible first | refine q5 ?_ | refine q6 ?_ | refine q7 ?_ | refine q8 ?_ | refine q9 ?_ | refine q10 ?_ | refine q11 ?_ | refine q12 ?_ | refine q13 ?_ | refine q14 ?_ | refine q15 ?_); conv => whnf) | ((refine q16 (fun _ _ _ _ _ => ?_)); conv => whnf) | ((with_reducible first | refine q17 ?_ | refine q18 ?_ | refine q19 ?_ | refine q20 ?_); conv => whnf)))
          refine StoreA.own1 (hoo8.ex hd9.ex) rfl (by omega) rfl fun w9 hu9 ho9 => ?_
          ((conv => whnf); repeat' (first | ((with_reducible first | refine q1 ?_ | refine q2 ?_); conv => whnf) | (with_reducible refine q3 ?_) | ((with_reducible refine q4 (fun _ => ?_) (fun _ => ?_)) <;> first | (exfalso; omega) | (conv => whnf)) | ((with_reducible first | refine q5 ?_ | refine q6 ?_ | refine q7 ?_ | refine q8 ?_ | refine q9 ?_ | refine q10 ?_ | refine q11 ?_ | refine q12 ?_ | refine q13 ?_ | refine q14 ?_ | refine q15 ?_); conv => whnf) | ((refine q16 (fun _ _ _ _ _ => ?_)); conv => whnf) | ((with_reducible first | refine q17 ?_ | refine q18 ?_ | refine q19 ?_ | refine q20 ?_); conv => whnf)))
          have hv : (ss[(at_[k] - 1).toNat]'hi1).xs[c]'(by omega) = solF (rowsOf ss) c at_[k] := by
            have h1 : (rowsOf ss).getD (at_[k] - 1).toNat [] = (ss[(at_[k] - 1).toNat]'hi1).xs := by rw [getD_get (by rw [rowsOf_length]; exact hi1), rowsOf_get hi1]
            unfold solF
            rw [if_pos hpos, h1, getD_get]
          rw [hv, ints_set, solAt_set _ _ _ hka] at ho9
          refine ⟨k + 1, rfl, ⟨by omega, ho9, ?_, ?_⟩, by omega⟩
          · refine (hO8.ex hd9.ex).grown (grown_upd hu9) (.inr (by simp [blkOf]; omega)) fun i hi => ?_
            cases hb : ss[i].base with
            | none => exact .inl rfl
            | some a =>
              have h1 := hbl i hi a hb
              right; simp [blkOf]; omega
          · have hF9 := hF8.ex hd9.ex hN
            have h1 := he1.size
            have h2 := he2.size
            have h3 := hF3.sz
            exact ⟨hF9.be.trans (hu9.below (by omega)), hF9.own.upd hu9 (by simp [blkOf]; omega), hu9.blk hF9.blk (by omega), by rw [hu9.size]; exact hF9.sz⟩
        · rename_i hpos
          exact ⟨k + 1, rfl, ⟨by omega, by rw [← solAt_skip _ _ _ hka hpos]; exact hoo8, hO8, hF8⟩, by omega⟩
      · obtain rfl : k = c := by omega
        ((conv => whnf); repeat' (first | ((with_reducible first | refine q1 ?_ | refine q2 ?_); conv => whnf) | (with_reducible refine q3 ?_) | ((with_reducible refine q4 (fun _ => ?_) (fun _ => ?_)) <;> first | (exfalso; omega) | (conv => whnf)) | ((with_reducible first | refine q5 ?_ | refine q6 ?_ | refine q7 ?_ | refine q8 ?_ | refine q9 ?_ | refine q10 ?_ | refine q11 ?_ | refine q12 ?_ | refine q13 ?_ | refine q14 ?_ | refine q15 ?_); conv => whnf) | ((refine q16 (fun _ _ _ _ _ => ?_)); conv => whnf) | ((with_reducible first | refine q17 ?_ | refine q18 ?_ | refine q19 ?_ | refine q20 ?_); conv => whnf)))
        refine ⟨hF8.be, ?_⟩
        rw [hS]
        refine ⟨some ⟨bo, 0, none⟩, k, ?_, ?_⟩
        · simp only [List.length_map, hal]
        · have e := solAt_all (rowsOf ss) k at_
          rw [hal] at e
          rw [e] at hoo8
          simp only [List.length_map, hal]; exact hoo8
end Go.Proofs
