/-
  L48: a part of the proof. By an AI agent.
-/
import Derived.Test.YtpeihahmhpamoaaGreatVQ
import Derived.Test.YtpeihahmhpamoaaGreatV10
import Derived.Test.YtpeihahmhpamoaaGreatV11
import Derived.Test.YtpeihahmhpamoaaGreatL47
set_option linter.all false
namespace Go.Proofs
open Go.V
open Go.RowKit (Below)
def copyM (ms : List (List LM)) (n : Int) : List LM := if 0 ≤ n ∧ n ≤ (ms.length : Int) - 1 then ms.getD n.toNat [] else []
theorem Tryz.Copy (N g : Nat) (s : Shape) (ms : List (List LM)) (F : Nat → Prop) (n : Int) (w : World) (h : ShF w N g s ms F) (hl : ms.length ≤ 100) (hA : ∀ c ∈ ms, Asc c) :
    CallA Tryz.prog 25 [.pointer (some ⟨g, 0, none⟩), .int .i64 n] w (RetL w (copyM ms n)) := by
  obtain ⟨r, cs, hI, rfl⟩ := h
  have hO := hI.o
  have hhd := hO.hd
  have hlen : cs.length ≤ 100 := by simpa using hl
  refine callA_intro Tryz.tbOk Tryz.func25 rfl Tryz.ntmps25 Tryz.results25 (by decide) (by simp) ?_
  ((conv => whnf); repeat' (first | ((with_reducible first | refine q1 ?_ | refine q2 ?_); conv => whnf) | (with_reducible refine q3 ?_) | ((with_reducible refine q4 (fun _ => ?_) (fun _ => ?_)) <;> first | (exfalso; omega) | (conv => whnf)) | ((with_reducible first | refine q5 ?_ | refine q6 ?_ | refine q7 ?_ | refine q8 ?_ | refine q9 ?_ | refine q10 ?_ | refine q11 ?_ | refine q12 ?_ | refine q13 ?_ | refine q14 ?_ | refine q15 ?_); conv => whnf) | ((refine q16 (fun _ _ _ _ _ => ?_)); conv => whnf) | ((with_reducible first | refine q17 ?_ | refine q18 ?_ | refine q19 ?_ | refine q20 ?_); conv => whnf)))
  refine CallA.mono (Tryz.within n 0 _ _) ?_
  rintro v w1 ⟨rfl, rfl⟩
  have hM : copyM (cs.map Cp.m) n = if 0 ≤ n ∧ n ≤ (cs.length : Int) - 1 then (cs.map Cp.m).getD n.toNat [] else [] := by unfold copyM; rw [List.length_map]
  rw [hM]
  ((conv => whnf); repeat' (first | ((with_reducible first | refine q1 ?_ | refine q2 ?_); conv => whnf) | (with_reducible refine q3 ?_) | ((with_reducible refine q4 (fun _ => ?_) (fun _ => ?_)) <;> first | (exfalso; omega) | (conv => whnf)) | ((with_reducible first | refine q5 ?_ | refine q6 ?_ | refine q7 ?_ | refine q8 ?_ | refine q9 ?_ | refine q10 ?_ | refine q11 ?_ | refine q12 ?_ | refine q13 ?_ | refine q14 ?_ | refine q15 ?_); conv => whnf) | ((refine q16 (fun _ _ _ _ _ => ?_)); conv => whnf) | ((with_reducible first | refine q17 ?_ | refine q18 ?_ | refine q19 ?_ | refine q20 ?_); conv => whnf)))
  · rename_i hin
    rw [if_pos hin]
    have hk : n.toNat < cs.length := by omega
    refine IdxA.at0' (k := n.toNat) (by omega) hk ?_
    ((conv => whnf); repeat' (first | ((with_reducible first | refine q1 ?_ | refine q2 ?_); conv => whnf) | (with_reducible refine q3 ?_) | ((with_reducible refine q4 (fun _ => ?_) (fun _ => ?_)) <;> first | (exfalso; omega) | (conv => whnf)) | ((with_reducible first | refine q5 ?_ | refine q6 ?_ | refine q7 ?_ | refine q8 ?_ | refine q9 ?_ | refine q10 ?_ | refine q11 ?_ | refine q12 ?_ | refine q13 ?_ | refine q14 ?_ | refine q15 ?_); conv => whnf) | ((refine q16 (fun _ _ _ _ _ => ?_)); conv => whnf) | ((with_reducible first | refine q17 ?_ | refine q18 ?_ | refine q19 ?_ | refine q20 ?_); conv => whnf)))
    refine Load1.mk' (hO.cell hk) ?_
    ((conv => whnf); repeat' (first | ((with_reducible first | refine q1 ?_ | refine q2 ?_); conv => whnf) | (with_reducible refine q3 ?_) | ((with_reducible refine q4 (fun _ => ?_) (fun _ => ?_)) <;> first | (exfalso; omega) | (conv => whnf)) | ((with_reducible first | refine q5 ?_ | refine q6 ?_ | refine q7 ?_ | refine q8 ?_ | refine q9 ?_ | refine q10 ?_ | refine q11 ?_ | refine q12 ?_ | refine q13 ?_ | refine q14 ?_ | refine q15 ?_); conv => whnf) | ((refine q16 (fun _ _ _ _ _ => ?_)); conv => whnf) | ((with_reducible first | refine q17 ?_ | refine q18 ?_ | refine q19 ?_ | refine q20 ?_); conv => whnf)))
    have hmem : cs[n.toNat].m ∈ cs.map Cp.m := List.mem_map_of_mem (List.getElem_mem hk)
    have hAc := hA _ hmem
    have hll : cs[n.toNat].ls.length ≤ 1000 := by simpa [Cp.m] using hAc.len
    have hLv := (hO.each _ hk).lvs (by omega) fun x hx => by
      have : x.words.xs.length ≤ 1000 := hAc.wid _ (List.mem_map_of_mem hx)
      omega
    rw [show (cs.map Cp.m).getD n.toNat [] = cs[n.toNat].ls.map Lf.m from by rw [getD_get (by simpa using hk), List.getElem_map]; rfl]
    unfold Cp.val
    refine CallA.mono (Tryz.copied cs[n.toNat].base cs[n.toNat].cap cs[n.toNat].ls w1 hLv hAc) ?_
    rintro v w2 hR
    obtain ⟨b, c, ls, rfl, h1, h2, h3⟩ := hR
    ((conv => whnf); repeat' (first | ((with_reducible first | refine q1 ?_ | refine q2 ?_); conv => whnf) | (with_reducible refine q3 ?_) | ((with_reducible refine q4 (fun _ => ?_) (fun _ => ?_)) <;> first | (exfalso; omega) | (conv => whnf)) | ((with_reducible first | refine q5 ?_ | refine q6 ?_ | refine q7 ?_ | refine q8 ?_ | refine q9 ?_ | refine q10 ?_ | refine q11 ?_ | refine q12 ?_ | refine q13 ?_ | refine q14 ?_ | refine q15 ?_); conv => whnf) | ((refine q16 (fun _ _ _ _ _ => ?_)); conv => whnf) | ((with_reducible first | refine q17 ?_ | refine q18 ?_ | refine q19 ?_ | refine q20 ?_); conv => whnf)))
    exact ⟨b, c, ls, rfl, h1, h2, h3⟩
  · rename_i hin
    rw [if_neg hin]
    exact ⟨none, 0, [], rfl, LvO.none_ _ _, rfl, Ex.refl _⟩
/-! ### the leaf of which there are more than of any other one -/
def MostI (b : Nat) (x : Lf) (ls : List Lf) (w : World) : Prop := Blk w b (lfC x) 59 ∧ slInts w x.words ∧ ∀ q ∈ ls, slInts w q.words
theorem MostI.exK (b : Nat) (x : Lf) (ls : List Lf) : ExK (MostI b x ls) := fun _ _ h e => ⟨h.1.ex e, h.2.1.ex e, fun q hq => (h.2.2 q hq).ex e⟩
theorem Tryz.most1 (x : Lf) (b : Nat) (ls : List Lf) : PredA Tryz.prog 138 [.pointer (some ⟨b, 0, none⟩)] (fun x => Value.agg (lfC x).toArray) ls (fun q => decide (q.words.xs = x.words.xs)) (MostI b x ls) := by
  rintro q hm w ⟨hB, hx, hq⟩
  have hqq := hq q hm
  show CallA Tryz.prog 138 [Value.agg (lfC q).toArray, .pointer (some ⟨b, 0, none⟩)] w _
  refine callA_intro Tryz.tbOk Tryz.func138 rfl Tryz.ntmps138 Tryz.results138 (by decide) (by simp) ?_
  ((conv => whnf); repeat' (first | ((with_reducible first | refine q1 ?_ | refine q2 ?_); conv => whnf) | (with_reducible refine q3 ?_) | ((with_reducible refine q4 (fun _ => ?_) (fun _ => ?_)) <;> first | (exfalso; omega) | (conv => whnf)) | ((with_reducible first | refine q5 ?_ | refine q6 ?_ | refine q7 ?_ | refine q8 ?_ | refine q9 ?_ | refine q10 ?_ | refine q11 ?_ | refine q12 ?_ | refine q13 ?_ | refine q14 ?_ | refine q15 ?_); conv => whnf) | ((refine q16 (fun _ _ _ _ _ => ?_)); conv => whnf) | ((with_reducible first | refine q17 ?_ | refine q18 ?_ | refine q19 ?_ | refine q20 ?_); conv => whnf)))
  refine NewA.mk' fun w1 b2 hb hs he hB2 => ?_; ((conv => whnf); repeat' (first | ((with_reducible first | refine q1 ?_ | refine q2 ?_); conv => whnf) | (with_reducible refine q3 ?_) | ((with_reducible refine q4 (fun _ => ?_) (fun _ => ?_)) <;> first | (exfalso; omega) | (conv => whnf)) | ((with_reducible first | refine q5 ?_ | refine q6 ?_ | refine q7 ?_ | refine q8 ?_ | refine q9 ?_ | refine q10 ?_ | refine q11 ?_ | refine q12 ?_ | refine q13 ?_ | refine q14 ?_ | refine q15 ?_); conv => whnf) | ((refine q16 (fun _ _ _ _ _ => ?_)); conv => whnf) | ((with_reducible first | refine q17 ?_ | refine q18 ?_ | refine q19 ?_ | refine q20 ?_); conv => whnf)))
  have hB' := hB.ex he
  have hx' := hx.ex he
  have hq' := hqq.ex he
  ((conv => whnf); repeat' (first | ((with_reducible first | refine q1 ?_ | refine q2 ?_); conv => whnf) | (with_reducible refine q3 ?_) | ((with_reducible refine q4 (fun _ => ?_) (fun _ => ?_)) <;> first | (exfalso; omega) | (conv => whnf)) | ((with_reducible first | refine q5 ?_ | refine q6 ?_ | refine q7 ?_ | refine q8 ?_ | refine q9 ?_ | refine q10 ?_ | refine q11 ?_ | refine q12 ?_ | refine q13 ?_ | refine q14 ?_ | refine q15 ?_); conv => whnf) | ((refine q16 (fun _ _ _ _ _ => ?_)); conv => whnf) | ((with_reducible first | refine q17 ?_ | refine q18 ?_ | refine q19 ?_ | refine q20 ?_); conv => whnf)))
  refine CallA.mono (Tryz.equalInts q.words.base x.words.base q.words.cap x.words.cap q.words.xs x.words.xs _ hq'.1 hx'.1 hq'.2) ?_
  rintro v w2 ⟨rfl, he2⟩
  ((conv => whnf); repeat' (first | ((with_reducible first | refine q1 ?_ | refine q2 ?_); conv => whnf) | (with_reducible refine q3 ?_) | ((with_reducible refine q4 (fun _ => ?_) (fun _ => ?_)) <;> first | (exfalso; omega) | (conv => whnf)) | ((with_reducible first | refine q5 ?_ | refine q6 ?_ | refine q7 ?_ | refine q8 ?_ | refine q9 ?_ | refine q10 ?_ | refine q11 ?_ | refine q12 ?_ | refine q13 ?_ | refine q14 ?_ | refine q15 ?_); conv => whnf) | ((refine q16 (fun _ _ _ _ _ => ?_)); conv => whnf) | ((with_reducible first | refine q17 ?_ | refine q18 ?_ | refine q19 ?_ | refine q20 ?_); conv => whnf)))
  exact ⟨rfl, he.tr he2⟩
def mostAt (l : List LM) : Nat → LM × Nat × Nat
  | 0 => ((0, []), 0, 0)
  | k + 1 => match l[k]? with
    | none => mostAt l k
    | some x => if (l.take k).any (fun y => decide (y.2 = x.2)) then mostAt l k else
      if (mostAt l k).2.1 < l.countP (fun y => decide (y.2 = x.2)) then (x, l.countP (fun y => decide (y.2 = x.2)), (mostAt l k).2.1) else ((mostAt l k).1, (mostAt l k).2.1, max (mostAt l k).2.2 (l.countP fun y => decide (y.2 = x.2)))
def mostM (l : List LM) : LM × Bool := ((mostAt l l.length).1, decide ((mostAt l l.length).2.2 < (mostAt l l.length).2.1))
theorem mostAt_le (l : List LM) : ∀ k, (mostAt l k).2.1 ≤ l.length ∧ (mostAt l k).2.2 ≤ l.length
  | 0 => by simp [mostAt]
  | k + 1 => by
    have ih := mostAt_le l k
    unfold mostAt
    split
    · exact ih
    · split
      · exact ih
      · split
        · exact ⟨List.countP_le_length, ih.1⟩
        · exact ⟨ih.1, Nat.max_le.2 ⟨ih.2, List.countP_le_length⟩⟩
set_option maxRecDepth 4000 in
theorem Tryz.most (base : Option Addr) (cap : Nat) (ls : List Lf) (w : World) (h : Lvs w base ls) (hl : ls.length ≤ cap) (hl2 : ls.length ≤ 1000) : CallA Tryz.prog 112 [.slice base ls.length cap] w fun v w' =>
    ∃ o : Lf, v = .tuple #[.agg (lfC o).toArray, .bool (mostM (ls.map Lf.m)).2] ∧ o.m = (mostM (ls.map Lf.m)).1 ∧ (o ∈ ls ∨ o = ⟨0, ⟨none, 0, []⟩⟩) ∧ Ex w w' := by
  refine callA_intro Tryz.tbOk Tryz.func112 rfl Tryz.ntmps112 Tryz.results112 (by decide) (by simp) ?_
  ((conv => whnf); repeat' (first | ((with_reducible first | refine q1 ?_ | refine q2 ?_); conv => whnf) | (with_reducible refine q3 ?_) | ((with_reducible refine q4 (fun _ => ?_) (fun _ => ?_)) <;> first | (exfalso; omega) | (conv => whnf)) | ((with_reducible first | refine q5 ?_ | refine q6 ?_ | refine q7 ?_ | refine q8 ?_ | refine q9 ?_ | refine q10 ?_ | refine q11 ?_ | refine q12 ?_ | refine q13 ?_ | refine q14 ?_ | refine q15 ?_); conv => whnf) | ((refine q16 (fun _ _ _ _ _ => ?_)); conv => whnf) | ((with_reducible first | refine q17 ?_ | refine q18 ?_ | refine q19 ?_ | refine q20 ?_); conv => whnf)))
  refine NewA.mk' fun w1 b2 hb2 hs2 he1 hB2 => ?_; ((conv => whnf); repeat' (first | ((with_reducible first | refine q1 ?_ | refine q2 ?_); conv => whnf) | (with_reducible refine q3 ?_) | ((with_reducible refine q4 (fun _ => ?_) (fun _ => ?_)) <;> first | (exfalso; omega) | (conv => whnf)) | ((with_reducible first | refine q5 ?_ | refine q6 ?_ | refine q7 ?_ | refine q8 ?_ | refine q9 ?_ | refine q10 ?_ | refine q11 ?_ | refine q12 ?_ | refine q13 ?_ | refine q14 ?_ | refine q15 ?_); conv => whnf) | ((refine q16 (fun _ _ _ _ _ => ?_)); conv => whnf) | ((with_reducible first | refine q17 ?_ | refine q18 ?_ | refine q19 ?_ | refine q20 ?_); conv => whnf)))
  refine NewA.mk' fun w2 b4 hb4 hs4 he2 hB4 => ?_; ((conv => whnf); repeat' (first | ((with_reducible first | refine q1 ?_ | refine q2 ?_); conv => whnf) | (with_reducible refine q3 ?_) | ((with_reducible refine q4 (fun _ => ?_) (fun _ => ?_)) <;> first | (exfalso; omega) | (conv => whnf)) | ((with_reducible first | refine q5 ?_ | refine q6 ?_ | refine q7 ?_ | refine q8 ?_ | refine q9 ?_ | refine q10 ?_ | refine q11 ?_ | refine q12 ?_ | refine q13 ?_ | refine q14 ?_ | refine q15 ?_); conv => whnf) | ((refine q16 (fun _ _ _ _ _ => ?_)); conv => whnf) | ((with_reducible first | refine q17 ?_ | refine q18 ?_ | refine q19 ?_ | refine q20 ?_); conv => whnf)))
  have hm := mostAt_le (ls.map Lf.m)
  rw [List.length_map] at hm
  have hB22 := hB2.ex he2
  refine loop_rule Tryz.tbOk (Nat × Lf) [15, 5, 6] (fun | (k, _) => [.int .i64 (k:Int), .int .i64 ((mostAt (ls.map Lf.m) k).2.1 : Int), .int .i64 ((mostAt (ls.map Lf.m) k).2.2 : Int)])
    (fun | (k, o), u => k ≤ ls.length ∧ o.m = (mostAt (ls.map Lf.m) k).1 ∧ (o ∈ ls ∨ o = ⟨0, ⟨none, 0, []⟩⟩) ∧ Blk u b4 (lfC o) 59 ∧ Blk u b2 (lfC ⟨0, ⟨none, 0, []⟩⟩) 59 ∧ Ex w u ∧ w2.heap.size ≤ u.heap.size) (fun | (k, _) => ls.length - k)
    (0, ⟨0, ⟨none, 0, []⟩⟩) rfl ⟨by omega, rfl, .inr rfl, hB4, hB22, he1.tr he2, Nat.le_refl _⟩ ?_
  rintro ⟨k, o⟩ u ⟨hk, hom, hol, hB4u, hB2u, he, hsz⟩ ux
  by_cases hlt : k < ls.length
  · ((conv => whnf); repeat' (first | ((with_reducible first | refine q1 ?_ | refine q2 ?_); conv => whnf) | (with_reducible refine q3 ?_) | ((with_reducible refine q4 (fun _ => ?_) (fun _ => ?_)) <;> first | (exfalso; omega) | (conv => whnf)) | ((with_reducible first | refine q5 ?_ | refine q6 ?_ | refine q7 ?_ | refine q8 ?_ | refine q9 ?_ | refine q10 ?_ | refine q11 ?_ | refine q12 ?_ | refine q13 ?_ | refine q14 ?_ | refine q15 ?_); conv => whnf) | ((refine q16 (fun _ _ _ _ _ => ?_)); conv => whnf) | ((with_reducible first | refine q17 ?_ | refine q18 ?_ | refine q19 ?_ | refine q20 ?_); conv => whnf)))
    refine IdxA.elem (sz := 2) (h.row.ex he) (fun _ => rfl) (by decide) rfl k rfl hlt (fun bb oo hb hcell => ?_)
    ((conv => whnf); repeat' (first | ((with_reducible first | refine q1 ?_ | refine q2 ?_); conv => whnf) | (with_reducible refine q3 ?_) | ((with_reducible refine q4 (fun _ => ?_) (fun _ => ?_)) <;> first | (exfalso; omega) | (conv => whnf)) | ((with_reducible first | refine q5 ?_ | refine q6 ?_ | refine q7 ?_ | refine q8 ?_ | refine q9 ?_ | refine q10 ?_ | refine q11 ?_ | refine q12 ?_ | refine q13 ?_ | refine q14 ?_ | refine q15 ?_); conv => whnf) | ((refine q16 (fun _ _ _ _ _ => ?_)); conv => whnf) | ((with_reducible first | refine q17 ?_ | refine q18 ?_ | refine q19 ?_ | refine q20 ?_); conv => whnf)))
    refine LoadN.mk' (vs := lfC ls[k]) rfl (fun j x hj => hcell j x hj) ?_
    ((conv => whnf); repeat' (first | ((with_reducible first | refine q1 ?_ | refine q2 ?_); conv => whnf) | (with_reducible refine q3 ?_) | ((with_reducible refine q4 (fun _ => ?_) (fun _ => ?_)) <;> first | (exfalso; omega) | (conv => whnf)) | ((with_reducible first | refine q5 ?_ | refine q6 ?_ | refine q7 ?_ | refine q8 ?_ | refine q9 ?_ | refine q10 ?_ | refine q11 ?_ | refine q12 ?_ | refine q13 ?_ | refine q14 ?_ | refine q15 ?_); conv => whnf) | ((refine q16 (fun _ _ _ _ _ => ?_)); conv => whnf) | ((with_reducible first | refine q17 ?_ | refine q18 ?_ | refine q19 ?_ | refine q20 ?_); conv => whnf)))
    refine NewA.mk' fun u0 b8 hb8 hs8 he0 hB0 => ?_; ((conv => whnf); repeat' (first | ((with_reducible first | refine q1 ?_ | refine q2 ?_); conv => whnf) | (with_reducible refine q3 ?_) | ((with_reducible refine q4 (fun _ => ?_) (fun _ => ?_)) <;> first | (exfalso; omega) | (conv => whnf)) | ((with_reducible first | refine q5 ?_ | refine q6 ?_ | refine q7 ?_ | refine q8 ?_ | refine q9 ?_ | refine q10 ?_ | refine q11 ?_ | refine q12 ?_ | refine q13 ?_ | refine q14 ?_ | refine q15 ?_); conv => whnf) | ((refine q16 (fun _ _ _ _ _ => ?_)); conv => whnf) | ((with_reducible first | refine q17 ?_ | refine q18 ?_ | refine q19 ?_ | refine q20 ?_); conv => whnf)))
    refine StoreA.var hB0 rfl rfl rfl fun u1 hu1 hB8 => ?_
    have he01 : Ex u u1 := he0.upd hu1 (by omega)
    ((conv => whnf); repeat' (first | ((with_reducible first | refine q1 ?_ | refine q2 ?_); conv => whnf) | (with_reducible refine q3 ?_) | ((with_reducible refine q4 (fun _ => ?_) (fun _ => ?_)) <;> first | (exfalso; omega) | (conv => whnf)) | ((with_reducible first | refine q5 ?_ | refine q6 ?_ | refine q7 ?_ | refine q8 ?_ | refine q9 ?_ | refine q10 ?_ | refine q11 ?_ | refine q12 ?_ | refine q13 ?_ | refine q14 ?_ | refine q15 ?_); conv => whnf) | ((refine q16 (fun _ _ _ _ _ => ?_)); conv => whnf) | ((with_reducible first | refine q17 ?_ | refine q18 ?_ | refine q19 ?_ | refine q20 ?_); conv => whnf)))
    have hr1 := h.row.ex (he.tr he01)
    refine RunV.sliceRow (e := 59) (sz := 2) (by_ := 32) (z := some (.agg #[.int .i64 0, .slice none 0 0])) Tryz.tbOk rfl hr1 0 k cap k (.inr ⟨rfl, rfl⟩) (.inl rfl) (.inr ⟨rfl, rfl⟩) (fun h => by cases h) (by omega) (by omega) (by omega) fun bs cs hcs _ hrs => ?_
    rw [Nat.zero_mul, List.drop_zero, rowC_take (sz := 2) (fun _ => rfl)] at hrs
    have htl : (ls.take k).length = k := by rw [List.length_take]; omega
    ((conv => whnf); repeat' (first | ((with_reducible first | refine q1 ?_ | refine q2 ?_); conv => whnf) | (with_reducible refine q3 ?_) | ((with_reducible refine q4 (fun _ => ?_) (fun _ => ?_)) <;> first | (exfalso; omega) | (conv => whnf)) | ((with_reducible first | refine q5 ?_ | refine q6 ?_ | refine q7 ?_ | refine q8 ?_ | refine q9 ?_ | refine q10 ?_ | refine q11 ?_ | refine q12 ?_ | refine q13 ?_ | refine q14 ?_ | refine q15 ?_); conv => whnf) | ((refine q16 (fun _ _ _ _ _ => ?_)); conv => whnf) | ((with_reducible first | refine q17 ?_ | refine q18 ?_ | refine q19 ?_ | refine q20 ?_); conv => whnf)))
    have hMI : MostI b8 ls[k] ls u1 := ⟨hB8, (h.each _ (List.getElem_mem hlt)).ex (he.tr he01), fun q hq => (h.each q hq).ex (he.tr he01)⟩
    have hct := Tryz.containsLfs bs cs (ls.take k) 138 #[.pointer (some ⟨b8, 0, none⟩)] _ _ u1 (fun q hq => Tryz.most1 ls[k] b8 ls q (List.mem_of_mem_take hq)) (MostI.exK b8 ls[k] ls) hMI hrs (by omega)
    rw [htl] at hct
    refine CallA.mono hct ?_
    rintro v u2 ⟨rfl, he2⟩
    have hlk : (ls.map Lf.m)[k]? = some ls[k].m := by rw [List.getElem?_map, List.getElem?_eq_getElem hlt]; rfl
    have hany : ((ls.map Lf.m).take k).any (fun y => decide (y.2 = ls[k].m.2)) = (ls.take k).any fun q => decide (q.words.xs = ls[k].words.xs) := by
      rw [← List.map_take, List.any_map]; rfl
    have hcnt : (ls.map Lf.m).countP (fun y => decide (y.2 = ls[k].m.2)) = ls.countP fun q => decide (q.words.xs = ls[k].words.xs) := by
      rw [List.countP_map]; rfl
    have hnx : mostAt (ls.map Lf.m) (k + 1) = if (ls.take k).any (fun q => decide (q.words.xs = ls[k].words.xs)) then mostAt (ls.map Lf.m) k else
      if (mostAt (ls.map Lf.m) k).2.1 < ls.countP (fun q => decide (q.words.xs = ls[k].words.xs)) then (ls[k].m, ls.countP (fun q => decide (q.words.xs = ls[k].words.xs)), (mostAt (ls.map Lf.m) k).2.1) else ((mostAt (ls.map Lf.m) k).1, (mostAt (ls.map Lf.m) k).2.1, max (mostAt (ls.map Lf.m) k).2.2 (ls.countP fun q => decide (q.words.xs = ls[k].words.xs))) := by
      rw [mostAt, hlk]; simp only [hany, hcnt]
    have he02 : Ex u u2 := he01.tr he2
    have hs2 := he02.size
    ((conv => whnf); repeat' (first | ((with_reducible first | refine q1 ?_ | refine q2 ?_); conv => whnf) | (with_reducible refine q3 ?_) | ((with_reducible refine q4 (fun _ => ?_) (fun _ => ?_)) <;> first | (exfalso; omega) | (conv => whnf)) | ((with_reducible first | refine q5 ?_ | refine q6 ?_ | refine q7 ?_ | refine q8 ?_ | refine q9 ?_ | refine q10 ?_ | refine q11 ?_ | refine q12 ?_ | refine q13 ?_ | refine q14 ?_ | refine q15 ?_); conv => whnf) | ((refine q16 (fun _ _ _ _ _ => ?_)); conv => whnf) | ((with_reducible first | refine q17 ?_ | refine q18 ?_ | refine q19 ?_ | refine q20 ?_); conv => whnf)))
    refine Br.var (fun hc => ?_) (fun hc => ?_)
    · rw [if_pos hc] at hnx
      ((conv => whnf); repeat' (first | ((with_reducible first | refine q1 ?_ | refine q2 ?_); conv => whnf) | (with_reducible refine q3 ?_) | ((with_reducible refine q4 (fun _ => ?_) (fun _ => ?_)) <;> first | (exfalso; omega) | (conv => whnf)) | ((with_reducible first | refine q5 ?_ | refine q6 ?_ | refine q7 ?_ | refine q8 ?_ | refine q9 ?_ | refine q10 ?_ | refine q11 ?_ | refine q12 ?_ | refine q13 ?_ | refine q14 ?_ | refine q15 ?_); conv => whnf) | ((refine q16 (fun _ _ _ _ _ => ?_)); conv => whnf) | ((with_reducible first | refine q17 ?_ | refine q18 ?_ | refine q19 ?_ | refine q20 ?_); conv => whnf)))
      refine ⟨(k + 1, o), by simp only [hnx]; rfl, ⟨by omega, by rw [hnx]; exact hom, hol, hB4u.ex he02, hB2u.ex he02, he.tr he02, by omega⟩, by simp only []; omega⟩
    · rw [if_neg (by rw [hc]; simp)] at hnx
      ((conv => whnf); repeat' (first | ((with_reducible first | refine q1 ?_ | refine q2 ?_); conv => whnf) | (with_reducible refine q3 ?_) | ((with_reducible refine q4 (fun _ => ?_) (fun _ => ?_)) <;> first | (exfalso; omega) | (conv => whnf)) | ((with_reducible first | refine q5 ?_ | refine q6 ?_ | refine q7 ?_ | refine q8 ?_ | refine q9 ?_ | refine q10 ?_ | refine q11 ?_ | refine q12 ?_ | refine q13 ?_ | refine q14 ?_ | refine q15 ?_); conv => whnf) | ((refine q16 (fun _ _ _ _ _ => ?_)); conv => whnf) | ((with_reducible first | refine q17 ?_ | refine q18 ?_ | refine q19 ?_ | refine q20 ?_); conv => whnf)))
      have hpq : ∀ q ∈ ls, slInts u2 q.words := fun q hq => (h.each q hq).ex (he.tr he02)
      have hMI2 : MostI b8 ls[k] ls u2 := MostI.exK b8 ls[k] ls _ _ hMI he2
      refine loop_rule Tryz.tbOk (Nat × Nat) [28, 10] (fun | (j, n) => [.int .i64 (j:Int), .int .i64 (n:Int)])
        (fun | (j, n), v => j ≤ ls.length ∧ n = (ls.take j).countP (fun q => decide (q.words.xs = ls[k].words.xs)) ∧ Ex u2 v) (fun | (j, _) => ls.length - j)
        (0, 0) rfl ⟨by omega, by simp, Ex.refl _⟩ ?_
      rintro ⟨j, n⟩ v ⟨hj, hn, hev⟩ vx
      have hnle : n ≤ j := by rw [hn]; exact Nat.le_trans List.countP_le_length (by rw [List.length_take]; omega)
      by_cases hjl : j < ls.length
      · ((conv => whnf); repeat' (first | ((with_reducible first | refine q1 ?_ | refine q2 ?_); conv => whnf) | (with_reducible refine q3 ?_) | ((with_reducible refine q4 (fun _ => ?_) (fun _ => ?_)) <;> first | (exfalso; omega) | (conv => whnf)) | ((with_reducible first | refine q5 ?_ | refine q6 ?_ | refine q7 ?_ | refine q8 ?_ | refine q9 ?_ | refine q10 ?_ | refine q11 ?_ | refine q12 ?_ | refine q13 ?_ | refine q14 ?_ | refine q15 ?_); conv => whnf) | ((refine q16 (fun _ _ _ _ _ => ?_)); conv => whnf) | ((with_reducible first | refine q17 ?_ | refine q18 ?_ | refine q19 ?_ | refine q20 ?_); conv => whnf)))
        refine IdxA.elem (sz := 2) (h.row.ex ((he.tr he02).tr hev)) (fun _ => rfl) (by decide) rfl j rfl hjl (fun bb oo hb hcell => ?_)
        ((conv => whnf); repeat' (first | ((with_reducible first | refine q1 ?_ | refine q2 ?_); conv => whnf) | (with_reducible refine q3 ?_) | ((with_reducible refine q4 (fun _ => ?_) (fun _ => ?_)) <;> first | (exfalso; omega) | (conv => whnf)) | ((with_reducible first | refine q5 ?_ | refine q6 ?_ | refine q7 ?_ | refine q8 ?_ | refine q9 ?_ | refine q10 ?_ | refine q11 ?_ | refine q12 ?_ | refine q13 ?_ | refine q14 ?_ | refine q15 ?_); conv => whnf) | ((refine q16 (fun _ _ _ _ _ => ?_)); conv => whnf) | ((with_reducible first | refine q17 ?_ | refine q18 ?_ | refine q19 ?_ | refine q20 ?_); conv => whnf)))
        refine LoadN.mk' (vs := lfC ls[j]) rfl (fun j x hj => hcell j x hj) ?_
        ((conv => whnf); repeat' (first | ((with_reducible first | refine q1 ?_ | refine q2 ?_); conv => whnf) | (with_reducible refine q3 ?_) | ((with_reducible refine q4 (fun _ => ?_) (fun _ => ?_)) <;> first | (exfalso; omega) | (conv => whnf)) | ((with_reducible first | refine q5 ?_ | refine q6 ?_ | refine q7 ?_ | refine q8 ?_ | refine q9 ?_ | refine q10 ?_ | refine q11 ?_ | refine q12 ?_ | refine q13 ?_ | refine q14 ?_ | refine q15 ?_); conv => whnf) | ((refine q16 (fun _ _ _ _ _ => ?_)); conv => whnf) | ((with_reducible first | refine q17 ?_ | refine q18 ?_ | refine q19 ?_ | refine q20 ?_); conv => whnf)))
        refine NewA.mk' fun v0 b12 hb12 hs12 hf0 hB120 => ?_; ((conv => whnf); repeat' (first | ((with_reducible first | refine q1 ?_ | refine q2 ?_); conv => whnf) | (with_reducible refine q3 ?_) | ((with_reducible refine q4 (fun _ => ?_) (fun _ => ?_)) <;> first | (exfalso; omega) | (conv => whnf)) | ((with_reducible first | refine q5 ?_ | refine q6 ?_ | refine q7 ?_ | refine q8 ?_ | refine q9 ?_ | refine q10 ?_ | refine q11 ?_ | refine q12 ?_ | refine q13 ?_ | refine q14 ?_ | refine q15 ?_); conv => whnf) | ((refine q16 (fun _ _ _ _ _ => ?_)); conv => whnf) | ((with_reducible first | refine q17 ?_ | refine q18 ?_ | refine q19 ?_ | refine q20 ?_); conv => whnf)))
        refine StoreA.var hB120 rfl rfl rfl fun v1 hv1 hB12 => ?_
        have hf1 : Ex v v1 := hf0.upd hv1 (by omega)
        ((conv => whnf); repeat' (first | ((with_reducible first | refine q1 ?_ | refine q2 ?_); conv => whnf) | (with_reducible refine q3 ?_) | ((with_reducible refine q4 (fun _ => ?_) (fun _ => ?_)) <;> first | (exfalso; omega) | (conv => whnf)) | ((with_reducible first | refine q5 ?_ | refine q6 ?_ | refine q7 ?_ | refine q8 ?_ | refine q9 ?_ | refine q10 ?_ | refine q11 ?_ | refine q12 ?_ | refine q13 ?_ | refine q14 ?_ | refine q15 ?_); conv => whnf) | ((refine q16 (fun _ _ _ _ _ => ?_)); conv => whnf) | ((with_reducible first | refine q17 ?_ | refine q18 ?_ | refine q19 ?_ | refine q20 ?_); conv => whnf)))
        refine CallA.mono (Tryz.most1 ls[k] b8 ls ls[j] (List.getElem_mem hjl) v1 (MostI.exK b8 ls[k] ls _ _ hMI2 (hev.tr hf1))) ?_
        rintro v v2 ⟨rfl, hf2⟩
        have hct2 : (ls.take (j + 1)).countP (fun q => decide (q.words.xs = ls[k].words.xs)) = n + if decide (ls[j].words.xs = ls[k].words.xs) = true then 1 else 0 := by
          rw [List.take_succ_eq_append_getElem hjl, List.countP_append, hn, List.countP_singleton]
        ((conv => whnf); repeat' (first | ((with_reducible first | refine q1 ?_ | refine q2 ?_); conv => whnf) | (with_reducible refine q3 ?_) | ((with_reducible refine q4 (fun _ => ?_) (fun _ => ?_)) <;> first | (exfalso; omega) | (conv => whnf)) | ((with_reducible first | refine q5 ?_ | refine q6 ?_ | refine q7 ?_ | refine q8 ?_ | refine q9 ?_ | refine q10 ?_ | refine q11 ?_ | refine q12 ?_ | refine q13 ?_ | refine q14 ?_ | refine q15 ?_); conv => whnf) | ((refine q16 (fun _ _ _ _ _ => ?_)); conv => whnf) | ((with_reducible first | refine q17 ?_ | refine q18 ?_ | refine q19 ?_ | refine q20 ?_); conv => whnf)))
        · rename_i heq
          rw [if_pos (by simpa using heq)] at hct2
          exact ⟨(j + 1, n + 1), by simp, ⟨by omega, hct2.symm, (hev.tr hf1).tr hf2⟩, by simp only []; omega⟩
        · rename_i heq
          rw [if_neg (by simpa using heq)] at hct2
          exact ⟨(j + 1, n), by simp, ⟨by omega, hct2.symm, (hev.tr hf1).tr hf2⟩, by simp only []; omega⟩
      · have hjl : j = ls.length := by omega
        subst hjl
        rw [List.take_length] at hn
        rw [← hn] at hnx
        have h1 := (hm k).1
        have h2 := (hm k).2
        have he03 : Ex u v := he02.tr hev
        have hs3 := he03.size
        ((conv => whnf); repeat' (first | ((with_reducible first | refine q1 ?_ | refine q2 ?_); conv => whnf) | (with_reducible refine q3 ?_) | ((with_reducible refine q4 (fun _ => ?_) (fun _ => ?_)) <;> first | (exfalso; omega) | (conv => whnf)) | ((with_reducible first | refine q5 ?_ | refine q6 ?_ | refine q7 ?_ | refine q8 ?_ | refine q9 ?_ | refine q10 ?_ | refine q11 ?_ | refine q12 ?_ | refine q13 ?_ | refine q14 ?_ | refine q15 ?_); conv => whnf) | ((refine q16 (fun _ _ _ _ _ => ?_)); conv => whnf) | ((with_reducible first | refine q17 ?_ | refine q18 ?_ | refine q19 ?_ | refine q20 ?_); conv => whnf)))
        · rename_i hgt
          rw [if_pos (by omega)] at hnx
          refine LoadN.blk (((hB8.ex he2).ex hev)) rfl ?_
          ((conv => whnf); repeat' (first | ((with_reducible first | refine q1 ?_ | refine q2 ?_); conv => whnf) | (with_reducible refine q3 ?_) | ((with_reducible refine q4 (fun _ => ?_) (fun _ => ?_)) <;> first | (exfalso; omega) | (conv => whnf)) | ((with_reducible first | refine q5 ?_ | refine q6 ?_ | refine q7 ?_ | refine q8 ?_ | refine q9 ?_ | refine q10 ?_ | refine q11 ?_ | refine q12 ?_ | refine q13 ?_ | refine q14 ?_ | refine q15 ?_); conv => whnf) | ((refine q16 (fun _ _ _ _ _ => ?_)); conv => whnf) | ((with_reducible first | refine q17 ?_ | refine q18 ?_ | refine q19 ?_ | refine q20 ?_); conv => whnf)))
          refine StoreA.var (hB4u.ex he03) rfl rfl rfl fun v4 hv4 hB44 => ?_
          ((conv => whnf); repeat' (first | ((with_reducible first | refine q1 ?_ | refine q2 ?_); conv => whnf) | (with_reducible refine q3 ?_) | ((with_reducible refine q4 (fun _ => ?_) (fun _ => ?_)) <;> first | (exfalso; omega) | (conv => whnf)) | ((with_reducible first | refine q5 ?_ | refine q6 ?_ | refine q7 ?_ | refine q8 ?_ | refine q9 ?_ | refine q10 ?_ | refine q11 ?_ | refine q12 ?_ | refine q13 ?_ | refine q14 ?_ | refine q15 ?_); conv => whnf) | ((refine q16 (fun _ _ _ _ _ => ?_)); conv => whnf) | ((with_reducible first | refine q17 ?_ | refine q18 ?_ | refine q19 ?_ | refine q20 ?_); conv => whnf)))
          refine ⟨(k + 1, ls[k]), by simp only [hnx]; rfl, ⟨by omega, by rw [hnx], .inl (List.getElem_mem hlt), hB44, hv4.blk (hB2u.ex he03) (by omega), (he.tr he03).upd hv4 (by have := he1.size; omega), by rw [hv4.size]; omega⟩, by simp only []; omega⟩
        · rename_i hgt
          rw [if_neg (by omega)] at hnx
          refine RunV.max ?_
          ((conv => whnf); repeat' (first | ((with_reducible first | refine q1 ?_ | refine q2 ?_); conv => whnf) | (with_reducible refine q3 ?_) | ((with_reducible refine q4 (fun _ => ?_) (fun _ => ?_)) <;> first | (exfalso; omega) | (conv => whnf)) | ((with_reducible first | refine q5 ?_ | refine q6 ?_ | refine q7 ?_ | refine q8 ?_ | refine q9 ?_ | refine q10 ?_ | refine q11 ?_ | refine q12 ?_ | refine q13 ?_ | refine q14 ?_ | refine q15 ?_); conv => whnf) | ((refine q16 (fun _ _ _ _ _ => ?_)); conv => whnf) | ((with_reducible first | refine q17 ?_ | refine q18 ?_ | refine q19 ?_ | refine q20 ?_); conv => whnf)))
          refine ⟨(k + 1, o), ?_, ⟨by omega, by rw [hnx]; exact hom, hol, hB4u.ex he03, hB2u.ex he03, he.tr he03, by omega⟩, by simp only []; omega⟩
          simp only [hnx]
          congr 3
          refine congrArg (Value.int IntKind.i64) ?_
          rw [Nat.max_def]
          (repeat' split) <;> omega
  · ((conv => whnf); repeat' (first | ((with_reducible first | refine q1 ?_ | refine q2 ?_); conv => whnf) | (with_reducible refine q3 ?_) | ((with_reducible refine q4 (fun _ => ?_) (fun _ => ?_)) <;> first | (exfalso; omega) | (conv => whnf)) | ((with_reducible first | refine q5 ?_ | refine q6 ?_ | refine q7 ?_ | refine q8 ?_ | refine q9 ?_ | refine q10 ?_ | refine q11 ?_ | refine q12 ?_ | refine q13 ?_ | refine q14 ?_ | refine q15 ?_); conv => whnf) | ((refine q16 (fun _ _ _ _ _ => ?_)); conv => whnf) | ((with_reducible first | refine q17 ?_ | refine q18 ?_ | refine q19 ?_ | refine q20 ?_); conv => whnf)))
    have hkl : k = ls.length := by omega
    subst hkl
    have hne : b2 ≠ b4 := by omega
    refine StoreA.var hB2u rfl rfl rfl fun v4 hv4 hB24 => ?_
    ((conv => whnf); repeat' (first | ((with_reducible first | refine q1 ?_ | refine q2 ?_); conv => whnf) | (with_reducible refine q3 ?_) | ((with_reducible refine q4 (fun _ => ?_) (fun _ => ?_)) <;> first | (exfalso; omega) | (conv => whnf)) | ((with_reducible first | refine q5 ?_ | refine q6 ?_ | refine q7 ?_ | refine q8 ?_ | refine q9 ?_ | refine q10 ?_ | refine q11 ?_ | refine q12 ?_ | refine q13 ?_ | refine q14 ?_ | refine q15 ?_); conv => whnf) | ((refine q16 (fun _ _ _ _ _ => ?_)); conv => whnf) | ((with_reducible first | refine q17 ?_ | refine q18 ?_ | refine q19 ?_ | refine q20 ?_); conv => whnf)))
    refine ⟨o, ?_, by rw [hom]; unfold mostM; rw [List.length_map], hol, he.upd hv4 (by omega)⟩
    have e1 : decide (((mostAt (ls.map Lf.m) ls.length).2.2 : Int) < ((mostAt (ls.map Lf.m) ls.length).2.1 : Int)) = (mostM (ls.map Lf.m)).2 := by
      unfold mostM; rw [List.length_map]; simp only [Int.ofNat_lt]
    rw [e1]; rfl
end Go.Proofs
