/-
  L20: a part of the proof. By an AI agent.
-/
import Derived.Test.YtpeihahmhpamoaaGreatVQ
import Derived.Test.YtpeihahmhpamoaaGreatV10
import Derived.Test.YtpeihahmhpamoaaGreatL19
set_option linter.all false
namespace Go.Proofs
open Go.V
open Go.RowKit (Below)
def lineLe (x y : Line) : Bool := !(ltOf lineCf y x)
def sortLn (xs : List Line) : List Line := xs.mergeSort lineLe
/-- no two lines with one ID but one line -/
def OneId (xs : List Line) : Prop := ∀ x ∈ xs, ∀ y ∈ xs, x.id = y.id → x = y
theorem lineLe_iff (x y : Line) : lineLe x y = true ↔ (x.day < y.day ∨ (x.day = y.day ∧ x.id ≤ y.id)) := by
  simp only [lineLe, ltOf, Bool.not_eq_true', decide_eq_false_iff_not, lineCf_lt]; omega
theorem lineLe_trans (a b c : Line) : lineLe a b = true → lineLe b c = true → lineLe a c = true := by simp only [lineLe_iff]; omega
theorem lineLe_total (a b : Line) : (lineLe a b || lineLe b a) = true := by simp only [Bool.or_eq_true, lineLe_iff]; omega
theorem lineLe_anti {a b : Line} (h1 : lineLe a b = true) (h2 : lineLe b a = true) : a.id = b.id := by simp only [lineLe_iff] at h1 h2; omega
theorem sortLn_perm (xs : List Line) : (sortLn xs).Perm xs := List.mergeSort_perm _ _
theorem sortLn_length (xs : List Line) : (sortLn xs).length = xs.length := (sortLn_perm xs).length_eq
theorem sortLn_sorted (xs : List Line) : (sortLn xs).Pairwise fun a b => lineLe a b = true := List.pairwise_mergeSort lineLe_trans lineLe_total xs
theorem sortLn_eq {xs ys : List Line} (h1 : OneId xs) (hp : ys.Perm xs) (hs : ys.Pairwise fun a b => lineLe a b = true) : ys = sortLn xs :=
  List.Perm.eq_of_pairwise (fun a b ha hb h h' => h1 a (hp.mem_iff.1 ha) b ((sortLn_perm xs).mem_iff.1 hb) (lineLe_anti h h')) hs (sortLn_sorted xs) (hp.trans (sortLn_perm xs).symm)
theorem Tryz.sortLines (base : Option Addr) (cap N : Nat) (xs : List Line) (w : World) (ho : Own w N 79 4 base xs.length cap (rowC lineC xs)) (hb : base ≠ none) (h1 : OneId xs) (hl : xs.length < 1000000000) :
    CallA Tryz.prog 91 [.slice base xs.length cap, .func (.func 92) #[] #[]] w fun v w' => Own w' N 79 4 base xs.length cap (rowC lineC (sortLn xs)) ∧ w.grownBy w' (blkOf base) := by
  rcases ho.2 with ⟨hv, _⟩ | ⟨g, c2, cur, hv, hNg, hg, hnc, hcm, hcs, htake⟩
  · injection hv with e; exact absurd e hb
  injection hv with e1 e2 e3
  subst e1
  have hlt : g < w.heap.size := (Array.getElem?_eq_some_iff.1 hg).1
  refine CallA.of Tryz.func91 rfl (by decide) ?_
  have hty : TyIs Tryz.prog 79 _ := Tb.find_ty Tryz.tbOk rfl
  obtain ⟨i, hi, hi2, _⟩ := hty.info
  have h := AnyQ.slices_SortFunc Tryz.laySortLn 4 (fun w => by show (isAgg 79).run Tryz.prog w = _; simp [isAgg, run_underlying hty.und]) (fun w => by show (Go.sizeOf 79).run Tryz.prog w = _; simp [sizeOf, typeInfo, hi, hi2])
    lineC (fun _ => rfl) (fun x v hv => by rw [← one_eq]; exact lineC_one x v hv) lineCf lineSWO 92 #[] g 0 cap xs.toArray w (enters_of Tryz.func92 (by kernel_rfl) rfl) (lineCmpLays g 0 _ w) (holds_own ho) hlt (by simp; omega)
  change Calls Tryz.prog 91 #[.slice (some ⟨g, 0, none⟩) xs.toArray.size cap, .func (.func 92) #[] #[]] w _ at h
  rw [List.size_toArray] at h
  refine h.mono ?_
  rintro e w' ⟨rfl, d', n, os, hp, hs, rfl⟩
  refine ⟨_, rfl, ?_⟩
  obtain ⟨hd, _, hperm⟩ := hp
  have hd' : d'.size = xs.length := by simpa using hd
  have hys : d'.toList = sortLn xs := by
    refine sortLn_eq h1 ?_ ?_
    · have e1 : d'.extract 0 xs.length = d' := by rw [← hd']; simp
      rw [e1] at hperm
      simpa using hperm
    · rw [List.pairwise_iff_getElem]
      intro i j hi hj hij
      simp only [Array.length_toList] at hi hj
      have := hs i j (by omega) hij (by omega)
      rw [getElem!_pos d' j hj, getElem!_pos d' i hi] at this
      simp only [Array.getElem_toList, lineLe, this]; rfl
  have hfin := own_sorted (ys := sortLn xs) ho (sortLn_length xs) n os
  have hda : d' = (sortLn xs).toArray := by rw [← hys]
  rw [hda]
  exact hfin
theorem Tryz.sortNone (base : Option Addr) (cap : Nat) (fv : Value) (w : World) : CallA Tryz.prog 91 [.slice base 0 cap, fv] w fun _ w' => w' = w := by
  refine CallA.of Tryz.func91 rfl (by decide) ?_
  have h := AnyF.slices_SortFunc_none Tryz.laySortLn base cap fv w
  change Calls Tryz.prog 91 #[.slice base 0 cap, fv] w _ at h
  refine h.mono ?_
  rintro e w' ⟨rfl, rfl⟩
  exact ⟨_, rfl, rfl⟩
theorem sortLn_nil : sortLn [] = [] := by simp [sortLn]
theorem Tryz.sortedL (base : Option Addr) (cap : Nat) (xs : List Line) (w : World) (hr : Row w base (rowC lineC xs)) (h1 : OneId xs) (hl : xs.length < 1000000000) : CallA Tryz.prog 47 [.slice base xs.length cap] w (RetLn w (sortLn xs)) := by
  refine callA_intro Tryz.tbOk Tryz.func47 rfl Tryz.ntmps47 Tryz.results47 (by decide) (by simp) ?_
  ((conv => whnf); repeat' (first | ((with_reducible first | refine q1 ?_ | refine q2 ?_); conv => whnf) | (with_reducible refine q3 ?_) | ((with_reducible refine q4 (fun _ => ?_) (fun _ => ?_)) <;> first | (exfalso; omega) | (conv => whnf)) | ((with_reducible first | refine q5 ?_ | refine q6 ?_ | refine q7 ?_ | refine q8 ?_ | refine q9 ?_ | refine q10 ?_ | refine q11 ?_ | refine q12 ?_ | refine q13 ?_ | refine q14 ?_ | refine q15 ?_); conv => whnf) | ((refine q16 (fun _ _ _ _ _ => ?_)); conv => whnf) | ((with_reducible first | refine q17 ?_ | refine q18 ?_ | refine q19 ?_ | refine q20 ?_); conv => whnf)))
  refine CallA.mono (Tryz.cloneLines base cap xs w hr (by omega)) ?_
  rintro v w1 ⟨b, c, rfl, ho, he⟩
  cases hx : xs with
  | nil =>
    subst hx
    ((conv => whnf); repeat' (first | ((with_reducible first | refine q1 ?_ | refine q2 ?_); conv => whnf) | (with_reducible refine q3 ?_) | ((with_reducible refine q4 (fun _ => ?_) (fun _ => ?_)) <;> first | (exfalso; omega) | (conv => whnf)) | ((with_reducible first | refine q5 ?_ | refine q6 ?_ | refine q7 ?_ | refine q8 ?_ | refine q9 ?_ | refine q10 ?_ | refine q11 ?_ | refine q12 ?_ | refine q13 ?_ | refine q14 ?_ | refine q15 ?_); conv => whnf) | ((refine q16 (fun _ _ _ _ _ => ?_)); conv => whnf) | ((with_reducible first | refine q17 ?_ | refine q18 ?_ | refine q19 ?_ | refine q20 ?_); conv => whnf)))
    refine CallA.mono (Tryz.sortNone b c _ w1) ?_
    rintro v w2 rfl
    ((conv => whnf); repeat' (first | ((with_reducible first | refine q1 ?_ | refine q2 ?_); conv => whnf) | (with_reducible refine q3 ?_) | ((with_reducible refine q4 (fun _ => ?_) (fun _ => ?_)) <;> first | (exfalso; omega) | (conv => whnf)) | ((with_reducible first | refine q5 ?_ | refine q6 ?_ | refine q7 ?_ | refine q8 ?_ | refine q9 ?_ | refine q10 ?_ | refine q11 ?_ | refine q12 ?_ | refine q13 ?_ | refine q14 ?_ | refine q15 ?_); conv => whnf) | ((refine q16 (fun _ _ _ _ _ => ?_)); conv => whnf) | ((with_reducible first | refine q17 ?_ | refine q18 ?_ | refine q19 ?_ | refine q20 ?_); conv => whnf)))
    rw [sortLn_nil]
    exact ⟨b, c, rfl, ho, he⟩
  | cons x0 xr =>
    have hne : xs ≠ [] := by rw [hx]; simp
    rw [← hx]
    have hb : b ≠ none := by
      rcases ho.2 with ⟨_, h0⟩ | ⟨g, c2, cur, hv, _⟩
      · exact absurd (List.length_eq_zero_iff.1 h0) hne
      · injection hv with e1; rw [e1]; simp
    ((conv => whnf); repeat' (first | ((with_reducible first | refine q1 ?_ | refine q2 ?_); conv => whnf) | (with_reducible refine q3 ?_) | ((with_reducible refine q4 (fun _ => ?_) (fun _ => ?_)) <;> first | (exfalso; omega) | (conv => whnf)) | ((with_reducible first | refine q5 ?_ | refine q6 ?_ | refine q7 ?_ | refine q8 ?_ | refine q9 ?_ | refine q10 ?_ | refine q11 ?_ | refine q12 ?_ | refine q13 ?_ | refine q14 ?_ | refine q15 ?_); conv => whnf) | ((refine q16 (fun _ _ _ _ _ => ?_)); conv => whnf) | ((with_reducible first | refine q17 ?_ | refine q18 ?_ | refine q19 ?_ | refine q20 ?_); conv => whnf)))
    refine CallA.mono (Tryz.sortLines b c w.heap.size xs w1 ho hb h1 hl) ?_
    rintro v w2 ⟨ho2, hg2⟩
    ((conv => whnf); repeat' (first | ((with_reducible first | refine q1 ?_ | refine q2 ?_); conv => whnf) | (with_reducible refine q3 ?_) | ((with_reducible refine q4 (fun _ => ?_) (fun _ => ?_)) <;> first | (exfalso; omega) | (conv => whnf)) | ((with_reducible first | refine q5 ?_ | refine q6 ?_ | refine q7 ?_ | refine q8 ?_ | refine q9 ?_ | refine q10 ?_ | refine q11 ?_ | refine q12 ?_ | refine q13 ?_ | refine q14 ?_ | refine q15 ?_); conv => whnf) | ((refine q16 (fun _ _ _ _ _ => ?_)); conv => whnf) | ((with_reducible first | refine q17 ?_ | refine q18 ?_ | refine q19 ?_ | refine q20 ?_); conv => whnf)))
    refine ⟨b, c, by rw [sortLn_length], by rw [sortLn_length]; exact ho2, he.grow hg2 (fun k hk => (ho.blk_ge k hk).1)⟩
def KnownM (ls : List Line) (day : Int) : List Line × Int :=
  if checkLinesM ls = 0 then (if 0 ≤ day ∧ day ≤ 728 then ((sortLn ls).filter fun x => decide (x.day ≤ day), 0) else ([], 1)) else ([], checkLinesM ls)
theorem checkG_one : ∀ (t pre : List Line), checkG pre t = 0 → ∀ x ∈ t, ∀ y ∈ pre, x.id ≠ y.id := by
  intro t
  induction t with
  | nil => intro pre _ x hx; simp at hx
  | cons a t ih =>
    intro pre h x hx y hy
    rw [checkG] at h
    by_cases ha : validB a = true
    · rw [if_pos ha] at h
      by_cases hp : pre.any (fun q => decide (q.id = a.id)) = true
      · rw [if_pos hp] at h; cases h
      · rw [if_neg hp] at h
        rcases List.mem_cons.1 hx with rfl | hx
        · intro e
          exact hp (List.any_eq_true.2 ⟨y, hy, by simp [e]⟩)
        · exact ih _ h x hx y (by simp [hy])
    · rw [if_neg ha] at h; cases h
theorem checkG_distinct : ∀ (t pre : List Line), checkG pre t = 0 → (t.map (·.id)).Nodup := by
  intro t
  induction t with
  | nil => intro pre _; simp
  | cons a t ih =>
    intro pre h
    have hh := checkG_one (a :: t) pre h
    rw [checkG] at h
    by_cases ha : validB a = true
    · rw [if_pos ha] at h
      by_cases hp : pre.any (fun q => decide (q.id = a.id)) = true
      · rw [if_pos hp] at h; cases h
      · rw [if_neg hp] at h
        rw [List.map_cons, List.nodup_cons]
        refine ⟨fun hm => ?_, ih _ h⟩
        obtain ⟨x, hx, hxe⟩ := List.mem_map.1 hm
        exact checkG_one t (pre ++ [a]) h x hx a (by simp) hxe
    · rw [if_neg ha] at h; cases h
theorem nodup_oneId {xs : List Line} (h : (xs.map (·.id)).Nodup) : OneId xs := by
  intro x hx y hy he
  obtain ⟨i, hi, rfl⟩ := List.mem_iff_getElem.1 hx
  obtain ⟨j, hj, rfl⟩ := List.mem_iff_getElem.1 hy
  have := (List.nodup_iff_pairwise_ne.1 h)
  have hij : i = j := by
    by_cases e : i = j
    · exact e
    · rcases Nat.lt_or_gt_of_ne e with hl | hl
      · have := List.pairwise_iff_getElem.1 this i j (by simpa using hi) (by simpa using hj) hl
        simp at this; exact absurd he this
      · have := List.pairwise_iff_getElem.1 this j i (by simpa using hj) (by simpa using hi) hl
        simp at this; exact absurd he.symm this
  subst hij; rfl
theorem checkLinesM_one {ls : List Line} (h : checkLinesM ls = 0) : OneId ls := by
  unfold checkLinesM at h
  by_cases hl : 60 < ls.length
  · rw [if_pos hl] at h; cases h
  · rw [if_neg hl] at h; exact nodup_oneId (checkG_distinct ls [] h)
theorem Tryz.Known (base : Option Addr) (cap : Nat) (ls : List Line) (day : Int) (w : World) (hr : Row w base (rowC lineC ls)) (hl : ls.length ≤ cap) (hl2 : ls.length < 140737488355328) :
    CallA Tryz.prog 12 [.slice base ls.length cap, .int .i64 day] w (RetLE w (KnownM ls day)) := by
  refine callA_intro Tryz.tbOk Tryz.func12 rfl Tryz.ntmps12 Tryz.results12 (by decide) (by simp) ?_
  ((conv => whnf); repeat' (first | ((with_reducible first | refine q1 ?_ | refine q2 ?_); conv => whnf) | (with_reducible refine q3 ?_) | ((with_reducible refine q4 (fun _ => ?_) (fun _ => ?_)) <;> first | (exfalso; omega) | (conv => whnf)) | ((with_reducible first | refine q5 ?_ | refine q6 ?_ | refine q7 ?_ | refine q8 ?_ | refine q9 ?_ | refine q10 ?_ | refine q11 ?_ | refine q12 ?_ | refine q13 ?_ | refine q14 ?_ | refine q15 ?_); conv => whnf) | ((refine q16 (fun _ _ _ _ _ => ?_)); conv => whnf) | ((with_reducible first | refine q17 ?_ | refine q18 ?_ | refine q19 ?_ | refine q20 ?_); conv => whnf)))
  refine NewA.mk' fun w1 b3 hb3 hs3 he1 hB3 => ?_; ((conv => whnf); repeat' (first | ((with_reducible first | refine q1 ?_ | refine q2 ?_); conv => whnf) | (with_reducible refine q3 ?_) | ((with_reducible refine q4 (fun _ => ?_) (fun _ => ?_)) <;> first | (exfalso; omega) | (conv => whnf)) | ((with_reducible first | refine q5 ?_ | refine q6 ?_ | refine q7 ?_ | refine q8 ?_ | refine q9 ?_ | refine q10 ?_ | refine q11 ?_ | refine q12 ?_ | refine q13 ?_ | refine q14 ?_ | refine q15 ?_); conv => whnf) | ((refine q16 (fun _ _ _ _ _ => ?_)); conv => whnf) | ((with_reducible first | refine q17 ?_ | refine q18 ?_ | refine q19 ?_ | refine q20 ?_); conv => whnf)))
  refine CallA.mono (Tryz.CheckLines base cap ls w1 (hr.ex he1) hl hl2) ?_
  rintro v w2 ⟨rfl, he2⟩
  have hB32 := Blk.ex hB3 he2
  by_cases hc : checkLinesM ls = 0
  · obtain ⟨hc1, hc2⟩ := checkLinesM_ok hc
    ((conv => whnf); repeat' (first | ((with_reducible first | refine q1 ?_ | refine q2 ?_); conv => whnf) | (with_reducible refine q3 ?_) | ((with_reducible refine q4 (fun _ => ?_) (fun _ => ?_)) <;> first | (exfalso; omega) | (conv => whnf)) | ((with_reducible first | refine q5 ?_ | refine q6 ?_ | refine q7 ?_ | refine q8 ?_ | refine q9 ?_ | refine q10 ?_ | refine q11 ?_ | refine q12 ?_ | refine q13 ?_ | refine q14 ?_ | refine q15 ?_); conv => whnf) | ((refine q16 (fun _ _ _ _ _ => ?_)); conv => whnf) | ((with_reducible first | refine q17 ?_ | refine q18 ?_ | refine q19 ?_ | refine q20 ?_); conv => whnf)))
    refine CallA.mono (Tryz.within day 0 728 w2) ?_
    rintro v w3 ⟨rfl, rfl⟩
    by_cases hd : 0 ≤ day ∧ day ≤ 728
    · have hM : KnownM ls day = ((sortLn ls).filter fun x => decide (x.day ≤ day), 0) := by rw [KnownM, if_pos hc, if_pos hd]
      have hdd : decide (0 ≤ day ∧ day ≤ 728) = true := by simpa using hd
      rw [hdd]
      ((conv => whnf); repeat' (first | ((with_reducible first | refine q1 ?_ | refine q2 ?_); conv => whnf) | (with_reducible refine q3 ?_) | ((with_reducible refine q4 (fun _ => ?_) (fun _ => ?_)) <;> first | (exfalso; omega) | (conv => whnf)) | ((with_reducible first | refine q5 ?_ | refine q6 ?_ | refine q7 ?_ | refine q8 ?_ | refine q9 ?_ | refine q10 ?_ | refine q11 ?_ | refine q12 ?_ | refine q13 ?_ | refine q14 ?_ | refine q15 ?_); conv => whnf) | ((refine q16 (fun _ _ _ _ _ => ?_)); conv => whnf) | ((with_reducible first | refine q17 ?_ | refine q18 ?_ | refine q19 ?_ | refine q20 ?_); conv => whnf)))
      refine CallA.mono (Tryz.sortedL base cap ls w3 (hr.ex (he1.tr he2)) (checkLinesM_one hc) (by omega)) ?_
      rintro v w4 ⟨b, c, rfl, ho, he4⟩
      have hB34 : Blk w4 b3 [.int .i64 day] 3 := Blk.ex hB32 he4
      ((conv => whnf); repeat' (first | ((with_reducible first | refine q1 ?_ | refine q2 ?_); conv => whnf) | (with_reducible refine q3 ?_) | ((with_reducible refine q4 (fun _ => ?_) (fun _ => ?_)) <;> first | (exfalso; omega) | (conv => whnf)) | ((with_reducible first | refine q5 ?_ | refine q6 ?_ | refine q7 ?_ | refine q8 ?_ | refine q9 ?_ | refine q10 ?_ | refine q11 ?_ | refine q12 ?_ | refine q13 ?_ | refine q14 ?_ | refine q15 ?_); conv => whnf) | ((refine q16 (fun _ _ _ _ _ => ?_)); conv => whnf) | ((with_reducible first | refine q17 ?_ | refine q18 ?_ | refine q19 ?_ | refine q20 ?_); conv => whnf)))
      have hlt3 := hB32.lt
      have hdel := Tryz.deleteLines b c w3.heap.size (sortLn ls) 48 #[.pointer (some ⟨b3, 0, none⟩)] (fun q => decide (day < q.day)) (fun u => Blk u b3 [.int .i64 day] 3) w4 ho he4.size
        (Tryz.Known1 day b3 3 _) (fun u u' h e => h.ex e) (fun u u' h g => h.grown g (fun e => by have := (ho.blk_ge b3 e.symm).1; omega)) hB34 (by rw [sortLn_length]; omega)
      refine CallA.mono hdel ?_
      rintro v w5 ⟨rfl, ho5, hg5⟩
      ((conv => whnf); repeat' (first | ((with_reducible first | refine q1 ?_ | refine q2 ?_); conv => whnf) | (with_reducible refine q3 ?_) | ((with_reducible refine q4 (fun _ => ?_) (fun _ => ?_)) <;> first | (exfalso; omega) | (conv => whnf)) | ((with_reducible first | refine q5 ?_ | refine q6 ?_ | refine q7 ?_ | refine q8 ?_ | refine q9 ?_ | refine q10 ?_ | refine q11 ?_ | refine q12 ?_ | refine q13 ?_ | refine q14 ?_ | refine q15 ?_); conv => whnf) | ((refine q16 (fun _ _ _ _ _ => ?_)); conv => whnf) | ((with_reducible first | refine q17 ?_ | refine q18 ?_ | refine q19 ?_ | refine q20 ?_); conv => whnf)))
      rw [hM]
      have hf : (sortLn ls).filter (fun x => !decide (day < x.day)) = (sortLn ls).filter fun x => decide (x.day ≤ day) := by
        apply List.filter_congr; intro x _; rw [Bool.eq_iff_iff]; simp
      rw [hf] at ho5
      simp only [hf]
      refine ⟨b, c, rfl, ho5.mono ?_, ((he1.tr he2).tr he4).grow hg5 (fun k hk => ?_)⟩
      · have := (he1.tr he2).size; omega
      · have := (ho.blk_ge k hk).1; have := (he1.tr he2).size; omega
    · have hM : KnownM ls day = ([], 1) := by rw [KnownM, if_pos hc, if_neg hd]
      have hdd : decide (0 ≤ day ∧ day ≤ 728) = false := by simpa using hd
      rw [hdd]
      ((conv => whnf); repeat' (first | ((with_reducible first | refine q1 ?_ | refine q2 ?_); conv => whnf) | (with_reducible refine q3 ?_) | ((with_reducible refine q4 (fun _ => ?_) (fun _ => ?_)) <;> first | (exfalso; omega) | (conv => whnf)) | ((with_reducible first | refine q5 ?_ | refine q6 ?_ | refine q7 ?_ | refine q8 ?_ | refine q9 ?_ | refine q10 ?_ | refine q11 ?_ | refine q12 ?_ | refine q13 ?_ | refine q14 ?_ | refine q15 ?_); conv => whnf) | ((refine q16 (fun _ _ _ _ _ => ?_)); conv => whnf) | ((with_reducible first | refine q17 ?_ | refine q18 ?_ | refine q19 ?_ | refine q20 ?_); conv => whnf)))
      rw [hM]; exact RetLE.nil (he1.tr he2)
  · have hM : KnownM ls day = ([], checkLinesM ls) := by rw [KnownM, if_neg hc]
    ((conv => whnf); repeat' (first | ((with_reducible first | refine q1 ?_ | refine q2 ?_); conv => whnf) | (with_reducible refine q3 ?_) | ((with_reducible refine q4 (fun _ => ?_) (fun _ => ?_)) <;> first | (exfalso; omega) | (conv => whnf)) | ((with_reducible first | refine q5 ?_ | refine q6 ?_ | refine q7 ?_ | refine q8 ?_ | refine q9 ?_ | refine q10 ?_ | refine q11 ?_ | refine q12 ?_ | refine q13 ?_ | refine q14 ?_ | refine q15 ?_); conv => whnf) | ((refine q16 (fun _ _ _ _ _ => ?_)); conv => whnf) | ((with_reducible first | refine q17 ?_ | refine q18 ?_ | refine q19 ?_ | refine q20 ?_); conv => whnf)))
    rw [hM]; exact RetLE.nil (he1.tr he2)
end Go.Proofs
