/-
  L21: a part of the proof. By an AI agent.
-/
import Derived.Test.YtpeihahmhpamoaaGreatVQ
import Derived.Test.YtpeihahmhpamoaaGreatV10
import Derived.Test.YtpeihahmhpamoaaGreatL19
import Derived.Shelf.SortM.SortNone
import Derived.Shelf.SortM.Plain
import Derived.Ground.SlgmProg
import Derived.Sort.OwnSortedInts
import Derived.Test.YtpeihahmhpamoaaGreatLay
set_option linter.all false
namespace Go.Proofs
open Go.V
open Go.RowKit (Below)
def sortI (xs : List Int) : List Int := xs.mergeSort fun x y => decide (x ≤ y)
theorem sortI_length (xs : List Int) : (sortI xs).length = xs.length := (List.mergeSort_perm _ _).length_eq
theorem Tryz.sortInts (base : Option Addr) (cap N : Nat) (xs : List Int) (w : World) (ho : Own w N 3 1 base xs.length cap (ints xs)) (hl : xs.length < 1000000000) :
    CallA Tryz.prog 96 [.slice base xs.length cap] w fun _ w' => Own w' N 3 1 base xs.length cap (ints (sortI xs)) ∧ w.grownBy w' (blkOf base) := by
  refine CallA.of Tryz.func96 rfl (by decide) ?_
  by_cases h0 : xs = []
  · subst h0
    have h := AnyM.slices_Sort_int_none Tryz.laySortI base cap w
    change Calls Tryz.prog 96 #[.slice base 0 cap] w _ at h
    refine h.mono ?_
    rintro e w' ⟨rfl, rfl⟩
    exact ⟨_, rfl, by simpa [sortI] using ho, rfl, rfl, rfl, Nat.le_refl _, fun _ _ _ => rfl⟩
  · rcases ho.2 with ⟨hv, hn⟩ | ⟨g, c2, cur, hv, hNg, hg, hnc, hcm, hcs, htake⟩
    · exact absurd (List.length_eq_zero_iff.1 hn) h0
    injection hv with e1 e2 e3
    subst e1; subst e3
    have hlt : g < w.heap.size := (Array.getElem?_eq_some_iff.1 hg).1
    have hH := holds_of_blockI (ss := xs) hg (by rw [← Nat.mul_one xs.length, htake]; rfl)
    have h := AnyM.slices_Sort_int Tryz.laySortI g 0 cap xs w hH hlt (by omega)
    change Calls Tryz.prog 96 #[.slice (some ⟨g, 0, none⟩) xs.length cap] w _ at h
    refine h.mono ?_
    rintro e w' ⟨rfl, n, os, rfl⟩
    exact ⟨_, rfl, ownsRow_sortedI (sortI_length xs) hNg hg hnc hcm hcs, grownBy_sortedI _⟩
/-! ### lines that two lists have differently -/
/-- the last line of an ID -/
def byId (a : List Line) (i : Int) : Option Line := a.reverse.find? fun x => decide (x.id = i)
def forksU (a b : List Line) : List Int := b.filterMap fun x => match byId a x.id with
  | some y => if x = y then none else some x.id
  | none => none
def forksM (a b : List Line) : List Int := sortI (forksU a b)
def lineV (x : Line) : Value := .agg (lineC x).toArray
theorem Tryz.key3 : KeyOk Tryz.prog 3 (Value.int .i64) := keyInt (kd := .i64) (Tb.find_ty Tryz.tbOk (t := 3) rfl).und
theorem byId_snoc {a : List Line} {k : Nat} (hk : k < a.length) (i : Int) : byId (a.take (k + 1)) i = if a[k].id = i then some a[k] else byId (a.take k) i := by
  unfold byId
  rw [List.take_succ_eq_append_getElem hk, List.reverse_append]
  simp only [List.reverse_cons, List.reverse_nil, List.nil_append, List.singleton_append, List.find?_cons]
  by_cases h : a[k].id = i <;> simp [h]
theorem forksU_snoc {a b : List Line} {k : Nat} (hk : k < b.length) : forksU a (b.take (k + 1)) = forksU a (b.take k) ++ (match byId a b[k].id with | some y => if b[k] = y then [] else [b[k].id] | none => []) := by
  unfold forksU
  rw [List.take_succ_eq_append_getElem hk, List.filterMap_append]
  congr 1
  simp only [List.filterMap_cons, List.filterMap_nil]
  cases byId a b[k].id with
  | none => rfl
  | some y => simp only []; split <;> simp_all
theorem Tryz.forks (ba bb : Option Addr) (ca cb : Nat) (a b : List Line) (w : World) (hra : Row w ba (rowC lineC a)) (hrb : Row w bb (rowC lineC b)) (hla : a.length < 1000000) (hlb : b.length < 1000000) :
    CallA Tryz.prog 53 [.slice ba a.length ca, .slice bb b.length cb] w (RetI w (forksM a b)) := by
  refine callA_intro Tryz.tbOk Tryz.func53 rfl Tryz.ntmps53 Tryz.results53 (by decide) (by simp) ?_
  ((conv => whnf); repeat' (first | ((with_reducible first | refine q1 ?_ | refine q2 ?_); conv => whnf) | (with_reducible refine q3 ?_) | ((with_reducible refine q4 (fun _ => ?_) (fun _ => ?_)) <;> first | (exfalso; omega) | (conv => whnf)) | ((with_reducible first | refine q5 ?_ | refine q6 ?_ | refine q7 ?_ | refine q8 ?_ | refine q9 ?_ | refine q10 ?_ | refine q11 ?_ | refine q12 ?_ | refine q13 ?_ | refine q14 ?_ | refine q15 ?_); conv => whnf) | ((refine q16 (fun _ _ _ _ _ => ?_)); conv => whnf) | ((with_reducible first | refine q17 ?_ | refine q18 ?_ | refine q19 ?_ | refine q20 ?_); conv => whnf)))
  obtain ⟨hm0, he0, hs0⟩ := mapB_new (Value.int .i64) w
  generalize hw1 : w.alloc (.map #[] 0) = w1 at *
  generalize hbm : w.heap.size = bm at *
  refine loop_rule Tryz.tbOk (Nat × List (Int × Value)) [16] (fun | (k, _) => [.int .i64 (k:Int)])
    (fun | (k, m), u => k ≤ a.length ∧ MapB (Value.int .i64) u bm m ∧ (∀ i, mget m i = (byId (a.take k) i).map lineV) ∧ Below bm w u) (fun | (k, _) => a.length - k)
    (0, []) rfl ⟨by omega, hm0, fun i => rfl, Below.mono he0 (by omega)⟩ ?_
  rintro ⟨k, m⟩ u ⟨hk, hm, hmg, heu⟩ uu
  have hexu : Ex w u := by rw [← hbm] at heu; exact heu
  have hra' := hra.ex hexu
  by_cases hlt : k < a.length
  · ((conv => whnf); repeat' (first | ((with_reducible first | refine q1 ?_ | refine q2 ?_); conv => whnf) | (with_reducible refine q3 ?_) | ((with_reducible refine q4 (fun _ => ?_) (fun _ => ?_)) <;> first | (exfalso; omega) | (conv => whnf)) | ((with_reducible first | refine q5 ?_ | refine q6 ?_ | refine q7 ?_ | refine q8 ?_ | refine q9 ?_ | refine q10 ?_ | refine q11 ?_ | refine q12 ?_ | refine q13 ?_ | refine q14 ?_ | refine q15 ?_); conv => whnf) | ((refine q16 (fun _ _ _ _ _ => ?_)); conv => whnf) | ((with_reducible first | refine q17 ?_ | refine q18 ?_ | refine q19 ?_ | refine q20 ?_); conv => whnf)))
    refine IdxA.elem (sz := 4) hra' (fun _ => rfl) (by decide) rfl k rfl hlt (fun b o hb hc => ?_)
    (conv => whnf)
    refine LoadN.mk' (vs := lineC a[k]) rfl hc ?_
    ((conv => whnf); repeat' (first | ((with_reducible first | refine q1 ?_ | refine q2 ?_); conv => whnf) | (with_reducible refine q3 ?_) | ((with_reducible refine q4 (fun _ => ?_) (fun _ => ?_)) <;> first | (exfalso; omega) | (conv => whnf)) | ((with_reducible first | refine q5 ?_ | refine q6 ?_ | refine q7 ?_ | refine q8 ?_ | refine q9 ?_ | refine q10 ?_ | refine q11 ?_ | refine q12 ?_ | refine q13 ?_ | refine q14 ?_ | refine q15 ?_); conv => whnf) | ((refine q16 (fun _ _ _ _ _ => ?_)); conv => whnf) | ((with_reducible first | refine q17 ?_ | refine q18 ?_ | refine q19 ?_ | refine q20 ?_); conv => whnf)))
    refine NewA.mk' fun u1 b7 hb7 hs7 he7 hB7 => ?_; ((conv => whnf); repeat' (first | ((with_reducible first | refine q1 ?_ | refine q2 ?_); conv => whnf) | (with_reducible refine q3 ?_) | ((with_reducible refine q4 (fun _ => ?_) (fun _ => ?_)) <;> first | (exfalso; omega) | (conv => whnf)) | ((with_reducible first | refine q5 ?_ | refine q6 ?_ | refine q7 ?_ | refine q8 ?_ | refine q9 ?_ | refine q10 ?_ | refine q11 ?_ | refine q12 ?_ | refine q13 ?_ | refine q14 ?_ | refine q15 ?_); conv => whnf) | ((refine q16 (fun _ _ _ _ _ => ?_)); conv => whnf) | ((with_reducible first | refine q17 ?_ | refine q18 ?_ | refine q19 ?_ | refine q20 ?_); conv => whnf)))
    refine StoreA.var hB7 rfl rfl rfl fun u2 hu2 hB2 => ?_
    have hm2 := (hm.ex he7).upd hu2 (by have := hm.lt; omega)
    have he2 : Ex u u2 := ((Ex.refl _).tr he7).upd hu2 (by omega)
    ((conv => whnf); repeat' (first | ((with_reducible first | refine q1 ?_ | refine q2 ?_); conv => whnf) | (with_reducible refine q3 ?_) | ((with_reducible refine q4 (fun _ => ?_) (fun _ => ?_)) <;> first | (exfalso; omega) | (conv => whnf)) | ((with_reducible first | refine q5 ?_ | refine q6 ?_ | refine q7 ?_ | refine q8 ?_ | refine q9 ?_ | refine q10 ?_ | refine q11 ?_ | refine q12 ?_ | refine q13 ?_ | refine q14 ?_ | refine q15 ?_); conv => whnf) | ((refine q16 (fun _ _ _ _ _ => ?_)); conv => whnf) | ((with_reducible first | refine q17 ?_ | refine q18 ?_ | refine q19 ?_ | refine q20 ?_); conv => whnf)))
    refine RunU.mapUpdate Tryz.tbOk (t := 137) (kt := 3) (e := 79) (k := a[k].id) rfl Tryz.key3 hm2 fun u3 hu3 hm3 => ?_
    ((conv => whnf); repeat' (first | ((with_reducible first | refine q1 ?_ | refine q2 ?_); conv => whnf) | (with_reducible refine q3 ?_) | ((with_reducible refine q4 (fun _ => ?_) (fun _ => ?_)) <;> first | (exfalso; omega) | (conv => whnf)) | ((with_reducible first | refine q5 ?_ | refine q6 ?_ | refine q7 ?_ | refine q8 ?_ | refine q9 ?_ | refine q10 ?_ | refine q11 ?_ | refine q12 ?_ | refine q13 ?_ | refine q14 ?_ | refine q15 ?_); conv => whnf) | ((refine q16 (fun _ _ _ _ _ => ?_)); conv => whnf) | ((with_reducible first | refine q17 ?_ | refine q18 ?_ | refine q19 ?_ | refine q20 ?_); conv => whnf)))
    refine ⟨(k + 1, mput m a[k].id (lineV a[k])), rfl, ⟨by omega, hm3, fun i => ?_, Below.trans (Below.trans heu (Below.mono he2 (by have := hm.lt; omega))) (hu3.below (Nat.le_refl _))⟩, by simp only []; omega⟩
    rw [mget_put, byId_snoc hlt, hmg i]
    split <;> rfl
  · have : k = a.length := by omega
    subst this
    rw [List.take_length] at hmg
    have hbmu := hm.lt
    ((conv => whnf); repeat' (first | ((with_reducible first | refine q1 ?_ | refine q2 ?_); conv => whnf) | (with_reducible refine q3 ?_) | ((with_reducible refine q4 (fun _ => ?_) (fun _ => ?_)) <;> first | (exfalso; omega) | (conv => whnf)) | ((with_reducible first | refine q5 ?_ | refine q6 ?_ | refine q7 ?_ | refine q8 ?_ | refine q9 ?_ | refine q10 ?_ | refine q11 ?_ | refine q12 ?_ | refine q13 ?_ | refine q14 ?_ | refine q15 ?_); conv => whnf) | ((refine q16 (fun _ _ _ _ _ => ?_)); conv => whnf) | ((with_reducible first | refine q17 ?_ | refine q18 ?_ | refine q19 ?_ | refine q20 ?_); conv => whnf)))
    refine loop_rule Tryz.tbOk (Nat × Option Addr × Nat × Nat) [27, 8] (fun | (k, bo, n, co) => [.int .i64 (k:Int), .slice bo n co])
      (fun | (k, bo, n, co), u2 => k ≤ b.length ∧ n = (forksU a (b.take k)).length ∧ Own u2 (bm + 1) 3 1 bo n co (ints (forksU a (b.take k))) ∧ MapB (Value.int .i64) u2 bm m ∧ Below bm w u2 ∧ u.heap.size ≤ u2.heap.size) (fun | (k, _, _, _) => b.length - k)
      (0, none, 0, 0) rfl ⟨by omega, rfl, Own.nil _ _ _ _, hm, heu, Nat.le_refl _⟩ ?_
    rintro ⟨k, bo, n, co⟩ u2 ⟨hk2, hn, hO, hm2, heu2, hsz2⟩ uy
    have hexu2 : Ex w u2 := by rw [← hbm] at heu2; exact heu2
    have hrb' := hrb.ex hexu2
    have hfl : ∀ k, (forksU a (b.take k)).length ≤ k := fun k => Nat.le_trans (List.length_filterMap_le _ _) (by rw [List.length_take]; omega)
    have hflk := hfl k
    by_cases hlt : k < b.length
    · ((conv => whnf); repeat' (first | ((with_reducible first | refine q1 ?_ | refine q2 ?_); conv => whnf) | (with_reducible refine q3 ?_) | ((with_reducible refine q4 (fun _ => ?_) (fun _ => ?_)) <;> first | (exfalso; omega) | (conv => whnf)) | ((with_reducible first | refine q5 ?_ | refine q6 ?_ | refine q7 ?_ | refine q8 ?_ | refine q9 ?_ | refine q10 ?_ | refine q11 ?_ | refine q12 ?_ | refine q13 ?_ | refine q14 ?_ | refine q15 ?_); conv => whnf) | ((refine q16 (fun _ _ _ _ _ => ?_)); conv => whnf) | ((with_reducible first | refine q17 ?_ | refine q18 ?_ | refine q19 ?_ | refine q20 ?_); conv => whnf)))
      refine IdxA.elem (sz := 4) hrb' (fun _ => rfl) (by decide) rfl k rfl hlt (fun bq oq hbq hc => ?_)
      (conv => whnf)
      refine LoadN.mk' (vs := lineC b[k]) rfl hc ?_
      ((conv => whnf); repeat' (first | ((with_reducible first | refine q1 ?_ | refine q2 ?_); conv => whnf) | (with_reducible refine q3 ?_) | ((with_reducible refine q4 (fun _ => ?_) (fun _ => ?_)) <;> first | (exfalso; omega) | (conv => whnf)) | ((with_reducible first | refine q5 ?_ | refine q6 ?_ | refine q7 ?_ | refine q8 ?_ | refine q9 ?_ | refine q10 ?_ | refine q11 ?_ | refine q12 ?_ | refine q13 ?_ | refine q14 ?_ | refine q15 ?_); conv => whnf) | ((refine q16 (fun _ _ _ _ _ => ?_)); conv => whnf) | ((with_reducible first | refine q17 ?_ | refine q18 ?_ | refine q19 ?_ | refine q20 ?_); conv => whnf)))
      refine NewA.mk' fun u3 b10 hb10 hs10 he10 hB10 => ?_; ((conv => whnf); repeat' (first | ((with_reducible first | refine q1 ?_ | refine q2 ?_); conv => whnf) | (with_reducible refine q3 ?_) | ((with_reducible refine q4 (fun _ => ?_) (fun _ => ?_)) <;> first | (exfalso; omega) | (conv => whnf)) | ((with_reducible first | refine q5 ?_ | refine q6 ?_ | refine q7 ?_ | refine q8 ?_ | refine q9 ?_ | refine q10 ?_ | refine q11 ?_ | refine q12 ?_ | refine q13 ?_ | refine q14 ?_ | refine q15 ?_); conv => whnf) | ((refine q16 (fun _ _ _ _ _ => ?_)); conv => whnf) | ((with_reducible first | refine q17 ?_ | refine q18 ?_ | refine q19 ?_ | refine q20 ?_); conv => whnf)))
      refine StoreA.var hB10 rfl rfl rfl fun u4 hu4 hB4 => ?_
      have he4 : Ex u2 u4 := ((Ex.refl _).tr he10).upd hu4 (by omega)
      have hm4 := hm2.ex he4
      ((conv => whnf); repeat' (first | ((with_reducible first | refine q1 ?_ | refine q2 ?_); conv => whnf) | (with_reducible refine q3 ?_) | ((with_reducible refine q4 (fun _ => ?_) (fun _ => ?_)) <;> first | (exfalso; omega) | (conv => whnf)) | ((with_reducible first | refine q5 ?_ | refine q6 ?_ | refine q7 ?_ | refine q8 ?_ | refine q9 ?_ | refine q10 ?_ | refine q11 ?_ | refine q12 ?_ | refine q13 ?_ | refine q14 ?_ | refine q15 ?_); conv => whnf) | ((refine q16 (fun _ _ _ _ _ => ?_)); conv => whnf) | ((with_reducible first | refine q17 ?_ | refine q18 ?_ | refine q19 ?_ | refine q20 ?_); conv => whnf)))
      have hgk := hmg b[k].id
      have hfs := forksU_snoc (a := a) hlt
      cases hy : byId a b[k].id with
      | none =>
        rw [hy] at hfs hgk
        simp only [List.append_nil] at hfs
        refine RunV.lookupN Tryz.tbOk (t := 137) (kt := 3) (e := 79) (k := b[k].id) rfl Tryz.key3 hm4 hgk ?_
        ((conv => whnf); repeat' (first | ((with_reducible first | refine q1 ?_ | refine q2 ?_); conv => whnf) | (with_reducible refine q3 ?_) | ((with_reducible refine q4 (fun _ => ?_) (fun _ => ?_)) <;> first | (exfalso; omega) | (conv => whnf)) | ((with_reducible first | refine q5 ?_ | refine q6 ?_ | refine q7 ?_ | refine q8 ?_ | refine q9 ?_ | refine q10 ?_ | refine q11 ?_ | refine q12 ?_ | refine q13 ?_ | refine q14 ?_ | refine q15 ?_); conv => whnf) | ((refine q16 (fun _ _ _ _ _ => ?_)); conv => whnf) | ((with_reducible first | refine q17 ?_ | refine q18 ?_ | refine q19 ?_ | refine q20 ?_); conv => whnf)))
        refine NewA.mk' fun u5 b11 hb11 hs11 he11 hB11 => ?_; ((conv => whnf); repeat' (first | ((with_reducible first | refine q1 ?_ | refine q2 ?_); conv => whnf) | (with_reducible refine q3 ?_) | ((with_reducible refine q4 (fun _ => ?_) (fun _ => ?_)) <;> first | (exfalso; omega) | (conv => whnf)) | ((with_reducible first | refine q5 ?_ | refine q6 ?_ | refine q7 ?_ | refine q8 ?_ | refine q9 ?_ | refine q10 ?_ | refine q11 ?_ | refine q12 ?_ | refine q13 ?_ | refine q14 ?_ | refine q15 ?_); conv => whnf) | ((refine q16 (fun _ _ _ _ _ => ?_)); conv => whnf) | ((with_reducible first | refine q17 ?_ | refine q18 ?_ | refine q19 ?_ | refine q20 ?_); conv => whnf)))
        refine StoreA.var hB11 rfl rfl rfl fun u6 hu6 hB6 => ?_
        have he6 : Ex u2 u6 := (he4.tr he11).upd hu6 (by have := he4.size; omega)
        ((conv => whnf); repeat' (first | ((with_reducible first | refine q1 ?_ | refine q2 ?_); conv => whnf) | (with_reducible refine q3 ?_) | ((with_reducible refine q4 (fun _ => ?_) (fun _ => ?_)) <;> first | (exfalso; omega) | (conv => whnf)) | ((with_reducible first | refine q5 ?_ | refine q6 ?_ | refine q7 ?_ | refine q8 ?_ | refine q9 ?_ | refine q10 ?_ | refine q11 ?_ | refine q12 ?_ | refine q13 ?_ | refine q14 ?_ | refine q15 ?_); conv => whnf) | ((refine q16 (fun _ _ _ _ _ => ?_)); conv => whnf) | ((with_reducible first | refine q17 ?_ | refine q18 ?_ | refine q19 ?_ | refine q20 ?_); conv => whnf)))
        refine ⟨(k + 1, bo, n, co), rfl, ⟨by omega, by rw [hfs]; exact hn, by rw [hfs]; exact hO.ex he6, hm2.ex he6, Below.trans heu2 (Below.mono he6 (by have := hm2.lt; omega)), Nat.le_trans hsz2 he6.size⟩, by simp only []; omega⟩
      | some y =>
        rw [hy] at hfs hgk
        simp only [] at hfs
        refine RunV.lookupS Tryz.tbOk (t := 137) (kt := 3) (e := 79) (k := b[k].id) (v := lineV y) rfl Tryz.key3 hm4 hgk ?_
        ((conv => whnf); repeat' (first | ((with_reducible first | refine q1 ?_ | refine q2 ?_); conv => whnf) | (with_reducible refine q3 ?_) | ((with_reducible refine q4 (fun _ => ?_) (fun _ => ?_)) <;> first | (exfalso; omega) | (conv => whnf)) | ((with_reducible first | refine q5 ?_ | refine q6 ?_ | refine q7 ?_ | refine q8 ?_ | refine q9 ?_ | refine q10 ?_ | refine q11 ?_ | refine q12 ?_ | refine q13 ?_ | refine q14 ?_ | refine q15 ?_); conv => whnf) | ((refine q16 (fun _ _ _ _ _ => ?_)); conv => whnf) | ((with_reducible first | refine q17 ?_ | refine q18 ?_ | refine q19 ?_ | refine q20 ?_); conv => whnf)))
        refine NewA.mk' fun u5 b11 hb11 hs11 he11 hB11 => ?_; ((conv => whnf); repeat' (first | ((with_reducible first | refine q1 ?_ | refine q2 ?_); conv => whnf) | (with_reducible refine q3 ?_) | ((with_reducible refine q4 (fun _ => ?_) (fun _ => ?_)) <;> first | (exfalso; omega) | (conv => whnf)) | ((with_reducible first | refine q5 ?_ | refine q6 ?_ | refine q7 ?_ | refine q8 ?_ | refine q9 ?_ | refine q10 ?_ | refine q11 ?_ | refine q12 ?_ | refine q13 ?_ | refine q14 ?_ | refine q15 ?_); conv => whnf) | ((refine q16 (fun _ _ _ _ _ => ?_)); conv => whnf) | ((with_reducible first | refine q17 ?_ | refine q18 ?_ | refine q19 ?_ | refine q20 ?_); conv => whnf)))
        refine StoreA.var (vs := lineC y) hB11 rfl rfl rfl fun u6 hu6 hB6 => ?_
        have he6 : Ex u2 u6 := (he4.tr he11).upd hu6 (by have := he4.size; omega)
        have hB46 : Blk u6 b10 (lineC b[k]) 79 := hu6.blk (Blk.ex hB4 he11) (by have := hB4.lt; omega)
        ((conv => whnf); repeat' (first | ((with_reducible first | refine q1 ?_ | refine q2 ?_); conv => whnf) | (with_reducible refine q3 ?_) | ((with_reducible refine q4 (fun _ => ?_) (fun _ => ?_)) <;> first | (exfalso; omega) | (conv => whnf)) | ((with_reducible first | refine q5 ?_ | refine q6 ?_ | refine q7 ?_ | refine q8 ?_ | refine q9 ?_ | refine q10 ?_ | refine q11 ?_ | refine q12 ?_ | refine q13 ?_ | refine q14 ?_ | refine q15 ?_); conv => whnf) | ((refine q16 (fun _ _ _ _ _ => ?_)); conv => whnf) | ((with_reducible first | refine q17 ?_ | refine q18 ?_ | refine q19 ?_ | refine q20 ?_); conv => whnf)))
        rw [lineC_ints, lineC_ints]
        refine RunV.structNe Tryz.tbOk rfl rfl rfl rfl rfl Tryz.stood79 Tryz.guard79 ?_
        rw [show decide (([b[k].id, b[k].day, b[k].what, b[k].worth] : List Int) = [y.id, y.day, y.what, y.worth]) = decide (b[k] = y) from decide_eq_decide.2 line_eq]
        ((conv => whnf); repeat' (first | ((with_reducible first | refine q1 ?_ | refine q2 ?_); conv => whnf) | (with_reducible refine q3 ?_) | ((with_reducible refine q4 (fun _ => ?_) (fun _ => ?_)) <;> first | (exfalso; omega) | (conv => whnf)) | ((with_reducible first | refine q5 ?_ | refine q6 ?_ | refine q7 ?_ | refine q8 ?_ | refine q9 ?_ | refine q10 ?_ | refine q11 ?_ | refine q12 ?_ | refine q13 ?_ | refine q14 ?_ | refine q15 ?_); conv => whnf) | ((refine q16 (fun _ _ _ _ _ => ?_)); conv => whnf) | ((with_reducible first | refine q17 ?_ | refine q18 ?_ | refine q19 ?_ | refine q20 ?_); conv => whnf)))
        · rename_i heq
          rw [if_pos heq, List.append_nil] at hfs
          refine ⟨(k + 1, bo, n, co), rfl, ⟨by omega, by rw [hfs]; exact hn, by rw [hfs]; exact hO.ex he6, hm2.ex he6, Below.trans heu2 (Below.mono he6 (by have := hm2.lt; omega)), Nat.le_trans hsz2 he6.size⟩, by simp only []; omega⟩
        · rename_i hne
          rw [if_neg hne] at hfs
          refine NewS.mk' (cs := ints [b[k].id]) fun u7 b12 hb12 hs12 he12 hB12 => ?_
          have he7 := he6.tr he12
          ((conv => whnf); repeat' (first | ((with_reducible first | refine q1 ?_ | refine q2 ?_); conv => whnf) | (with_reducible refine q3 ?_) | ((with_reducible refine q4 (fun _ => ?_) (fun _ => ?_)) <;> first | (exfalso; omega) | (conv => whnf)) | ((with_reducible first | refine q5 ?_ | refine q6 ?_ | refine q7 ?_ | refine q8 ?_ | refine q9 ?_ | refine q10 ?_ | refine q11 ?_ | refine q12 ?_ | refine q13 ?_ | refine q14 ?_ | refine q15 ?_); conv => whnf) | ((refine q16 (fun _ _ _ _ _ => ?_)); conv => whnf) | ((with_reducible first | refine q17 ?_ | refine q18 ?_ | refine q19 ?_ | refine q20 ?_); conv => whnf)))
          refine RunV.append (e := 3) (sz := 1) (by_ := 8) (m := 1) (news := ints [b[k].id]) Tryz.tbOk (bm + 1) (hO.ex he7) hB12.row rfl rfl (all_one rfl) (by omega) (by omega) rfl (by decide) (by have := he7.size; omega) fun u8 b8 c8 ho8 hg8 hbb8 => ?_
          ((conv => whnf); repeat' (first | ((with_reducible first | refine q1 ?_ | refine q2 ?_); conv => whnf) | (with_reducible refine q3 ?_) | ((with_reducible refine q4 (fun _ => ?_) (fun _ => ?_)) <;> first | (exfalso; omega) | (conv => whnf)) | ((with_reducible first | refine q5 ?_ | refine q6 ?_ | refine q7 ?_ | refine q8 ?_ | refine q9 ?_ | refine q10 ?_ | refine q11 ?_ | refine q12 ?_ | refine q13 ?_ | refine q14 ?_ | refine q15 ?_); conv => whnf) | ((refine q16 (fun _ _ _ _ _ => ?_)); conv => whnf) | ((with_reducible first | refine q17 ?_ | refine q18 ?_ | refine q19 ?_ | refine q20 ?_); conv => whnf)))
          refine ⟨(k + 1, b8, n + 1, c8), rfl, ⟨by omega, by rw [hfs, List.length_append, hn]; rfl, by rw [hfs, ints_append]; exact ho8, (hm2.ex he7).grown hg8 (fun e => by have := (hO.blk_ge bm e.symm).1; omega), ?_, ?_⟩, by simp only []; omega⟩
          · exact Below.trans (Below.trans heu2 (Below.mono he7 (by have := hm2.lt; omega))) (ex_grown hg8 (fun q hq => by have := (hO.blk_ge q hq).1; omega) (by have := he7.size; have := hm2.lt; omega))
          · have := he7.size; have := hg8.size; omega
    · have : k = b.length := by omega
      subst this
      rw [List.take_length] at hn hO
      subst hn
      ((conv => whnf); repeat' (first | ((with_reducible first | refine q1 ?_ | refine q2 ?_); conv => whnf) | (with_reducible refine q3 ?_) | ((with_reducible refine q4 (fun _ => ?_) (fun _ => ?_)) <;> first | (exfalso; omega) | (conv => whnf)) | ((with_reducible first | refine q5 ?_ | refine q6 ?_ | refine q7 ?_ | refine q8 ?_ | refine q9 ?_ | refine q10 ?_ | refine q11 ?_ | refine q12 ?_ | refine q13 ?_ | refine q14 ?_ | refine q15 ?_); conv => whnf) | ((refine q16 (fun _ _ _ _ _ => ?_)); conv => whnf) | ((with_reducible first | refine q17 ?_ | refine q18 ?_ | refine q19 ?_ | refine q20 ?_); conv => whnf)))
      refine CallA.mono (Tryz.sortInts bo co (bm + 1) (forksU a b) u2 hO (by rw [List.take_length] at hflk; omega)) ?_
      rintro v u3 ⟨ho3, hg3⟩
      ((conv => whnf); repeat' (first | ((with_reducible first | refine q1 ?_ | refine q2 ?_); conv => whnf) | (with_reducible refine q3 ?_) | ((with_reducible refine q4 (fun _ => ?_) (fun _ => ?_)) <;> first | (exfalso; omega) | (conv => whnf)) | ((with_reducible first | refine q5 ?_ | refine q6 ?_ | refine q7 ?_ | refine q8 ?_ | refine q9 ?_ | refine q10 ?_ | refine q11 ?_ | refine q12 ?_ | refine q13 ?_ | refine q14 ?_ | refine q15 ?_); conv => whnf) | ((refine q16 (fun _ _ _ _ _ => ?_)); conv => whnf) | ((with_reducible first | refine q17 ?_ | refine q18 ?_ | refine q19 ?_ | refine q20 ?_); conv => whnf)))
      refine ⟨bo, co, by rw [forksM, sortI_length], ?_, ?_⟩
      · rw [forksM, sortI_length]; exact ho3.mono (by omega)
      · exact hexu2.grow hg3 (fun q hq => by have := (hO.blk_ge q hq).1; omega)
end Go.Proofs
