/-
  L46: a part of the proof. By an AI agent.
-/
import Derived.Test.YtpeihahmhpamoaaGreatVQ
import Derived.Test.YtpeihahmhpamoaaGreatV10
import Derived.Test.YtpeihahmhpamoaaGreatV11
import Derived.Test.YtpeihahmhpamoaaGreatL43
import Derived.Shelf.SlSortCmp.NoneTotal
import Derived.Ground.SlsfProg
import Derived.Test.YtpeihahmhpamoaaGreatLay
set_option linter.all false
namespace Go.Proofs
open Go.V
open Go.RowKit (Below)
open Go.Sort (flatK size_flatK get_flatK HoldsK putRowK PermIn SortedIn)
/-! ### the order of leaves -/
/-- a leaf whose number is not too large -/
structure LfB where
  lf : Lf
  lo : -1000000000 ≤ lf.number
  hi : lf.number ≤ 1000000000
def lfBC (x : LfB) : List Value := lfC x.lf
instance : Inhabited LfB := ⟨⟨⟨0, ⟨none, 0, []⟩⟩, by decide, by decide⟩⟩
theorem Tryz.copied1 (x y : LfB) (w : World) : CallA Tryz.prog 109 [.agg (lfC x.lf).toArray, .agg (lfC y.lf).toArray] w fun v w' => v = .int .i64 (x.lf.number - y.lf.number) ∧ Gw w w' := by
  obtain ⟨⟨nx, wx⟩, hx, hx'⟩ := x
  obtain ⟨⟨ny, wy⟩, hy, hy'⟩ := y
  have hx1 : -1000000000 ≤ nx := hx
  have hx2 : nx ≤ 1000000000 := hx'
  have hy1 : -1000000000 ≤ ny := hy
  have hy2 : ny ≤ 1000000000 := hy'
  show CallA Tryz.prog 109 [.agg #[.int .i64 nx, wx.val], .agg #[.int .i64 ny, wy.val]] w fun v w' => v = .int .i64 (nx - ny) ∧ Gw w w'
  refine callA_intro Tryz.tbOk Tryz.func109 rfl Tryz.ntmps109 Tryz.results109 (by decide) (by simp) ?_
  ((conv => whnf); repeat' (first | ((with_reducible first | refine q1 ?_ | refine q2 ?_); conv => whnf) | (with_reducible refine q3 ?_) | ((with_reducible refine q4 (fun _ => ?_) (fun _ => ?_)) <;> first | (exfalso; omega) | (conv => whnf)) | ((with_reducible first | refine q5 ?_ | refine q6 ?_ | refine q7 ?_ | refine q8 ?_ | refine q9 ?_ | refine q10 ?_ | refine q11 ?_ | refine q12 ?_ | refine q13 ?_ | refine q14 ?_ | refine q15 ?_); conv => whnf) | ((refine q16 (fun _ _ _ _ _ => ?_)); conv => whnf) | ((with_reducible first | refine q17 ?_ | refine q18 ?_ | refine q19 ?_ | refine q20 ?_); conv => whnf)))
  refine ⟨?_⟩
  have h1 := new_alloc w (.cells (cellsOf (.agg #[.int .i64 nx, wx.val])).toArray 59)
  have hB1 : Blk (w.alloc (.cells (cellsOf (.agg #[.int .i64 nx, wx.val])).toArray 59)) w.heap.size [.int .i64 nx, wx.val] 59 := h1.at_
  ((conv => whnf); repeat' (first | ((with_reducible first | refine q1 ?_ | refine q2 ?_); conv => whnf) | (with_reducible refine q3 ?_) | ((with_reducible refine q4 (fun _ => ?_) (fun _ => ?_)) <;> first | (exfalso; omega) | (conv => whnf)) | ((with_reducible first | refine q5 ?_ | refine q6 ?_ | refine q7 ?_ | refine q8 ?_ | refine q9 ?_ | refine q10 ?_ | refine q11 ?_ | refine q12 ?_ | refine q13 ?_ | refine q14 ?_ | refine q15 ?_); conv => whnf) | ((refine q16 (fun _ _ _ _ _ => ?_)); conv => whnf) | ((with_reducible first | refine q17 ?_ | refine q18 ?_ | refine q19 ?_ | refine q20 ?_); conv => whnf)))
  refine ⟨?_⟩
  have h2 := new_alloc (w.alloc (.cells (cellsOf (.agg #[.int .i64 nx, wx.val])).toArray 59)) (.cells (cellsOf (.agg #[.int .i64 ny, wy.val])).toArray 59)
  have hg : Gw w ((w.alloc (.cells (cellsOf (.agg #[.int .i64 nx, wx.val])).toArray 59)).alloc (.cells (cellsOf (.agg #[.int .i64 ny, wy.val])).toArray 59)) := ⟨h1.ex.tr h2.ex, Nat.le_refl _⟩
  have hB1' := hB1.ex h2.ex
  have hB2 : Blk _ (w.alloc (.cells (cellsOf (.agg #[.int .i64 nx, wx.val])).toArray 59)).heap.size [.int .i64 ny, wy.val] 59 := h2.at_
  generalize (w.alloc (.cells (cellsOf (.agg #[.int .i64 nx, wx.val])).toArray 59)).heap.size = b2 at *
  generalize ((w.alloc (.cells (cellsOf (.agg #[.int .i64 nx, wx.val])).toArray 59)).alloc (.cells (cellsOf (.agg #[.int .i64 ny, wy.val])).toArray 59)) = w2 at *
  generalize w.heap.size = b1 at *
  clear h1 h2 hB1
  ((conv => whnf); repeat' (first | ((with_reducible first | refine q1 ?_ | refine q2 ?_); conv => whnf) | (with_reducible refine q3 ?_) | ((with_reducible refine q4 (fun _ => ?_) (fun _ => ?_)) <;> first | (exfalso; omega) | (conv => whnf)) | ((with_reducible first | refine q5 ?_ | refine q6 ?_ | refine q7 ?_ | refine q8 ?_ | refine q9 ?_ | refine q10 ?_ | refine q11 ?_ | refine q12 ?_ | refine q13 ?_ | refine q14 ?_ | refine q15 ?_); conv => whnf) | ((refine q16 (fun _ _ _ _ _ => ?_)); conv => whnf) | ((with_reducible first | refine q17 ?_ | refine q18 ?_ | refine q19 ?_ | refine q20 ?_); conv => whnf)))
  exact ⟨rfl, hg⟩
def lfCf (x y : LfB) : Int := x.lf.number - y.lf.number
theorem lfCf_lt (x y : LfB) : lfCf x y < 0 ↔ x.lf.number < y.lf.number := by
  unfold lfCf
  generalize x.lf.number = a
  generalize y.lf.number = b
  omega
theorem lfSWO : Go.Sort.SWO (ltOf lfCf) where
  irrefl := by intro x; simp only [ltOf, decide_eq_false_iff_not, lfCf_lt]; exact Int.lt_irrefl _
  trans := by intro x y z; simp only [ltOf, decide_eq_true_eq, lfCf_lt]; exact Int.lt_trans
  ntrans := by
    intro x y z; simp only [ltOf, decide_eq_false_iff_not, lfCf_lt, Int.not_lt]; intro h1 h2
    first | exact Int.le_trans h1 h2 | exact Int.le_trans h2 h1
theorem lfCmpLays (blk off size : Nat) (w : World) : CmpLays Tryz.prog 109 #[] lfBC 2 lfCf blk off size w :=
  fun _ _ _ _ x y => (Tryz.copied1 x y _).out.mono fun e w' ⟨v, he, hv, hg⟩ => ⟨by rw [he, hv]; rfl, hg.grow⟩
theorem lfC_one (x : LfB) (v : Value) (hv : v ∈ lfBC x) : V.one v = true := by
  unfold lfBC lfC at hv
  rcases List.mem_cons.1 hv with rfl | hv
  · rfl
  · rcases List.mem_cons.1 hv with rfl | hv
    · rfl
    · simp at hv
theorem flatK_rowL (d : Array LfB) : (flatK lfBC 2 d).toList = rowC lfBC d.toList := by
  apply List.ext_getElem?
  intro t
  by_cases ht : t < d.size * 2
  · have h1 := rowC_get (sz := 2) (c := lfBC) (fun _ => rfl) d.toList (t / 2) (t % 2) (by simp; omega) (by omega)
    rw [show t / 2 * 2 + t % 2 = t by omega] at h1
    have hk : t / 2 < d.size := by omega
    rw [h1, Array.getElem?_toList]
    have h2 : t < (flatK lfBC 2 d).size := by rw [size_flatK]; exact ht
    rw [Array.getElem?_eq_getElem h2]
    have h3 := get_flatK lfBC 2 d t ht
    rw [getElem!_pos (flatK lfBC 2 d) t h2] at h3
    rw [h3, getElem!_pos d (t / 2) hk]
    have h4 : t % 2 < (lfBC d[t / 2]).length := by show t % 2 < 2; omega
    rw [getElem!_pos (lfBC d[t / 2]) (t % 2) h4, List.getElem?_eq_getElem (by simpa using h4)]
    simp
  · rw [List.getElem?_eq_none (by simp; omega), List.getElem?_eq_none (by rw [rowC_length (sz := 2) (fun _ => rfl)]; simp; omega)]
theorem own_sortedL {w : World} {N T b cap : Nat} {xs ys : List LfB} (ho : Own w N T 2 (some ⟨b, 0, none⟩) xs.length cap (rowC lfBC xs)) (hl : ys.length = xs.length) (n : Nat) (os : Array Obj) :
    Own (sortWorldK lfBC 2 w b 0 n ys.toArray os) N T 2 (some ⟨b, 0, none⟩) xs.length cap (rowC lfBC ys) ∧ w.grownBy (sortWorldK lfBC 2 w b 0 n ys.toArray os) (some b) := by
  rcases ho.2 with ⟨hv, _⟩ | ⟨g, c2, cur, hv, hNg, hg, hnc, hcm, hcs, htake⟩
  · cases hv
  injection hv with h1 h2 h3
  obtain rfl : b = g := by simpa using h1
  subst h3
  have hlt : b < w.heap.size := (Array.getElem?_eq_some_iff.1 hg).1
  have hold : ∀ k, k < w.heap.size → (sortWorldK lfBC 2 w b 0 n ys.toArray os).heap[k]? = (Go.Sort.putRowK lfBC 2 (Go.Sort.ahead w n) b 0 ys.toArray).heap[k]? := by
    intro k hk
    unfold sortWorldK Go.Sort.grow
    rw [Array.getElem?_append_left]
    simpa [Go.Sort.putRowK, Go.Sort.putRow, Go.Sort.mapBlock, Go.Sort.ahead] using hk
  have hheap : (sortWorldK lfBC 2 w b 0 n ys.toArray os).heap[b]? = some (.cells (Go.Sort.putCells id 0 (flatK lfBC 2 ys.toArray) cur) T (0, 0)) := by
    rw [hold b hlt]
    simp [Go.Sort.putRowK, Go.Sort.putRow, Go.Sort.mapBlock, Go.Sort.ahead, Array.getElem?_modify, hg, Go.Sort.onCells]
  have hrow := flatK_rowL ys.toArray
  refine ⟨⟨by rw [rowC_length (sz := 2) (fun _ => rfl), hl], .inr ⟨b, cap, _, rfl, hNg, hheap, hnc, hcm, by simp [Go.Sort.putCells, hcs], ?_⟩⟩, ⟨rfl, rfl, rfl, ?_, ?_⟩⟩
  · rw [show rowC lfBC ys = (flatK lfBC 2 ys.toArray).toList from by rw [hrow]]
    have hsz : (flatK lfBC 2 ys.toArray).size = xs.length * 2 := by rw [size_flatK]; simp [hl]
    have hcz : xs.length * 2 ≤ cap * 2 := by omega
    apply List.ext_getElem?
    intro j
    rw [List.getElem?_take]
    by_cases hj : j < xs.length * 2
    · rw [if_pos hj, Array.getElem?_toList, Array.getElem?_toList]
      have h5 : j < (flatK lfBC 2 ys.toArray).size := by omega
      have h6 : j < cur.size := by omega
      simp [Go.Sort.putCells, h6, hsz, hj, h5, getElem!_pos]
    · rw [if_neg hj, List.getElem?_eq_none (by simp [hsz] at *; omega)]
  · simp [sortWorldK, Go.Sort.grow, Go.Sort.putRowK, Go.Sort.putRow, Go.Sort.mapBlock, Go.Sort.ahead]
  · intro k hk hne
    rw [hold k hk]
    have : b ≠ k := fun e => hne (by rw [e])
    simp [Go.Sort.putRowK, Go.Sort.putRow, Go.Sort.mapBlock, Go.Sort.ahead, Array.getElem?_modify, this]
theorem holds_ownL {w : World} {N T b cap : Nat} {xs : List LfB} (ho : Own w N T 2 (some ⟨b, 0, none⟩) xs.length cap (rowC lfBC xs)) : HoldsK lfBC 2 w b 0 xs.toArray := by
  rcases ho.2 with ⟨hv, _⟩ | ⟨g, c2, cur, hv, hNg, hg, hnc, hcm, hcs, htake⟩
  · cases hv
  injection hv with h1 h2 h3
  obtain rfl : b = g := by simpa using h1
  have hrow := flatK_rowL xs.toArray
  intro j hj
  have hj' : j < xs.length * 2 := by simpa using hj
  refine ⟨?_, by simp [World.frozen?, hg]⟩
  have h5 : (cur.toList.take (xs.length * 2))[j]? = (flatK lfBC 2 xs.toArray).toList[j]? := by rw [htake, hrow]
  rw [List.getElem?_take_of_lt hj', Array.getElem?_toList, Array.getElem?_toList] at h5
  simp only [World.cell?, hg, Nat.zero_add, Option.isSome_none, Bool.false_eq_true, if_false]
  rw [h5, Array.getElem?_eq_getElem hj, getElem!_pos (flatK lfBC 2 xs.toArray) j hj]
  rfl
theorem Tryz.sortLfs (base : Option Addr) (cap N : Nat) (xs : List LfB) (w : World) (ho : Own w N 59 2 base xs.length cap (rowC lfBC xs)) (hb : base ≠ none) (h1 : xs.Pairwise fun x y => x.lf.number < y.lf.number) (hl : xs.length < 1000000000) :
    CallA Tryz.prog 108 [.slice base xs.length cap, .func (.func 109) #[] #[]] w fun v w' => Own w' N 59 2 base xs.length cap (rowC lfBC xs) ∧ w.grownBy w' (blkOf base) := by
  rcases ho.2 with ⟨hv, _⟩ | ⟨g, c2, cur, hv, hNg, hg, hnc, hcm, hcs, htake⟩
  · injection hv with e; exact absurd e hb
  injection hv with e1 e2 e3
  subst e1
  have hlt : g < w.heap.size := (Array.getElem?_eq_some_iff.1 hg).1
  refine CallA.of Tryz.func108 rfl (by decide) ?_
  have hty : TyIs Tryz.prog 59 _ := Tb.find_ty Tryz.tbOk rfl
  obtain ⟨i, hi, hi2, _⟩ := hty.info
  have h := AnyQ.slices_SortFunc Tryz.laySortLf 2 (fun w => by show (isAgg 59).run Tryz.prog w = _; simp [isAgg, run_underlying hty.und]) (fun w => by show (Go.sizeOf 59).run Tryz.prog w = _; simp [sizeOf, typeInfo, hi, hi2])
    lfBC (fun _ => rfl) (fun x v hv => by rw [← one_eq]; exact lfC_one x v hv) lfCf lfSWO 109 #[] g 0 cap xs.toArray w (enters_of Tryz.func109 (by kernel_rfl) rfl) (lfCmpLays g 0 _ w) (holds_ownL ho) hlt (by simp; omega)
  change Calls Tryz.prog 108 #[.slice (some ⟨g, 0, none⟩) xs.toArray.size cap, .func (.func 109) #[] #[]] w _ at h
  rw [List.size_toArray] at h
  refine h.mono ?_
  rintro e w' ⟨rfl, d', n, os, hp, hs, rfl⟩
  refine ⟨_, rfl, ?_⟩
  obtain ⟨hd, _, hperm⟩ := hp
  have hd' : d'.size = xs.length := by simpa using hd
  have hys : d'.toList = xs := by
    have hpm : d'.toList.Perm xs := by
      have e1 : d'.extract 0 xs.length = d' := by rw [← hd']; simp
      rw [e1] at hperm
      simpa using hperm
    have hso : d'.toList.Pairwise fun a b => a.lf.number ≤ b.lf.number := by
      rw [List.pairwise_iff_getElem]
      intro i j hi hj hij
      simp only [Array.length_toList] at hi hj
      have := hs i j (by omega) hij (by omega)
      rw [getElem!_pos d' j hj, getElem!_pos d' i hi] at this
      simp only [ltOf, decide_eq_false_iff_not, lfCf_lt, Int.not_lt] at this
      simp only [Array.getElem_toList]; exact this
    refine List.Perm.eq_of_pairwise (le := fun a b => a.lf.number ≤ b.lf.number) (fun a b ha hb h h' => ?_) hso (h1.imp fun h => by omega) hpm
    have ha' := hpm.mem_iff.1 ha
    obtain ⟨i, hi, rfl⟩ := List.mem_iff_getElem.1 ha'
    obtain ⟨j, hj, rfl⟩ := List.mem_iff_getElem.1 hb
    rw [List.pairwise_iff_getElem] at h1
    rcases Nat.lt_trichotomy i j with hij | hij | hij
    · have := h1 i j hi hj hij; omega
    · subst hij; rfl
    · have := h1 j i hj hi hij; omega
  have hfin := own_sortedL (ys := xs) ho rfl n os
  have hda : d' = xs.toArray := by rw [← hys]
  rw [hda]
  exact hfin
theorem Tryz.sortNoLf (base : Option Addr) (cap : Nat) (fv : Value) (w : World) : CallA Tryz.prog 108 [.slice base 0 cap, fv] w fun _ w' => w' = w := by
  refine CallA.of Tryz.func108 rfl (by decide) ?_
  have h := AnyF.slices_SortFunc_none Tryz.laySortLf base cap fv w
  change Calls Tryz.prog 108 #[.slice base 0 cap, fv] w _ at h
  refine h.mono ?_
  rintro e w' ⟨rfl, rfl⟩
  exact ⟨_, rfl, rfl⟩
end Go.Proofs
