/-
  VJ: the arguments as they are read, opened as rows of things; and the row's last step.
-/
import Derived.Test.YtpeihahmhpamoaaGreatVQ
import Derived.ProofKit
import Derived.SizedLaws
import Derived.OpenShut
import Derived.ChangeSame
import Derived.Deep.Slices
set_option linter.all false
namespace Go.V
open Go Go.ChangeShapes Go.WideShapes Go.ChangeAt Go.RowKit
open Go.Deep (open_slice)

variable {H : Type} {enc : TypeId × Value → H} {P : Program} {w : World} {base : Nat} {spare : Nat → Bool} {held : Bool}

/-- each field is a whole number of 64 bits, one behind the other -/
def intFields (P : Program) (fs : Array Field) : Bool := (List.range fs.size).all fun i => match fs[i]? with
  | some f => Nat.beq f.offset i && Nat.beq (P.cellsOf f.type) 1 && (match P.underlying f.type with | some (.int .i64) => true | _ => false)
  | none => false
theorem intFields_at {fs : Array Field} (h : intFields P fs = true) {i : Nat} {f : Field} (hi : fs[i]? = some f) : f.offset = i ∧ P.cellsOf f.type = 1 ∧ P.underlying f.type = some (.int .i64) := by
  have hlt : i < fs.size := (Array.getElem?_eq_some_iff.1 hi).1
  have := List.all_eq_true.1 h i (List.mem_range.2 hlt)
  simp only [hi, Bool.and_eq_true] at this
  obtain ⟨⟨h1, h2⟩, h3⟩ := this
  refine ⟨Nat.eq_of_beq_eq_true h1, Nat.eq_of_beq_eq_true h2, ?_⟩
  split at h3
  · assumption
  · cases h3
theorem wf_i64 {n : Int} (h : (Lit.int .i64 n).wf = true) : -9223372036854775808 ≤ n ∧ n ≤ 9223372036854775807 := by
  simpa [Lit.wf, IntKind.min, IntKind.max, IntKind.signed, IntKind.bits] using h
theorem wf_u8 {n : Int} (h : (Lit.int .u8 n).wf = true) : 0 ≤ n ∧ n ≤ 255 := by
  simpa [Lit.wf, IntKind.min, IntKind.max, IntKind.signed, IntKind.bits] using h
def InI (n : Int) : Prop := -9223372036854775808 ≤ n ∧ n ≤ 9223372036854775807
theorem ints_of : ∀ (cs : List Value), (∀ i (hi : i < cs.length), ∃ n, cs[i] = .int .i64 n ∧ InI n) → ∃ xs, cs = ints xs ∧ ∀ x ∈ xs, InI x := by
  intro cs
  induction cs with
  | nil => intro _; exact ⟨[], rfl, by intro x hx; simp at hx⟩
  | cons c t ih =>
    intro h
    obtain ⟨n, hn, hr⟩ := h 0 (by simp)
    obtain ⟨xs, hx, hxr⟩ := ih (fun i hi => by have := h (i + 1) (by simpa using hi); simpa using this)
    refine ⟨n :: xs, by rw [hx]; simp only [List.getElem_cons_zero] at hn; rw [hn]; rfl, ?_⟩
    intro x hxm
    rcases List.mem_cons.1 hxm with rfl | hxm
    · exact hr
    · exact hxr x hxm
/-- cells that read as a struct of whole numbers -/
theorem trod_ints {t : TypeId} {fs : Array Field} {fuel : Nat} {cs : List Value} {x : DataW H × List MemPlace} (hs : P.underlying t = some (.struct fs)) (hf : intFields P fs = true) (hC : P.cellsOf t = fs.size)
    (h : DataW.trod enc P w base spare held fuel t cs = some x) : ∃ xs, cs = ints xs ∧ xs.length = fs.size ∧ ∀ x ∈ xs, InI x := by
  obtain ⟨ys, n, _, _, hl, hyl, hg⟩ := DataW.trod_struct hs h
  rw [hC] at hl
  obtain ⟨xs, hx, hr⟩ := ints_of cs fun i hi => by
    have hif : i < fs.size := by omega
    obtain ⟨h1, h2, h3⟩ := intFields_at hf (Array.getElem?_eq_getElem hif)
    have hgi := hg i fs[i] (Array.getElem?_eq_getElem hif)
    rw [h1, h2, List.drop_eq_getElem_cons hi, List.take_succ_cons, List.take_zero] at hgi
    rw [List.getElem?_eq_getElem (by omega)] at hgi
    obtain ⟨m, hm, _, hw⟩ := DataW.trod_int h3 hgi
    simp only [List.cons.injEq, and_true] at hm
    exact ⟨m, hm, wf_i64 hw⟩
  exact ⟨xs, hx, by rw [← hl, hx]; simp, hr⟩
/-- a struct of whole numbers, by value -/
theorem open_ints {r : Reach} {b0 : Nat} {t : TypeId} {fs : Array Field} {v : Value} {d : DataW H} {p : List MemPlace} (hs : P.underlying t = some (.struct fs)) (hf : intFields P fs = true) (hC : P.cellsOf t = fs.size)
    (hv : Value.okWide P w r b0 t v) (h : DataW.Trod enc P w base spare held t v d p) : ∃ xs, v = .agg (ints xs).toArray ∧ xs.length = fs.size ∧ ∀ x ∈ xs, InI x := by
  obtain ⟨cs, rfl, hsz⟩ := okWide_struct hs hv
  obtain ⟨fuel, hft⟩ := h
  obtain ⟨xs, hx, hl, hr⟩ := trod_ints hs hf hC hft
  refine ⟨xs, ?_, hl, hr⟩
  congr 1
  apply Array.ext'
  simpa [Value.cells] using hx
theorem list_choose {α : Type} {Q : Nat → α → Prop} : ∀ n, (∀ i, i < n → ∃ x, Q i x) → ∃ ls : List α, ls.length = n ∧ ∀ i (hi : i < ls.length), Q i ls[i] := by
  intro n
  induction n with
  | zero => intro _; exact ⟨[], rfl, fun i hi => by simp at hi⟩
  | succ n ih =>
    intro h
    obtain ⟨ls, hl, hq⟩ := ih fun i hi => h i (by omega)
    obtain ⟨x, hx⟩ := h n (by omega)
    refine ⟨ls ++ [x], by simp [hl], fun i hi => ?_⟩
    rw [List.getElem_append]
    split
    · rename_i h1; exact hq i h1
    · rename_i h1
      have : i = n := by simp at hi; omega
      subst this
      simpa [hl] using hx
theorem addr_add_add (a : Addr) (i j : Nat) : (a.add i).add j = a.add (i + j) := by
  unfold Addr.add
  by_cases hi : i = 0 <;> by_cases hj : j = 0 <;> simp [hi, hj, Nat.add_assoc]
theorem cell_spot {w : World} {a : Addr} {v : Value} (h : w.cell? a = some v) : a.spot = none := by
  unfold World.cell? at h
  split at h
  · cases hs : a.spot with
    | none => rfl
    | some s => simp [hs] at h
  · cases h
/-- A SLICE OF THINGS, each a struct of one cell's fields: R tells which cells a thing may have. -/
theorem open_row {α : Type} {c : α → List Value} {sz : Nat} (hc : ∀ x, (c x).length = sz) (h0 : 0 < sz) {r : Reach} {b0 : Nat} {t e : TypeId} {v : Value} {d : DataW H} {p : List MemPlace} (ht : P.underlying t = some (.slice e)) (hC : P.cellsOf e = sz)
    (hdec : ∀ (n : Nat) (cs : List Value) (y : DataW H × List MemPlace), DataW.trod enc P w base spare held n e cs = some y → ∃ x, c x = cs)
    (hv : Value.okWide P w r b0 t v) (h : DataW.Trod enc P w base spare held t v d p) :
    ∃ (bs : Option Addr) (ls : List α) (cap : Nat), v = .slice bs ls.length cap ∧ ls.length ≤ cap ∧ Row w bs (rowC c ls) ∧ (d = .nil ∧ ls = [] ∨ ∃ elems rest, d = .slice elems rest ∧ elems.length = ls.length) := by
  obtain ⟨a0, len, cap, rfl⟩ := okWide_slice ht hv
  obtain ⟨fuel, hf⟩ := h
  rcases open_slice ht hf with ⟨hcs, hx⟩ | ⟨a, len', cap', m, n, D, Pl, hcs, hb, hl, hm, hmm, hx, hi⟩
  · simp [Value.cells] at hcs
    obtain ⟨rfl, rfl, rfl⟩ := hcs
    simp only [Prod.mk.injEq] at hx
    exact ⟨none, [], 0, rfl, Nat.le_refl _, Row.nil _ _, .inl ⟨hx.1, rfl⟩⟩
  · simp [Value.cells] at hcs
    obtain ⟨rfl, rfl, rfl⟩ := hcs
    have hlm : len ≤ m := by rw [hmm]; split <;> omega
    obtain ⟨ls, hll, hq⟩ := list_choose (Q := fun i (x : α) => ∀ j u, (c x)[j]? = some u → w.cell? (a.add (i * sz + j)) = some u) len fun i hil => by
      obtain ⟨cs', hcells, ht'⟩ := hi i (by omega)
      obtain ⟨x, hx⟩ := hdec _ _ _ ht'
      obtain ⟨_, hlen, hat⟩ := World.cells?_some hcells
      refine ⟨x, fun j u hj => ?_⟩
      have hjs : j < sz := by rw [← hc x]; exact (List.getElem?_eq_some_iff.1 hj).1
      have := hat j (by rw [hC]; exact hjs)
      rw [addr_add_add, hC] at this
      rw [this, ← hx]; exact hj
    simp only [Prod.mk.injEq] at hx
    refine ⟨some a, ls, cap, by rw [hll], by omega, ⟨fun hne => ?_⟩, .inr ⟨_, _, hx.1, by simp [hll]⟩⟩
    have hls : 0 < ls.length := by
      cases ls with
      | nil => exact absurd rfl hne
      | cons x t => simp
    have hcell : ∀ j u, (rowC c ls)[j]? = some u → w.cell? (a.add j) = some u := by
      intro j u hj
      have hjl : j < ls.length * sz := by
        have := (List.getElem?_eq_some_iff.1 hj).1
        rwa [rowC_length hc] at this
      have hk : j / sz < ls.length := (Nat.div_lt_iff_lt_mul h0).2 hjl
      have hr : j % sz < sz := Nat.mod_lt _ h0
      have he : j / sz * sz + j % sz = j := Nat.div_add_mod' j sz
      have := rowC_get hc ls (j / sz) (j % sz) hk hr
      rw [he, hj] at this
      have := hq (j / sz) hk (j % sz) u this.symm
      rwa [he] at this
    have hsp : a.spot = none := by
      have h1 : 0 < (rowC c ls).length := by rw [rowC_length hc]; exact Nat.mul_pos hls h0
      have := cell_spot (hcell 0 _ (List.getElem?_eq_getElem h1))
      simpa [Addr.add] using this
    obtain ⟨b, o, s⟩ := a
    simp only [] at hsp
    subst hsp
    exact ⟨b, o, rfl, fun j u hj => by rw [← addr_add]; exact hcell j u hj⟩
/-- how long such a slice can be -/
theorem row_bound {α : Type} {ts : List TypeId} {ds : List (DataW H)} (hsz : (DataW.weightsEach P ts ds).all (· ≤ reachBytes) = true) {j : Nat} {t e : TypeId} {d : DataW H} {ls : List α} (ht : ts[j]? = some t) (hd : ds[j]? = some d) (hu : P.underlying t = some (.slice e))
    {by_ : Nat} (hb : P.bytesOf e = by_) (h0 : 0 < by_) (h : d = .nil ∧ ls = [] ∨ ∃ elems rest, d = .slice elems rest ∧ elems.length = ls.length) : ls.length * by_ ≤ 140737488351232 := by
  rcases h with ⟨_, rfl⟩ | ⟨elems, rest, rfl, hl⟩
  · simp
  · have := sized_slice hsz ht hd hu
    rw [hb, Nat.add_mul, hl] at this
    simp only [reachBytes] at this
    omega
theorem row_len {n by_ : Nat} (h : n * by_ ≤ 140737488351232) (h0 : 0 < by_) : n < 140737488355328 := by
  have : n * 1 ≤ n * by_ := Nat.mul_le_mul_left _ h0
  omega
/-- what was read reads behind the call as before -/
theorem below_all (hl : laidOutB P = true) {W W' : World} (hb : Ex W W') : ∀ (ts : List TypeId) (vs : List Value) (ds : List (DataW H)) (ps : List MemPlace), (∀ t ∈ ts, P.readableRec t = true ∧ t < P.types.size) →
    (∀ x ∈ ps, x.block < W.heap.size) → DataW.TrodAll enc P W 0 (fun _ => true) true ts vs ds ps → DataW.TrodAll enc P W' 0 (fun b => decide (b < W.heap.size)) true ts vs ds ps := by
  intro ts
  induction ts with
  | nil =>
    intro vs ds ps _ _ h
    obtain ⟨rfl, rfl, rfl⟩ := trodAll_nil h
    exact trodAll_mk0
  | cons t ts ih =>
    intro vs ds ps ht hlt h
    obtain ⟨v, vs', d, ds', p, q, rfl, rfl, rfl, h1, h2⟩ := trodAll_cons h
    refine trodAll_cons_mk (Below.trod hl (ht t (by simp)).1 (ht t (by simp)).2 h1 hb fun x hx => hlt x (by simp [hx])) ?_
    exact ih vs' ds' q (fun t ht' => ht t (by simp [ht'])) (fun x hx => hlt x (by simp [hx])) h2
/-- THE ROW's STEP, where the call answers true and leaves all that was read as it was. -/
theorem true_post {t : TypeId} (hl : laidOutB P = true) {f : Func} {s : ChangeSpec} {W W' : World} {args : Array Value} {ds : List (DataW H)} {before : List MemPlace} (hvars : s.vars = []) (hrt : f.resultTypes = #[t]) (hbt : P.underlying t = some .bool)
    (hread : ∀ t ∈ f.params.toList, P.readableRec t = true ∧ t < P.types.size) (hspec : s.fn H ds = { results := [.lit (.bool true)], args := ds })
    (hW : DataW.Whole enc P f.params.toList s.vars false W args.toList ds [] before) (hb : Ex W W') : s.post enc P f false true false false W args (.bool true) W' := by
  have hW' := hW
  obtain ⟨p, q, hA, hV, rfl, hfz, hnd⟩ := hW
  rw [hvars] at hV
  obtain ⟨_, rfl⟩ := trodVars_none hV
  have hA : DataW.TrodAll enc P W 0 (fun _ => true) true f.params.toList args.toList ds p := hA
  have hlt : ∀ x ∈ p, x.block < W.heap.size := fun x hx => hW'.lt x (List.mem_append_left _ hx)
  refine ⟨ds, [], p ++ [], [], p, [], hW', ?_, ?_, ?_, hb.frame _, fun h => by cases h⟩
  · rw [List.append_nil, hspec, hrt]
    exact trodAll_mk1 (shut_bool hbt _)
  · rw [List.append_nil, hspec]
    exact below_all hl hb _ _ _ _ hread hlt hA
  · rw [List.append_nil, hspec, hvars]; rfl
end Go.V
