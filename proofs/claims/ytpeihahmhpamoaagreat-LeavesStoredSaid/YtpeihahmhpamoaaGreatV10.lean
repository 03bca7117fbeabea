/-
  V10: maps.
-/
import Derived.Test.YtpeihahmhpamoaaGreatV9
import Derived.MapKept
set_option linter.all false
namespace Go.V
open Go
open Go.RowKit (Below)

/-- the entries of a map: key, value, stamp -/
def entC {κ : Type} (kenc : κ → Value) (x : κ × Value × Nat) : MapEntry := ⟨kenc x.1, x.2.1, x.2.2⟩
/-- block b holds a map; its entries in order of their stamps -/
structure MapB {κ : Type} (kenc : κ → Value) (w : World) (b : Nat) (m : List (κ × Value)) : Prop where
  out : ∃ (es : List (κ × Value × Nat)) (clock : Nat), w.heap[b]? = some (.map (es.map (entC kenc)).toArray clock) ∧ es.map (fun x => (x.1, x.2.1)) = m ∧ (∀ x ∈ es, x.2.2 < clock) ∧ (es.map (·.2.2)).Nodup ∧ (es.map (·.1)).Nodup

/-- keys that can be told apart -/
structure KeyOk (P : Program) (kt : TypeId) {κ : Type} [DecidableEq κ] (kenc : κ → Value) : Prop where
  check : ∀ e k w, (Instr.checkKey e 10000 kt (kenc k)).run P w = .ok () w
  find : ∀ k (es : List (κ × Value × Nat)) w, (Instr.findKey kt (kenc k) (es.map (entC kenc))).run P w = .ok ((es.findIdx? fun x => decide (x.1 = k)).bind fun i => es[i]?.map fun x => (i, x.2.1)) w
  bits : ∀ k, Instr.sameBits 10000 (kenc k) (kenc k) = true

def mget {κ : Type} [DecidableEq κ] (m : List (κ × Value)) (k : κ) : Option Value := (m.find? fun x => decide (x.1 = k)).map (·.2)
def mput {κ : Type} [DecidableEq κ] : List (κ × Value) → κ → Value → List (κ × Value)
  | [], k, v => [(k, v)]
  | (k', v') :: r, k, v => if k' = k then (k, v) :: r else (k', v') :: mput r k v
def mdel {κ : Type} [DecidableEq κ] (m : List (κ × Value)) (k : κ) : List (κ × Value) := m.eraseP fun x => decide (x.1 = k)
theorem mget_put {κ : Type} [DecidableEq κ] (m : List (κ × Value)) (k k' : κ) (v : Value) : mget (mput m k v) k' = if k = k' then some v else mget m k' := by
  induction m with
  | nil => simp only [mput, mget, List.find?_cons, List.find?_nil]; by_cases h : k = k' <;> simp [h]
  | cons x r ih =>
    obtain ⟨a, u⟩ := x
    simp only [mput]
    by_cases h : a = k
    · subst h
      rw [if_pos rfl]
      simp only [mget, List.find?_cons]
      by_cases h2 : a = k' <;> simp [h2]
    · rw [if_neg h]
      simp only [mget, List.find?_cons] at ih ⊢
      by_cases h2 : a = k'
      · subst h2; simp [Ne.symm h]
      · simp only [h2, decide_false]
        exact ih
theorem MapB.lt {κ : Type} {kenc : κ → Value} {w : World} {b : Nat} {m : List (κ × Value)} (h : MapB kenc w b m) : b < w.heap.size := by
  obtain ⟨es, c, hb, _⟩ := h.out
  exact (Array.getElem?_eq_some_iff.1 hb).1
theorem MapB.ex {κ : Type} {kenc : κ → Value} {w w' : World} {b : Nat} {m : List (κ × Value)} (h : MapB kenc w b m) (e : Ex w w') : MapB kenc w' b m := by
  obtain ⟨es, c, hb, hr⟩ := h.out
  exact ⟨es, c, by rw [e.block b h.lt]; exact hb, hr⟩
theorem MapB.grown {κ : Type} {kenc : κ → Value} {w w' : World} {b : Nat} {m : List (κ × Value)} {row : Option Nat} (h : MapB kenc w b m) (e : w.grownBy w' row) (hne : some b ≠ row) : MapB kenc w' b m := by
  obtain ⟨es, c, hb, hr⟩ := h.out
  exact ⟨es, c, by rw [e.block b h.lt hne]; exact hb, hr⟩
theorem MapB.upd {κ : Type} {kenc : κ → Value} {w w' : World} {b c : Nat} {m : List (κ × Value)} (h : MapB kenc w b m) (e : Upd w w' c) (hne : b ≠ c) : MapB kenc w' b m := h.grown e.grown (by simpa using hne)
theorem MapB.st {κ : Type} {kenc : κ → Value} {w w' : World} {b N : Nat} {m : List (κ × Value)} (h : MapB kenc w b m) (e : St N w w') : MapB kenc w' b m := by
  obtain ⟨es, c, hb, hr⟩ := h.out
  exact ⟨es, c, e.cm _ _ hb rfl, hr⟩
theorem MapB.cm {κ : Type} {kenc : κ → Value} {w : World} {b : Nat} {m : List (κ × Value)} (h : MapB kenc w b m) : ∃ o, w.heap[b]? = some o ∧ isCM o = true := by
  obtain ⟨es, c, hb, hr⟩ := h.out
  exact ⟨_, hb, rfl⟩
theorem mapB_new {κ : Type} (kenc : κ → Value) (w : World) : MapB kenc (w.alloc (.map #[] 0)) w.heap.size [] ∧ Ex w (w.alloc (.map #[] 0)) ∧ (w.alloc (.map #[] 0)).heap.size = w.heap.size + 1 :=
  ⟨⟨[], 0, (new_alloc w _).at_, rfl, by simp, by simp, by simp⟩, (new_alloc w _).ex, by simp⟩
theorem upd_putObj {w : World} {b : Nat} {o o' : Obj} (_h : w.heap[b]? = some o) : Upd w (w.putObj b o') b :=
  ⟨by simp [World.putObj], fun k hk => World.putObj_heap_other (by exact hk), rfl, rfl, rfl⟩

/-! ### types -/
def mapOf (tb : Tb) (t : Nat) : Option (Nat × Nat × Option Value) :=
  match tb.find t with
  | some ti => match ti.desc with
    | .map k e => match tb.find e with
      | some te => some (k, e, te.zero)
      | none => none
    | _ => none
  | none => none
theorem mapOf_spec {P : Program} {tb : Tb} (hok : TbOk P tb) {t k e : Nat} {z : Option Value} (h : mapOf tb t = some (k, e, z)) :
    P.underlying t = some (.map k e) ∧ ∃ i, P.info? e = some i ∧ i.zero = z := by
  unfold mapOf at h
  cases h1 : tb.find t with
  | none => rw [h1] at h; simp at h
  | some ti =>
    rw [h1] at h; simp only [] at h
    have hty := Tb.find_ty hok h1
    obtain ⟨d, sz1, b1, z1⟩ := ti
    cases d <;> simp only [] at h <;> first | (simp at h; done) | skip
    rename_i k' e'
    cases h2 : tb.find e' with
    | none => rw [h2] at h; simp at h
    | some te =>
      rw [h2] at h
      simp only [Option.some.injEq, Prod.mk.injEq] at h
      have hty2 := Tb.find_ty hok h2
      obtain ⟨rfl, rfl, rfl⟩ := h
      obtain ⟨i, hi, _, _, hz⟩ := hty2.info
      exact ⟨hty.und, i, hi, hz⟩

theorem getMap {P : Program} {w : World} {r : Nat} {es : Array MapEntry} {clock : Nat} (hb : w.heap[r]? = some (.map es clock)) : (getObj r).run P w = .ok (.map es clock) w := by simp [getObj, Sem.run, hb]
theorem setMap {P : Program} {w : World} {r : Nat} {es : Array MapEntry} {clock : Nat} (o : Obj) (hb : w.heap[r]? = some (.map es clock)) : (setObj r o).run P w = .ok () (w.putObj r o) := by simp [setObj, Sem.run, hb, World.putObj]
/-! ### lookups -/
variable {P : Program} {tb : Tb} {κ : Type} [DecidableEq κ] {kenc : κ → Value}
theorem find_get (es : List (κ × Value × Nat)) (k : κ) : ((es.findIdx? fun x => decide (x.1 = k)).bind fun i => es[i]?.map fun x => (i, x.2.1)).map (·.2) = mget (es.map fun x => (x.1, x.2.1)) k := by
  induction es with
  | nil => rfl
  | cons x r ih =>
    simp only [List.findIdx?_cons, mget, List.map_cons, List.find?_cons] at *
    by_cases h : x.1 = k
    · simp [h]
    · simp only [h, decide_false, Bool.false_eq_true, if_false] at *
      rw [← ih]
      cases hf : r.findIdx? fun x => decide (x.1 = k) with
      | none => simp
      | some i =>
        simp only [Option.map_some, Option.bind_some, List.getElem?_cons_succ]
        cases r[i]? <;> simp
theorem RunV.lookup (hok : TbOk P tb) {w : World} {t kt e b : Nat} {z : Value} {m : List (κ × Value)} {k : κ} {ok : Bool} {K : Value → World → Prop} (ht : mapOf tb t = some (kt, e, some z)) (hk : KeyOk P kt kenc) (hm : MapB kenc w b m)
    (h : K (if ok then .tuple #[(mget m k).getD z, .bool (mget m k).isSome] else (mget m k).getD z) w) : RunV P (Instr.lookup t (.map (some b)) (kenc k) ok) w K := by
  obtain ⟨hu, i, hi, hz⟩ := mapOf_spec hok ht
  obtain ⟨es, clock, hb, rfl, _⟩ := hm.out
  refine ⟨_, w, ?_, h⟩
  have hg := find_get es k
  simp only [Instr.lookup, Sem.run_bind, run_underlying hu, Result.andThen_ok, getMap hb, Sem.run_pure, hk.check]
  rw [hk.find]
  simp only [Result.andThen_ok]
  cases hf : (es.findIdx? fun x => decide (x.1 = k)).bind fun i => es[i]?.map fun x => (i, x.2.1) with
  | none =>
    rw [hf] at hg
    simp only [Option.map_none] at hg
    rw [← hg]
    have hzv : (zeroValue e).run P w = .ok z w := by simp [zeroValue, typeInfo, hi, hz]
    simp only [Sem.run_bind, hzv, Result.andThen_ok, Sem.run_pure]
    cases ok <;> rfl
  | some p =>
    rw [hf] at hg
    simp only [Option.map_some] at hg
    rw [← hg]
    obtain ⟨i', v⟩ := p
    simp only [Sem.run_pure, Result.andThen_ok]
    cases ok <;> rfl

theorem upd_len {κ : Type} [DecidableEq κ] : ∀ (es : List (κ × Value × Nat)) (k : κ) (v : Value) (i : Nat), (es.findIdx? fun x => decide (x.1 = k)) = some i →
    (es.modify i fun x => (k, v, x.2.2)).map (fun x => (x.1, x.2.1)) = mput (es.map fun x => (x.1, x.2.1)) k v ∧ (es.modify i fun x => (k, v, x.2.2)).map (·.2.2) = es.map (·.2.2) ∧ (es.modify i fun x => (k, v, x.2.2)).map (·.1) = es.map (·.1) := by
  intro es
  induction es with
  | nil => intro k v i h; simp at h
  | cons x r ih =>
    intro k v i h
    simp only [List.findIdx?_cons] at h
    by_cases hx : x.1 = k
    · simp only [hx, decide_true, if_true, Option.some.injEq] at h
      subst h
      simp [List.modify, mput, hx]
    · simp only [hx, decide_false, Bool.false_eq_true, if_false, Option.map_eq_some_iff] at h
      obtain ⟨j, hj, rfl⟩ := h
      obtain ⟨h1, h2, h3⟩ := ih k v j hj
      simp only [List.modify_succ_cons, List.map_cons, mput, if_neg hx, h1, h2, h3, and_self]
theorem put_new {κ : Type} [DecidableEq κ] : ∀ (es : List (κ × Value × Nat)) (k : κ) (v : Value) (c : Nat), (es.findIdx? fun x => decide (x.1 = k)) = none →
    (es ++ [(k, v, c)]).map (fun x => (x.1, x.2.1)) = mput (es.map fun x => (x.1, x.2.1)) k v ∧ k ∉ es.map (·.1) := by
  intro es
  induction es with
  | nil => intro k v c _; simp [mput]
  | cons x r ih =>
    intro k v c h
    simp only [List.findIdx?_cons] at h
    by_cases hx : x.1 = k
    · simp [hx] at h
    · simp only [hx, decide_false, Bool.false_eq_true, if_false, Option.map_eq_none_iff] at h
      obtain ⟨h1, h2⟩ := ih k v c h
      refine ⟨?_, ?_⟩
      · simp only [List.cons_append, List.map_cons, mput, if_neg hx, h1]
      · simp only [List.map_cons, List.mem_cons, not_or]; exact ⟨fun e => hx e.symm, h2⟩
theorem RunU.mapUpdate (hok : TbOk P tb) {w : World} {t kt e b : Nat} {z : Option Value} {m : List (κ × Value)} {k : κ} {v : Value} {K : World → Prop} (ht : mapOf tb t = some (kt, e, z)) (hk : KeyOk P kt kenc) (hm : MapB kenc w b m)
    (h : ∀ w', Upd w w' b → MapB kenc w' b (mput m k v) → K w') : RunU P (Instr.mapUpdate t (.map (some b)) (kenc k) v) w K := by
  obtain ⟨hu, i, hi, hz⟩ := mapOf_spec hok ht
  obtain ⟨es, clock, hb, rfl, hlt, hnd, hnk⟩ := hm.out
  cases hf : es.findIdx? fun x => decide (x.1 = k) with
  | none =>
    have hr : (Instr.mapUpdate t (.map (some b)) (kenc k) v).run P w = .ok () (w.putObj b (.map ((es ++ [(k, v, clock)]).map (entC kenc)).toArray (clock + 1))) := by
      simp only [Instr.mapUpdate, Sem.run_bind, run_underlying hu, Result.andThen_ok, getMap hb, hk.check]
      rw [hk.find, hf]
      simp only [Result.andThen_ok, Option.bind_none, setMap _ hb]
      congr 3
      simp [entC]
    refine ⟨_, hr, h _ (upd_putObj hb) ⟨es ++ [(k, v, clock)], clock + 1, World.putObj_heap_same hm.lt, ?_, ?_, ?_, ?_⟩⟩
    · exact (put_new es k v clock hf).1
    · intro x hx
      rcases List.mem_append.1 hx with hx | hx
      · have := hlt x hx; omega
      · rw [List.mem_singleton] at hx; subst hx; simp
    · rw [List.map_append, List.nodup_append]
      refine ⟨hnd, by simp, ?_⟩
      intro a ha c hc
      simp only [List.map_cons, List.map_nil, List.mem_singleton] at hc
      obtain ⟨x, hx, rfl⟩ := List.mem_map.1 ha
      have := hlt x hx; omega
    · rw [List.map_append, List.nodup_append]
      refine ⟨hnk, by simp, ?_⟩
      intro a ha c hc
      simp only [List.map_cons, List.map_nil, List.mem_singleton] at hc
      have := (put_new es k v clock hf).2
      intro e; rw [hc] at e; exact this (e ▸ ha)
  | some j =>
    obtain ⟨hj, hkj, _⟩ := List.findIdx?_eq_some_iff_getElem.1 hf
    have hkj : es[j].1 = k := by simpa using hkj
    have hr : (Instr.mapUpdate t (.map (some b)) (kenc k) v).run P w = .ok () (w.putObj b (.map ((es.modify j fun x => (k, v, x.2.2)).map (entC kenc)).toArray clock)) := by
      simp only [Instr.mapUpdate, Sem.run_bind, run_underlying hu, Result.andThen_ok, getMap hb, hk.check]
      rw [hk.find, hf]
      have hkk : ((((es.map (entC kenc)).toArray)[j]?.map (·.key)).getD (kenc k)) = kenc k := by simp [hj, entC, hkj]
      simp only [Option.bind_some, List.getElem?_eq_getElem hj, Option.map_some, Result.andThen_ok, hkk, Sem.run_bind, Instr.keyThatStays, hk.bits, if_true, Sem.run_pure, setMap _ hb]
      congr 3
      apply Array.ext'
      simp only [Array.toList_modify]
      apply List.ext_getElem?
      intro n
      simp only [List.getElem?_modify, List.getElem?_map]
      by_cases hnj : j = n
      · subst hnj; simp [hj, entC]
      · simp [hnj]
    obtain ⟨u1, u2, u3⟩ := upd_len es k v j hf
    refine ⟨_, hr, h _ (upd_putObj hb) ⟨es.modify j fun x => (k, v, x.2.2), clock, World.putObj_heap_same hm.lt, u1, ?_, by rw [u2]; exact hnd, by rw [u3]; exact hnk⟩⟩
    intro x hx
    have hx2 : x.2.2 ∈ (es.modify j fun x => (k, v, x.2.2)).map (·.2.2) := List.mem_map_of_mem hx
    rw [u2] at hx2
    obtain ⟨y, hy, he⟩ := List.mem_map.1 hx2
    rw [← he]; exact hlt y hy
/-! ### whole numbers as keys -/
theorem keyInt {kt : TypeId} {kd : IntKind} (hu : P.underlying kt = some (.int kd)) : KeyOk P kt (Value.int .i64) where
  check := by
    intro e k w
    rw [show (10000 : Nat) = 9999 + 1 from rfl, Instr.checkKey]
    simp only [Sem.run_bind, run_underlying hu, Result.andThen_ok, Sem.run_pure]
  find := by
    intro k es w
    simp only [Instr.findKey, Sem.run_bind, run_underlying hu, Result.andThen_ok]
    have key : ∀ (es : List (Int × Value × Nat)) (n : Nat), Instr.findNow (.int kd) (.int .i64 k) (es.map (entC (Value.int .i64))) n = some ((es.findIdx? fun x => decide (x.1 = k)).bind fun i => es[i]?.map fun x => (n + i, x.2.1)) := by
      intro es
      induction es with
      | nil => intro n; simp [Instr.findNow]
      | cons x r ih =>
        intro n
        simp only [List.map_cons, Instr.findNow, entC, Instr.sameNow, if_true, List.findIdx?_cons]
        by_cases h : x.1 = k
        · simp [h]
        · have h' : (k == x.1) = false := by simpa using (Ne.symm h)
          have ih' := ih (n + 1)
          simp only [h', h, decide_false, Bool.false_eq_true, if_false]
          rw [ih']
          cases hf : r.findIdx? fun x => decide (x.1 = k) with
          | none => simp
          | some i =>
            simp only [Option.map_some, Option.bind_some, List.getElem?_cons_succ]
            rw [show n + 1 + i = n + (i + 1) by omega]
    rw [key es 0]
    simp
  bits := by intro k; simp [Instr.sameBits]
end Go.V
namespace Go.V
open Go
theorem RunV.lookupN {P : Program} {tb : Tb} {κ : Type} [DecidableEq κ] {kenc : κ → Value} (hok : TbOk P tb) {w : World} {t kt e b : Nat} {z : Value} {m : List (κ × Value)} {k : κ} {ok : Bool} {K : Value → World → Prop} (ht : mapOf tb t = some (kt, e, some z)) (hk : KeyOk P kt kenc) (hm : MapB kenc w b m)
    (hg : mget m k = none) (h : K (if ok then .tuple #[z, .bool false] else z) w) : RunV P (Instr.lookup t (.map (some b)) (kenc k) ok) w K :=
  RunV.lookup hok ht hk hm (by rw [hg]; exact h)
theorem RunV.lookupS {P : Program} {tb : Tb} {κ : Type} [DecidableEq κ] {kenc : κ → Value} (hok : TbOk P tb) {w : World} {t kt e b : Nat} {z v : Value} {m : List (κ × Value)} {k : κ} {ok : Bool} {K : Value → World → Prop} (ht : mapOf tb t = some (kt, e, some z)) (hk : KeyOk P kt kenc) (hm : MapB kenc w b m)
    (hg : mget m k = some v) (h : K (if ok then .tuple #[v, .bool true] else v) w) : RunV P (Instr.lookup t (.map (some b)) (kenc k) ok) w K :=
  RunV.lookup hok ht hk hm (by rw [hg]; exact h)
end Go.V
