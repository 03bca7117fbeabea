/-
  V1: a generator of verification conditions over the model's code, by reflection. By an AI agent.
  'vCode c σ ds w Q' computes (by unfolding) what has to be shown so that the code c, run from a frame that reads as σ, ends as Q says.
-/
import Derived.RangeFuncIn
import Derived.OrdersIn
import Derived.Laws.Sem
import Derived.RangeFuncLeaves
set_option linter.all false
namespace Go.V
open Go

theorem beq_f {i j : Nat} (h : i ≠ j) : Nat.beq i j = false := by
  cases hb : Nat.beq i j with
  | false => rfl
  | true => exact absurd (Nat.eq_of_beq_eq_true hb) h
theorem beq_t (i : Nat) : Nat.beq i i = true := Nat.beq_refl i
theorem blt_t {i j : Nat} (h : i < j) : Nat.blt i j = true := Nat.ble_eq_true_of_le h
theorem blt_f {i j : Nat} (h : ¬ i < j) : Nat.blt i j = false := by
  cases hb : Nat.blt i j with
  | false => rfl
  | true => exact absurd (Nat.le_of_ble_eq_true hb) h
theorem of_blt {i j : Nat} (h : Nat.blt i j = true) : i < j := Nat.le_of_ble_eq_true h
/-! ### frames -/
abbrev Ov := List (Nat × Value)
structure Env where
  n : Nat
  fx : Ov
  ov : Ov

def lookL : Ov → Nat → Value → Value
  | [], _, d => d
  | (i, v) :: r, t, d => match Nat.beq i t with | true => v | false => lookL r t d
def look (σ : Env) (t : Nat) : Value := lookL σ.ov t (lookL σ.fx t undef)

def lookK : Ov → Nat → (Value → Prop) → Prop → Prop
  | [], _, _, d => d
  | (i, v) :: r, t, k, d => match Nat.beq i t with | true => k v | false => lookK r t k d
def getK (σ : Env) (t : Nat) (k : Value → Prop) : Prop := lookK σ.ov t k (lookK σ.fx t k (k undef))

theorem lookK_iff (l : Ov) (t : Nat) (k : Value → Prop) (v : Value) : lookK l t k (k v) ↔ k (lookL l t v) := by
  induction l with
  | nil => exact Iff.rfl
  | cons p r ih =>
    obtain ⟨i, x⟩ := p
    simp only [lookK, lookL]
    cases Nat.beq i t
    · exact ih
    · exact Iff.rfl
theorem lookK_congr (l : Ov) (t : Nat) (k : Value → Prop) {d d' : Prop} (h : d ↔ d') : lookK l t k d ↔ lookK l t k d' := by
  induction l with
  | nil => exact h
  | cons p r ih =>
    obtain ⟨i, x⟩ := p
    simp only [lookK]
    cases Nat.beq i t
    · exact ih
    · exact Iff.rfl
theorem getK_iff {σ : Env} {t : Nat} {k : Value → Prop} : getK σ t k ↔ k (look σ t) := by
  unfold getK look
  exact (lookK_congr _ _ _ (lookK_iff _ _ _ _)).trans (lookK_iff _ _ _ _)

def setL : Ov → Nat → Value → Ov
  | [], t, v => [(t, v)]
  | (i, x) :: r, t, v => match Nat.beq i t with | true => (i, v) :: r | false => (i, x) :: setL r t v
def setLK : Ov → Nat → Value → (Ov → Prop) → Prop
  | [], t, v, k => k [(t, v)]
  | (i, x) :: r, t, v, k => match Nat.beq i t with | true => k ((i, v) :: r) | false => setLK r t v fun r' => k ((i, x) :: r')
theorem setLK_iff (l : Ov) (t : Nat) (v : Value) : ∀ k : Ov → Prop, setLK l t v k ↔ k (setL l t v) := by
  induction l with
  | nil => exact fun k => Iff.rfl
  | cons p r ih =>
    obtain ⟨i, x⟩ := p
    intro k
    simp only [setLK, setL]
    cases Nat.beq i t
    · exact ih _
    · exact Iff.rfl
def set (σ : Env) (t : Nat) (v : Value) : Env := match Nat.blt t σ.n with | true => { σ with ov := setL σ.ov t v } | false => σ
def setK (σ : Env) (t : Nat) (v : Value) (k : Env → Prop) : Prop :=
  match σ with
  | ⟨n, fx, ov⟩ => match Nat.blt t n with | true => setLK ov t v fun ov' => k ⟨n, fx, ov'⟩ | false => k ⟨n, fx, ov⟩
theorem setK_iff {σ : Env} {t : Nat} {v : Value} {k : Env → Prop} : setK σ t v k ↔ k (set σ t v) := by
  obtain ⟨n, fx, ov⟩ := σ
  simp only [setK, set]
  cases Nat.blt t n
  · exact Iff.rfl
  · exact setLK_iff _ _ _ _
def putK (σ : Env) (d : Option Nat) (v : Value) (k : Env → Prop) : Prop :=
  match d with
  | some t => setK σ t v k
  | none => k σ
def put (σ : Env) (d : Option Nat) (v : Value) : Env :=
  match d with
  | some t => set σ t v
  | none => σ
theorem putK_iff {σ : Env} {d : Option Nat} {v : Value} {k : Env → Prop} : putK σ d v k ↔ k (put σ d v) := by
  cases d with
  | none => exact Iff.rfl
  | some t => exact setK_iff

theorem lookL_setL (l : Ov) (t : Nat) (v : Value) (i : Nat) (d : Value) : lookL (setL l t v) i d = if t = i then v else lookL l i d := by
  induction l with
  | nil =>
    simp only [setL, lookL]
    by_cases h : t = i
    · subst h; rw [beq_t t]; simp
    · rw [beq_f h]; simp [h]
  | cons p r ih =>
    obtain ⟨j, x⟩ := p
    simp only [setL]
    by_cases h : j = t
    · subst h
      rw [beq_t j]
      simp only [lookL]
      by_cases h' : j = i
      · subst h'; rw [beq_t j]; simp
      · rw [beq_f h']; simp [h']
    · rw [beq_f h]
      simp only [lookL]
      by_cases h' : j = i
      · subst h'; rw [beq_t j]; simp only []; rw [if_neg (fun e => h e.symm)]
      · rw [beq_f h']; exact ih

/-! ### a frame reads as σ -/
structure Rel (σ : Env) (ds : List Deferred) (a : Act) : Prop where
  size : a.tmps.size = σ.n
  get : ∀ i, a.tmps.getD i undef = if i < σ.n then look σ i else undef
  defers : a.defers = ds

theorem set_n (σ : Env) (t : Nat) (v : Value) : (set σ t v).n = σ.n := by
  unfold set; cases Nat.blt t σ.n <;> rfl
theorem put_n (σ : Env) (d : Option Nat) (v : Value) : (put σ d v).n = σ.n := by
  cases d with
  | none => rfl
  | some t => exact set_n σ t v
theorem look_set (σ : Env) (t : Nat) (v : Value) (i : Nat) (ht : t < σ.n) : look (set σ t v) i = if t = i then v else look σ i := by
  unfold set
  rw [blt_t ht]
  exact lookL_setL _ _ _ _ _
theorem Rel.put {σ : Env} {ds : List Deferred} {a : Act} (h : Rel σ ds a) (d : Option Nat) (v : Value) : Rel (V.put σ d v) ds (a.put d v) := by
  cases d with
  | none => exact h
  | some t =>
    refine ⟨by simp only [Act.put, Array.size_setIfInBounds, V.put, set_n]; exact h.size, fun i => ?_, h.defers⟩
    simp only [Act.put, V.put, set_n]
    by_cases ht : t < σ.n
    · rw [look_set σ t v i ht]
      by_cases hi : t = i
      · subst hi
        have : t < a.tmps.size := by rw [h.size]; exact ht
        simp [this, ht]
      · have := h.get i
        simp only [Array.getD_eq_getD_getElem?] at this ⊢
        rw [Array.getElem?_setIfInBounds_ne hi, this, if_neg hi]
    · have hs : V.set σ t v = σ := by unfold V.set; rw [blt_f ht]
      have ha : a.tmps.setIfInBounds t v = a.tmps := by
        apply Array.ext_getElem?
        intro j
        have : ¬ t < a.tmps.size := by rw [h.size]; exact ht
        simp [Array.getElem?_setIfInBounds, this]
        omega
      rw [hs, ha]; exact h.get i

def opOk (n : Nat) : Operand → Bool
  | .tmp t => Nat.blt t n
  | _ => true
def evK (σ : Env) (x : Operand) (k : Value → Prop) : Prop :=
  match x with
  | .tmp t => match Nat.blt t σ.n with | true => getK σ t k | false => False
  | .const v => k v
  | .global g => k (.pointer (some ⟨g, 0, none⟩))
  | .func f => k (.func (.func f) #[] #[])
theorem evK_spec {σ : Env} {ds : List Deferred} {a : Act} (hr : Rel σ ds a) {x : Operand} {k : Value → Prop} (h : evK σ x k) : k (a.eval x) := by
  cases x with
  | tmp t =>
    simp only [evK] at h
    cases hb : Nat.blt t σ.n with
    | false => rw [hb] at h; exact h.elim
    | true =>
      rw [hb] at h
      have := getK_iff.1 h
      simp only [Act.eval]
      rw [hr.get t, if_pos (of_blt hb)]
      exact this
  | const v => exact h
  | global g => exact h
  | func f => exact h
def evsK (σ : Env) : List Operand → (List Value → Prop) → Prop
  | [], k => k []
  | x :: r, k => evK σ x fun v => evsK σ r fun vs => k (v :: vs)
theorem evsK_spec {σ : Env} {ds : List Deferred} {a : Act} (hr : Rel σ ds a) (xs : List Operand) : ∀ {k : List Value → Prop}, evsK σ xs k → k (xs.map a.eval) := by
  induction xs with
  | nil => exact fun h => h
  | cons x r ih => exact fun h => ih (evK_spec hr h)

/-! ### the table of types -/
structure TI where
  desc : TypeDesc
  size : Nat
  bytes : Nat
  zero : Option Value
inductive Tb where
  | nil
  | node (l : Tb) (k : Nat) (v : TI) (r : Tb)
def Tb.getK : Tb → Nat → (TI → Prop) → Prop
  | .nil, _, _ => False
  | .node l k v r, t, f => match Nat.beq t k with
    | true => f v
    | false => match Nat.blt t k with
      | true => l.getK t f
      | false => r.getK t f
def Tb.toList : Tb → List (Nat × TI)
  | .nil => []
  | .node l k v r => l.toList ++ (k, v) :: r.toList
def tiOf (P : Program) (t : TypeId) : Option TI :=
  match P.underlying t, P.info? t with
  | some d, some i => some { desc := d, size := i.size, bytes := i.bytes, zero := i.zero }
  | _, _ => none
def TbOk (P : Program) (tb : Tb) : Prop := tb.toList.map (fun p => tiOf P p.1) = tb.toList.map (fun p => some p.2)
theorem Tb.getK_mem {tb : Tb} {t : Nat} {f : TI → Prop} (h : tb.getK t f) : ∃ v, (t, v) ∈ tb.toList ∧ f v := by
  induction tb with
  | nil => exact h.elim
  | node l k v r ihl ihr =>
    simp only [Tb.getK] at h
    cases hb : Nat.beq t k with
    | true => rw [hb] at h; exact ⟨v, by rw [Nat.eq_of_beq_eq_true hb]; simp [Tb.toList], h⟩
    | false =>
      rw [hb] at h
      simp only [] at h
      cases hl : Nat.blt t k with
      | true => rw [hl] at h; obtain ⟨x, hx, hf⟩ := ihl h; exact ⟨x, by simp [Tb.toList, hx], hf⟩
      | false => rw [hl] at h; obtain ⟨x, hx, hf⟩ := ihr h; exact ⟨x, by simp [Tb.toList, hx], hf⟩
theorem map_eq_mem {α β : Type} {f g : α → β} : ∀ {l : List α}, l.map f = l.map g → ∀ x ∈ l, f x = g x
  | _ :: _, h, x, hx => by
    simp only [List.map_cons, List.cons.injEq] at h
    cases hx with
    | head => exact h.1
    | tail _ hm => exact map_eq_mem h.2 x hm
structure TyIs (P : Program) (t : TypeId) (ti : TI) : Prop where
  und : P.underlying t = some ti.desc
  info : ∃ i, P.info? t = some i ∧ i.size = ti.size ∧ i.bytes = ti.bytes ∧ i.zero = ti.zero
theorem tiOf_spec {P : Program} {t : TypeId} {ti : TI} (h : tiOf P t = some ti) : TyIs P t ti := by
  unfold tiOf at h
  cases hu : P.underlying t with
  | none => rw [hu] at h; simp at h
  | some d =>
    cases hi : P.info? t with
    | none => rw [hu, hi] at h; simp at h
    | some i =>
      rw [hu, hi] at h
      simp only [Option.some.injEq] at h
      subst h
      exact ⟨hu, i, hi, rfl, rfl, rfl⟩
theorem Tb.get_ty {P : Program} {tb : Tb} (hok : TbOk P tb) {t : Nat} {f : TI → Prop} (h : tb.getK t f) : ∃ ti, TyIs P t ti ∧ f ti := by
  obtain ⟨v, hv, hf⟩ := Tb.getK_mem h
  exact ⟨v, tiOf_spec (map_eq_mem hok (t, v) hv), hf⟩

end Go.V
