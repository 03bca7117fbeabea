/-
  V5: loops.
-/
import Derived.Test.YtpeihahmhpamoaaGreatV4
set_option linter.all false
namespace Go.V
open Go

variable {P : Program} {tb : Tb} {ρ : Option Nat}

def elemN (i : Nat) : List Nat → Bool
  | [] => false
  | j :: r => match Nat.beq i j with | true => true | false => elemN i r
theorem elemN_iff {i : Nat} {l : List Nat} : elemN i l = true ↔ i ∈ l := by
  induction l with
  | nil => simp [elemN]
  | cons j r ih =>
    simp only [elemN, List.mem_cons]
    by_cases h : i = j
    · subst h; rw [beq_t]; simp
    · rw [beq_f h]; simp [h, ih]

def opDsts : List Oper → List Nat
  | [] => []
  | o :: r => match o.dst with | some d => d :: opDsts r | none => opDsts r
/-- The slots that a piece of code writes. -/
def dsts : Code → List Nat
  | .region _ ops _ => opDsts ops.toList
  | .seq a b => dsts a ++ dsts b
  | .cond _ a b => dsts a ++ dsts b
  | .block _ c => dsts c
  | .loop c => dsts c
  | .scope c => dsts c
  | _ => []

def filtK (M : List Nat) : Ov → (Ov → Prop) → Prop
  | [], k => k []
  | (i, v) :: r, k => match elemN i M with
    | true => filtK M r k
    | false => filtK M r fun r' => k ((i, v) :: r')
def filt (M : List Nat) : Ov → Ov
  | [] => []
  | (i, v) :: r => match elemN i M with
    | true => filt M r
    | false => (i, v) :: filt M r
theorem filtK_iff {M : List Nat} (l : Ov) : ∀ {k : Ov → Prop}, filtK M l k ↔ k (filt M l) := by
  induction l with
  | nil => exact Iff.rfl
  | cons p r ih =>
    obtain ⟨i, v⟩ := p
    intro k
    simp only [filtK, filt]
    cases elemN i M
    · exact ih
    · exact ih
def appK : Ov → Ov → (Ov → Prop) → Prop
  | [], b, k => k b
  | p :: r, b, k => appK r b fun r' => k (p :: r')
theorem appK_iff (a b : Ov) : ∀ {k : Ov → Prop}, appK a b k ↔ k (a ++ b) := by
  induction a with
  | nil => exact Iff.rfl
  | cons p r ih => intro k; exact ih
def havK (S : List Nat) (u : Nat → Value) : List Nat → (Ov → Prop) → Prop
  | [], k => k []
  | i :: r, k => match elemN i S with
    | true => havK S u r k
    | false => havK (i :: S) u r fun r' => k ((i, u i) :: r')
def hav (S : List Nat) (u : Nat → Value) : List Nat → Ov
  | [] => []
  | i :: r => match elemN i S with
    | true => hav S u r
    | false => (i, u i) :: hav (i :: S) u r
theorem havK_iff {u : Nat → Value} (l : List Nat) : ∀ {S : List Nat} {k : Ov → Prop}, havK S u l k ↔ k (hav S u l) := by
  induction l with
  | nil => exact Iff.rfl
  | cons i r ih =>
    intro S k
    simp only [havK, hav]
    cases elemN i S
    · exact ih
    · exact ih
def zipK : List Nat → List Value → (Ov → Prop) → Prop
  | [], _, k => k []
  | _ :: _, [], _ => False
  | i :: is, v :: vs, k => zipK is vs fun r => k ((i, v) :: r)
theorem zipK_spec : ∀ (S : List Nat) (vs : List Value) {k : Ov → Prop}, zipK S vs k ↔ (S.length ≤ vs.length ∧ k (S.zip vs)) := by
  intro S
  induction S with
  | nil => intro vs k; simp [zipK]
  | cons i is ih =>
    intro vs k
    cases vs with
    | nil => simp [zipK]
    | cons v vs => simp [zipK, ih]
def getsK (σ : Env) : List Nat → (List Value → Prop) → Prop
  | [], k => k []
  | i :: is, k => getK σ i fun v => getsK σ is fun vs => k (v :: vs)
theorem getsK_iff {σ : Env} : ∀ (S : List Nat) {k : List Value → Prop}, getsK σ S k ↔ k (S.map (look σ)) := by
  intro S
  induction S with
  | nil => intro k; exact Iff.rfl
  | cons i is ih => intro k; exact getK_iff.trans ih

/-- the frame at the loop's head -/
def headK (M S : List Nat) (vals : List Value) (u : Nat → Value) (n : Nat) (fx : Ov) (k : Env → Prop) : Prop :=
  zipK S vals fun z => havK S u M fun h => appK z h fun ov => k ⟨n, fx, ov⟩

theorem lookL_app (a b : Ov) (i : Nat) (d : Value) : lookL (a ++ b) i d = lookL a i (lookL b i d) := by
  induction a with
  | nil => rfl
  | cons p r ih =>
    obtain ⟨j, v⟩ := p
    simp only [List.cons_append, lookL]
    cases Nat.beq j i
    · exact ih
    · rfl
theorem lookL_filt (M : List Nat) (l : Ov) (i : Nat) (d : Value) (h : i ∉ M) : lookL (filt M l) i d = lookL l i d := by
  induction l with
  | nil => rfl
  | cons p r ih =>
    obtain ⟨j, v⟩ := p
    simp only [filt]
    cases he : elemN j M with
    | true =>
      have hj : j ≠ i := fun e => h (e ▸ elemN_iff.1 he)
      simp only [lookL, beq_f hj]
      exact ih
    | false =>
      simp only [lookL]
      cases Nat.beq j i
      · exact ih
      · rfl
theorem lookL_hav (u : Nat → Value) (i : Nat) (d : Value) : ∀ (l S : List Nat), lookL (hav S u l) i d = if i ∈ l ∧ i ∉ S then u i else d := by
  intro l
  induction l with
  | nil => intro S; simp [hav, lookL]
  | cons j r ih =>
    intro S
    simp only [hav]
    cases he : elemN j S with
    | true =>
      have hj := elemN_iff.1 he
      simp only [ih, List.mem_cons]
      by_cases hij : i = j
      · subst hij; simp [hj]
      · simp [hij]
    | false =>
      have hj : j ∉ S := fun hm => by rw [elemN_iff.2 hm] at he; cases he
      simp only [lookL]
      by_cases hij : j = i
      · subst hij; rw [beq_t]; simp [hj]
      · rw [beq_f hij, ih]
        have : i ≠ j := fun e => hij e.symm
        simp [this]
theorem lookL_zip_map (f : Nat → Value) (i : Nat) (d : Value) : ∀ (S : List Nat), lookL (S.zip (S.map f)) i d = if i ∈ S then f i else d := by
  intro S
  induction S with
  | nil => simp [lookL]
  | cons j r ih =>
    simp only [List.map_cons, List.zip_cons_cons, lookL]
    by_cases hij : j = i
    · subst hij; rw [beq_t]; simp
    · rw [beq_f hij, ih]
      have : i ≠ j := fun e => hij e.symm
      simp [this]

def subB : Ov → List Nat → Bool
  | [], _ => true
  | (i, _) :: r, M => match elemN i M with | true => subB r M | false => false
theorem subB_spec {M : List Nat} {i : Nat} {d : Value} (hi : i ∉ M) : ∀ (l : Ov), subB l M = true → lookL l i d = d := by
  intro l
  induction l with
  | nil => exact fun _ => rfl
  | cons p r ih =>
    obtain ⟨j, v⟩ := p
    intro h
    simp only [subB] at h
    cases he : elemN j M with
    | false => rw [he] at h; cases h
    | true =>
      rw [he] at h
      have hj : j ≠ i := fun e => hi (e ▸ elemN_iff.1 he)
      simp only [lookL, beq_f hj]
      exact ih h

/-- The end of a round: the slots that no code of the loop writes are as they were; the user's slots are handed on. -/
structure EndR (M : List Nat) (n : Nat) (fx : Ov) (S : List Nat) (σ : Env) (R : List Value → Prop) : Prop where
  n : σ.n = n
  fx : σ.fx = fx
  sub : subB σ.ov M = true
  vals : getsK σ S R

def head (M S : List Nat) (vals : List Value) (u : Nat → Value) (n : Nat) (fx : Ov) : Env := ⟨n, fx, S.zip vals ++ hav S u M⟩
theorem headK_spec {M S : List Nat} {vals : List Value} {u : Nat → Value} {n : Nat} {fx : Ov} {k : Env → Prop} (h : headK M S vals u n fx k) : k (head M S vals u n fx) := by
  have h1 := ((zipK_spec S vals).1 h).2
  exact (appK_iff _ _).1 ((havK_iff _).1 h1)

theorem Rel.head {M S : List Nat} {n : Nat} {fx : Ov} {σ : Env} {ds : List Deferred} {a : Act} (hr : Rel σ ds a) (hn : σ.n = n)
    (hfx : ∀ i, i ∉ M → i ∉ S → look σ i = lookL fx i undef) : Rel (head M S (S.map (look σ)) (look σ) n fx) ds a := by
  refine ⟨by rw [hr.size, hn]; rfl, fun i => ?_, hr.defers⟩
  rw [hr.get i]
  show _ = if i < n then _ else _
  rw [hn]
  congr 1
  show look σ i = lookL (S.zip (S.map (look σ)) ++ hav S (look σ) M) i (lookL fx i undef)
  rw [lookL_app, lookL_zip_map, lookL_hav]
  by_cases h1 : i ∈ S
  · rw [if_pos h1]
  · rw [if_neg h1]
    by_cases h2 : i ∈ M
    · rw [if_pos ⟨h2, h1⟩]
    · rw [if_neg (fun h => h2 h.1), hfx i h2 h1]

/-- Behind a loop the slots that no code of the loop writes are given back. -/
structure FxEq (a b : Ov) (A : Prop) : Prop where
  eq : a = b
  a : A
theorem Rel.restore {n : Nat} {fx f : Ov} {σ : Env} {ds : List Deferred} {a : Act} (hr : Rel σ ds a) (hfx : σ.fx = f ++ fx) : Rel ⟨σ.n, fx, σ.ov ++ f⟩ ds a := by
  refine ⟨hr.size, fun i => ?_, hr.defers⟩
  rw [hr.get i]
  congr 1
  show lookL σ.ov i (lookL σ.fx i undef) = lookL (σ.ov ++ f) i (lookL fx i undef)
  rw [hfx, lookL_app, lookL_app]

/-- A LOOP. S: the slots of which the invariant speaks; X: what they, and the memory, are told by. -/
theorem loop_rule (hok : TbOk P tb) {c : Code} {σ : Env} {ds : List Deferred} {w : World} {Q : Post} (X : Type) (S : List Nat) (val : X → List Value) (wd : X → World → Prop) (μ : X → Nat) (x0 : X)
    (hS : getsK σ S fun vs => vs = val x0) (h0 : wd x0 w)
    (round : ∀ x w', wd x w' → ∀ u : Nat → Value, filtK (dsts c ++ S) σ.ov fun f => appK f σ.fx fun fx => headK (dsts c) S (val x) u σ.n fx fun σ' =>
      vCode P tb ρ c σ' ds w' (thenQ (fun σ'' ds'' w'' => ds'' = ds ∧ EndR (dsts c ++ S) σ.n fx S σ'' fun vs => ∃ x', vs = val x' ∧ wd x' w'' ∧ μ x' < μ x) fun e σ'' ds'' w'' => FxEq σ''.fx fx (appK σ''.ov f fun ov => Q e ⟨σ''.n, σ.fx, ov⟩ ds'' w''))) :
    CodeA P tb ρ (.loop c) σ ds w Q := by
  refine ⟨fun a hr => ?_⟩
  have hfx : ∀ i, i ∉ dsts c ++ S → look σ i = lookL (filt (dsts c ++ S) σ.ov ++ σ.fx) i undef := by
    intro i hi
    rw [lookL_app, lookL_filt _ _ _ _ hi]
    rfl
  have key : ∀ (j : Nat) (x : X) (a : Act) (w' : World), μ x = j → (∃ u, Rel (V.head (dsts c) S (val x) u σ.n (filt (dsts c ++ S) σ.ov ++ σ.fx)) ds a) → wd x w' →
      ∀ (b : Frame) (k : List Item) (cs : List Frame), b.roundOf = (fen ρ).round → ∃ e a' w'', QA Q e a' w'' ∧ ArrivesIn (Machine.fenced P (fen ρ)) P (lone (b.atR a (.code c :: .inLoop c :: k)) cs w') b k cs e a' w'' := by
    intro j
    induction j using Nat.strongRecOn with
    | _ j ih =>
      intro x a w' hj hrel hwd b k cs hro
      obtain ⟨u, hrel⟩ := hrel
      have hv := headK_spec ((appK_iff _ _).1 ((filtK_iff _).1 (round x w' hwd u)))
      have hwp := vCode_sound (ρ := ρ) hok c _ _ _ _ a hrel hv
      have hr0 : ∀ q, (fen ρ).room q := fun q d hd => by simp [fen, Fence.wide] at hd
      obtain ⟨e, a₁, w₁, hq, harr⟩ := hwp b (.inLoop c :: k) cs hro trivial (hr0 _)
      have fin : ∀ e : Exit, (∃ σ'' ds'', Rel σ'' ds'' a₁ ∧ FxEq σ''.fx (filt (dsts c ++ S) σ.ov ++ σ.fx) (appK σ''.ov (filt (dsts c ++ S) σ.ov) fun ov => Q e ⟨σ''.n, σ.fx, ov⟩ ds'' w₁)) → ∃ σ'' ds'', Rel σ'' ds'' a₁ ∧ Q e σ'' ds'' w₁ := by
        rintro e ⟨σ'', ds'', hr'', hf, hq⟩
        exact ⟨_, ds'', Rel.restore (n := σ.n) hr'' hf, (appK_iff _ _).1 hq⟩
      cases e with
      | normal =>
        obtain ⟨σ'', ds'', hr'', hds, hend⟩ := hq
        subst hds
        obtain ⟨x', hvals, hwd', hlt⟩ := (getsK_iff S).1 hend.vals
        have hrel' : Rel (V.head (dsts c) S (val x') (look σ'') σ.n (filt (dsts c ++ S) σ.ov ++ σ.fx)) ds'' a₁ := by
          rw [← hvals]
          refine Rel.head hr'' hend.n fun i h1 h2 => ?_
          unfold look
          rw [subB_spec (by simp [h1, h2]) _ hend.sub, hend.fx]
        obtain ⟨e₂, a₂, w₂, hq₂, harr₂⟩ := ih (μ x') (hj ▸ hlt) x' a₁ w₁ rfl ⟨_, hrel'⟩ hwd' b k cs hro
        exact ⟨e₂, a₂, w₂, hq₂, .of_steps (StepsIn.trans harr (.one (fenced_calm (n := 0) trivial (hr0 _) rfl) stepR_inLoop)) harr₂⟩
      | exit id => exact ⟨.exit id, a₁, w₁, fin _ hq, .pass (x := .inLoop c) rfl (fun _ _ => .inl (by simp)) harr⟩
      | goto l => exact ⟨.goto l, a₁, w₁, fin _ hq, .pass (x := .inLoop c) rfl (fun _ _ => .inl (by simp)) harr⟩
      | ret => exact ⟨.ret, a₁, w₁, fin _ hq, .pass (x := .inLoop c) rfl (fun _ _ => .inl (by simp)) harr⟩
      | panic ch => exact hq.elim
      | outgrown => exact hq.elim
  intro b k cs hro hb hroom
  have hrel0 : Rel (V.head (dsts c) S (val x0) (look σ) σ.n (filt (dsts c ++ S) σ.ov ++ σ.fx)) ds a := by
    have hvals := (getsK_iff S).1 hS
    rw [← hvals]
    exact Rel.head hr rfl fun i h1 h2 => hfx i (by simp [h1, h2])
  obtain ⟨e, a', w', hq, harr⟩ := key _ x0 a w rfl ⟨_, hrel0⟩ h0 b k cs hro
  exact ⟨e, a', w', hq, .of_steps (.one (fenced_calm hb hroom rfl) stepR_loop) harr⟩

/-! ### scopes of labels -/
theorem stepR_scope {b : Frame} {a : Act} {k : List Item} {cs : List Frame} {w : World} {c : Code} :
    step P (lone (b.atR a (.code (.scope c) :: k)) cs w) = .next (lone (b.atR a (.code c :: .inScope c :: k)) cs w) :=
  step_lone_go (by simp [stepG, stepG.exec, Frame.atR])
theorem stepR_inScope {b : Frame} {a : Act} {k : List Item} {cs : List Frame} {w : World} {c : Code} :
    step P (lone (b.atR a (.inScope c :: k)) cs w) = .next (lone (b.atR a k) cs w) :=
  step_lone_go (by simp [stepG, stepG.exec, Frame.atR])
def noGoto (Q : Post) : Post := fun e σ ds w => match e with
  | .goto _ => False
  | e => Q e σ ds w
/-- A scope whose code jumps to no label. -/
theorem scope_rule (hok : TbOk P tb) {c : Code} {σ : Env} {ds : List Deferred} {w : World} {Q : Post} (h : vCode P tb ρ c σ ds w (noGoto Q)) : CodeA P tb ρ (.scope c) σ ds w Q := by
  refine ⟨fun a hr => ?_⟩
  intro b k cs hro hb hroom
  have hr0 : ∀ q, (fen ρ).room q := fun q d hd => by simp [fen, Fence.wide] at hd
  obtain ⟨e, a₁, w₁, hq, harr⟩ := vCode_sound (ρ := ρ) hok c _ _ _ _ a hr h b (.inScope c :: k) cs hro trivial (hr0 _)
  cases e with
  | normal => exact ⟨.normal, a₁, w₁, hq, StepsIn.trans (.one (fenced_calm hb hroom rfl) stepR_scope) (StepsIn.trans harr (.one (fenced_calm (n := 0) trivial (hr0 _) rfl) stepR_inScope))⟩
  | exit id => exact ⟨.exit id, a₁, w₁, hq, .of_steps (.one (fenced_calm hb hroom rfl) stepR_scope) ⟨fun k' hk => harr.1 k' (by simpa [exitTo] using hk), fun hr hk => harr.2 hr (by simpa [exitTo] using hk)⟩⟩
  | goto l => obtain ⟨_, _, _, hf⟩ := hq; exact hf.elim
  | ret => exact ⟨.ret, a₁, w₁, hq, .of_steps (.one (fenced_calm hb hroom rfl) stepR_scope) harr⟩
  | panic ch => exact hq.elim
  | outgrown => exact hq.elim
end Go.V
