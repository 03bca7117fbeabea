/-
  V8: ranges over functions.
-/
import Derived.Test.YtpeihahmhpamoaaGreatV7
import Derived.RangeFuncRecord
set_option linter.all false
namespace Go.V
open Go
open Go.RowKit (Below)

variable {P : Program} {tb : Tb}

def isCM : Obj → Bool
  | .cells .. => true
  | .map .. => true
  | _ => false
/-- Cells and maps, and what lies below N, are as they were. -/
structure St (N : Nat) (u u' : World) : Prop where
  below : Below N u u'
  cm : ∀ (k : Nat) (o : Obj), u.heap[k]? = some o → isCM o = true → u'.heap[k]? = some o
/-- What is neither cells nor a map is as it was. -/
structure KO (u u' : World) : Prop where
  size : u.heap.size ≤ u'.heap.size
  ko : ∀ (k : Nat) (o : Obj), u.heap[k]? = some o → isCM o = false → u'.heap[k]? = some o
theorem KO.refl (u : World) : KO u u := ⟨Nat.le_refl _, fun _ _ h _ => h⟩
theorem KO.trans {a b c : World} (h : KO a b) (k : KO b c) : KO a c := ⟨Nat.le_trans h.size k.size, fun i o hi ho => k.ko i o (h.ko i o hi ho) ho⟩
theorem KO.ex {u u' : World} (e : Ex u u') : KO u u' := ⟨e.size, fun k o hk _ => by rw [e.block k (Array.getElem?_eq_some_iff.1 hk).1]; exact hk⟩
theorem KO.upd {u u' : World} {b T : Nat} {cs : List Value} (e : Upd u u' b) (hb : Blk u b cs T) : KO u u' := ⟨by rw [e.size]; exact Nat.le_refl _, fun k o hk ho => by
  by_cases h : k = b
  · subst h; unfold Blk at hb; rw [hb] at hk; cases hk; cases ho
  · rw [e.other k h]; exact hk⟩
theorem KO.grown {u u' : World} {row : Option Nat} (e : u.grownBy u' row) (hrow : ∀ (k : Nat), row = some k → ∃ o : Obj, u.heap[k]? = some o ∧ isCM o = true) : KO u u' := ⟨e.size, fun k o hk ho => by
  by_cases h : some k = row
  · obtain ⟨o', ho', hc⟩ := hrow k h.symm
    rw [hk] at ho'; cases ho'; rw [ho] at hc; cases hc
  · rw [e.block k (Array.getElem?_eq_some_iff.1 hk).1 h]; exact hk⟩
theorem St.refl (N : Nat) (u : World) : St N u u := ⟨Below.refl _ _, fun _ _ h _ => h⟩
theorem St.trans {N : Nat} {a b c : World} (h : St N a b) (k : St N b c) : St N a c := ⟨h.below.trans k.below, fun i o hi ho => k.cm i o (h.cm i o hi ho) ho⟩
theorem St.ex {N : Nat} {u u' : World} (e : Ex u u') (h : N ≤ u.heap.size) : St N u u' := ⟨e.mono h, fun k o hk _ => by rw [e.block k (Array.getElem?_eq_some_iff.1 hk).1]; exact hk⟩
theorem St.put {N l : Nat} {u : World} {o o' : Obj} (hl : u.heap[l]? = some o) (ho : isCM o = false) (hN : N ≤ l) : St N u (u.putObj l o') :=
  ⟨⟨rfl, rfl, rfl, by simp, fun k hk => World.putObj_heap_other (by omega)⟩, fun k x hk hx => by
    have : k ≠ l := fun e => by subst e; rw [hl] at hk; cases hk; rw [ho] at hx; cases hx
    rw [World.putObj_heap_other this]; exact hk⟩
theorem St.blk {N : Nat} {u u' : World} {b T : Nat} {cs : List Value} (h : St N u u') (hb : Blk u b cs T) : Blk u' b cs T := h.cm b _ hb rfl
theorem St.cell {N : Nat} {u u' : World} {a : Addr} {v : Value} (h : St N u u') (hc : u.cell? a = some v) : u'.cell? a = some v := by
  unfold World.cell? at *
  cases hb : u.heap[a.block]? with
  | none => rw [hb] at hc; cases hc
  | some o =>
    rw [hb] at hc
    cases o <;> try (simp at hc; done)
    rw [h.cm _ _ hb rfl]; exact hc
theorem St.row {N : Nat} {u u' : World} {base : Option Addr} {cs : List Value} (h : St N u u') (hr : Row u base cs) : Row u' base cs :=
  ⟨fun hn => by obtain ⟨b, o, hb, hc⟩ := hr.at_ hn; exact ⟨b, o, hb, fun j x hj => h.cell (hc j x hj)⟩⟩
theorem St.owns {N : Nat} {u u' : World} {B T sz n : Nat} {v : Value} {cs : List Value} (h : St N u u') (hr : u.ownsRow B T sz v n cs) : u'.ownsRow B T sz v n cs := by
  refine ⟨hr.1, ?_⟩
  rcases hr.2 with h1 | ⟨g, cap, cur, h1, h2, h3, h4⟩
  · exact .inl h1
  · exact .inr ⟨g, cap, cur, h1, h2, h.cm _ _ h3 rfl, h4⟩

/-- THE CONTRACT OF AN ITERATOR: called with the loop's body it hands it xs, one by one, for as long as the body says 'true'. -/
def Iter (P : Program) (gf : FuncId) (mk : Value → List Value) (xs : List (List Value)) (I : World → Prop) : Prop :=
  ∀ (l : Nat) (J : Nat → World → Prop) (Jx : World → Prop),
    (∀ i u u', J i u → Ex u u' → J i u') → (∀ u u', Jx u → Ex u u' → Jx u') →
    (∀ i (hi : i < xs.length) u, J i u → I u → YieldA P l xs[i] u fun v u' => (v = .bool true ∧ J (i + 1) u' ∧ I u') ∨ (v = .bool false ∧ Jx u')) →
    ∀ u, J 0 u → I u → CallA P gf (mk (.func (.yield l) #[] #[])) u fun _ u' => J xs.length u' ∨ Jx u'

/-- The same; what is handed over is told by G. -/
def IterG (P : Program) (gf : FuncId) (mk : Value → List Value) (n : Nat) (G : Nat → List Value → World → Prop) (I : World → Prop) : Prop :=
  ∀ (l : Nat) (J : Nat → World → Prop) (Jx : World → Prop),
    (∀ i u u', J i u → Ex u u' → J i u') → (∀ u u', Jx u → Ex u u' → Jx u') →
    (∀ i vs (_ : i < n) u, G i vs u → J i u → I u → YieldA P l vs u fun v u' => (v = .bool true ∧ J (i + 1) u' ∧ I u') ∨ (v = .bool false ∧ Jx u')) →
    ∀ u, J 0 u → I u → CallA P gf (mk (.func (.yield l) #[] #[])) u fun _ u' => J n u' ∨ Jx u'
theorem Iter.toG {gf : FuncId} {mk : Value → List Value} {xs : List (List Value)} {I : World → Prop} (h : Iter P gf mk xs I) : IterG P gf mk xs.length (fun i vs _ => xs[i]? = some vs) I := by
  intro l J Jx h1 h2 h3 u h4 h5
  exact h l J Jx h1 h2 (fun i hi u hJ hI => h3 i _ hi u (List.getElem?_eq_getElem hi) hJ hI) u h4 h5

def paramsK : List Nat → List Value → Env → (Env → Prop) → Prop
  | t :: ts, v :: vs, σ, k => setK σ t v fun σ' => paramsK ts vs σ' k
  | [], [], σ, k => k σ
  | _, _, _, _ => False
theorem paramsK_spec : ∀ (ts : List Nat) (vs : List Value) {σ : Env} {ds : List Deferred} {a : Act} {k : Env → Prop}, Rel σ ds a → paramsK ts vs σ k →
    ts.length = vs.length ∧ ∃ σ', Rel σ' ds { a with tmps := (ts.zip vs).foldl (fun tmps (p : Nat × Value) => tmps.setIfInBounds p.1 p.2) a.tmps } ∧ k σ' := by
  intro ts
  induction ts with
  | nil =>
    intro vs σ ds a k hr h
    cases vs with
    | nil => exact ⟨rfl, σ, hr, h⟩
    | cons v vs => exact h.elim
  | cons t ts ih =>
    intro vs σ ds a k hr h
    cases vs with
    | nil => exact h.elim
    | cons v vs =>
      have h := setK_iff.1 h
      obtain ⟨hl, σ', hr', hk⟩ := ih vs (hr.put (some t) v) h
      exact ⟨by simp [hl], σ', hr', hk⟩

def bodyPostR (J : Nat → World → Prop) (I : World → Prop) (Jx : Code → World → Prop) (i : Nat) (u : World) : Post := fun e _ _ u' => match e with
  | .normal => KO u u' ∧ J (i + 1) u' ∧ I u'
  | .ret => KO u u' ∧ Jx .ret u'
  | .exit id => KO u u' ∧ Jx (.exit id) u'
  | _ => False

theorem range_ruleG (hok : TbOk P tb) {g : Operand} {ps : Array Tmp} {as b : Code} {σ : Env} {ds : List Deferred} {w : World} {Q : Post} {gf : FuncId} {first cap : Array Value}
    (hg : evK σ g fun v => v = .func (.func gf) first cap)
    (n : Nat) (G : Nat → List Value → World → Prop) (I : World → Prop) (hit : IterG P gf (fun y => first.toList ++ [y] ++ cap.toList) n G I)
    (J : Nat → World → Prop) (Jx : Code → World → Prop)
    (hI : ∀ u u', I u → St w.heap.size u u' → I u') (hJ : ∀ i u u', J i u → St w.heap.size u u' → J i u') (hJx : ∀ c u u', Jx c u → St w.heap.size u u' → Jx c u')
    (h0 : J 0 w ∧ I w)
    (hsz : ∀ i u, J i u → w.heap.size ≤ u.heap.size) (hszx : ∀ c u, Jx c u → w.heap.size ≤ u.heap.size)
    (round : ∀ i vs (_ : i < n) l u, G i vs u → J i u → I u → paramsK ps.toList vs σ fun σ1 => vCode P tb (some l) as { σ1 with n := σ1.n } [] u fun e σ2 ds2 u2 => match e with
      | .normal => ds2 = [] ∧ KO u u2 ∧ w.heap.size ≤ u2.heap.size ∧ ∀ u3, St w.heap.size u2 u3 → vCode P tb (some l) b σ2 [] u3 (bodyPostR J I Jx i u3)
      | _ => False)
    (done : ∀ r u, J n u → w.heap.size ≤ r → u.heap[r]? = some (.deferred (some [])) → Q .normal σ ({ target := .collected r, args := #[] } :: ds) u)
    (left : ∀ r c u, Jx c u → w.heap.size ≤ r → u.heap[r]? = some (.deferred (some [])) → vCode P tb none c σ ({ target := .collected r, args := #[] } :: ds) u Q) :
    CodeA P tb none (.rangeFunc g ps as b) σ ds w Q := by
  refine ⟨fun a hr => wpIn_rangeFunc fun fn _ => ?_⟩
  have hgv : a.eval g = .func (.func gf) first cap := evK_spec hr hg
  let r := w.heap.size
  let l := w.heap.size + 1
  let rec0 : Loop := { state := .ready, pending := none, fn := fn, tmps := a.tmps, params := ps, assign := as, body := b, defers := r }
  let w1 := (w.alloc (.deferred (some []))).alloc (.loop rec0)
  have hex : Ex w w1 := (Ex.tr (new_alloc w _).ex (new_alloc _ _).ex)
  have hl1 : w1.heap[l]? = some (.loop rec0) := by
    have := (new_alloc (w.alloc (.deferred (some []))) (.loop rec0)).at_
    rwa [World.size_alloc] at this
  have hr1 : w1.heap[r]? = some (.deferred (some [])) := by
    have := (new_alloc w (.deferred (some []))).at_
    rw [(new_alloc (w.alloc (.deferred (some []))) (.loop rec0)).ex.block r (by rw [World.size_alloc]; exact Nat.lt_succ_self _)]
    exact this
  -- the iterator's J
  let JJ : Nat → World → Prop := fun i u => u.heap[l]? = some (.loop rec0) ∧ u.heap[r]? = some (.deferred (some [])) ∧ J i u
  let JX : World → Prop := fun u => ∃ c, (c = .ret ∨ ∃ id, c = .exit id) ∧ u.heap[l]? = some (.loop { rec0 with state := .done, pending := some c }) ∧ u.heap[r]? = some (.deferred (some [])) ∧ Jx c u
  have lt : ∀ {u : World} {k : Nat} {o : Obj}, u.heap[k]? = some o → k < u.heap.size := fun h => (Array.getElem?_eq_some_iff.1 h).1
  have hcall : CallA P gf (first.toList ++ [.func (.yield l) #[] #[]] ++ cap.toList) w1 fun _ u' => JJ n u' ∨ JX u' := by
    refine hit l JJ JX ?_ ?_ ?_ w1 ⟨hl1, hr1, hJ 0 _ _ h0.1 (St.ex hex (Nat.le_refl _))⟩ (hI _ _ h0.2 (St.ex hex (Nat.le_refl _)))
    · rintro i u u' ⟨h1, h2, h3⟩ e
      exact ⟨by rw [e.block _ (lt h1)]; exact h1, by rw [e.block _ (lt h2)]; exact h2, hJ i _ _ h3 (St.ex e (hsz _ _ h3))⟩
    · rintro u u' ⟨c, hc, h1, h2, h3⟩ e
      exact ⟨c, hc, by rw [e.block _ (lt h1)]; exact h1, by rw [e.block _ (lt h2)]; exact h2, hJx c _ _ h3 (St.ex e (hszx _ _ h3))⟩
    · rintro i vs hi u hGu ⟨h1, h2, h3⟩ hIu
      have hround := round i vs hi l u hGu h3 hIu
      have hr0 : Rel σ [] { a with defers := [] } := ⟨hr.size, hr.get, rfl⟩
      obtain ⟨hlen, σ1, hr1', hround⟩ := paramsK_spec ps.toList vs hr0 hround
      refine ⟨?_⟩
      have hs : vs.toArray.size = rec0.params.size := by simp only [List.size_toArray]; exact hlen.symm.trans (by simp [rec0])
      unfold OpRes
      rw [run_yield h1 hs]
      simp only []
      refine roundIn_of_wpIn (F := Fence.wide) (n := 0) trivial ?_
      have hwp := vCode_sound (ρ := some l) hok as _ [] u _ _ hr1' hround
      have htm : (rec0.params.zip vs.toArray).foldl (fun tmps x => match x with | (t, a) => tmps.setIfInBounds t a) rec0.tmps = (ps.toList.zip vs).foldl (fun tmps (p : Nat × Value) => tmps.setIfInBounds p.1 p.2) a.tmps := by
        rw [← Array.foldl_toList]
        simp [rec0]
      show as.wpIn (fen (some l)) 0 P _ _ u
      rw [htm]
      refine wpIn_mono hwp ?_
      intro e a2 u2 hq
      cases e with
      | normal =>
        obtain ⟨σ2, ds2, hr2, hds, hko, hsz2, hbody⟩ := hq
        subst hds
        have hl2 : u2.heap[l]? = some (.loop rec0) := hko.ko _ _ h1 rfl
        have hd2 : u2.heap[r]? = some (.deferred (some [])) := hko.ko _ _ h2 rfl
        refine ⟨_, run_beginRound hl2 rfl, ?_⟩
        have hst : St w.heap.size u2 (u2.putObj l (.loop { rec0 with state := .busy })) := St.put hl2 rfl (by simp only [l]; omega)
        have hb := hbody _ hst
        have hwb := vCode_sound (ρ := some l) hok b _ [] _ _ a2 hr2 hb
        have hl3 : (u2.putObj l (.loop { rec0 with state := .busy })).heap[l]? = some (.loop { rec0 with state := .busy }) := World.putObj_heap_same (lt hl2)
        have hd3 : (u2.putObj l (.loop { rec0 with state := .busy })).heap[r]? = some (.deferred (some [])) := by rw [World.putObj_heap_other (by simp [l, r])]; exact hd2
        refine wpIn_mono hwb ?_
        intro e' a3 u3 hq'
        cases e' with
        | normal =>
          obtain ⟨σ3, ds3, hr3, hko3, hJ3, hI3⟩ := hq'
          have hl4 := hko3.ko _ _ hl3 rfl
          have hd4 := hko3.ko _ _ hd3 rfl
          have hst4 : St w.heap.size u3 (u3.putObj l (.loop { rec0 with state := .ready, pending := none })) := St.put hl4 rfl (by simp only [l]; omega)
          refine ⟨_, _, run_endRound none hl4, _, rfl, .inl ⟨rfl, ⟨?_, ?_, hJ _ _ _ hJ3 hst4⟩, hI _ _ hI3 hst4⟩⟩
          · exact World.putObj_heap_same (lt hl4)
          · rw [World.putObj_heap_other (by simp [l, r])]; exact hd4
        | ret =>
          obtain ⟨σ3, ds3, hr3, hko3, hJ3⟩ := hq'
          have hl4 := hko3.ko _ _ hl3 rfl
          have hd4 := hko3.ko _ _ hd3 rfl
          have hst4 : St w.heap.size u3 (u3.putObj l (.loop { rec0 with state := .done, pending := some .ret })) := St.put hl4 rfl (by simp only [l]; omega)
          refine ⟨_, _, run_endRound (some .ret) hl4, _, rfl, .inr ⟨rfl, .ret, .inl rfl, ?_, ?_, hJx _ _ _ hJ3 hst4⟩⟩
          · exact World.putObj_heap_same (lt hl4)
          · rw [World.putObj_heap_other (by simp [l, r])]; exact hd4
        | exit id =>
          obtain ⟨σ3, ds3, hr3, hko3, hJ3⟩ := hq'
          have hl4 := hko3.ko _ _ hl3 rfl
          have hd4 := hko3.ko _ _ hd3 rfl
          have hst4 : St w.heap.size u3 (u3.putObj l (.loop { rec0 with state := .done, pending := some (.exit id) })) := St.put hl4 rfl (by simp only [l]; omega)
          refine ⟨_, _, run_endRound (some (.exit id)) hl4, _, rfl, .inr ⟨rfl, .exit id, .inr ⟨id, rfl⟩, ?_, ?_, hJx _ _ _ hJ3 hst4⟩⟩
          · exact World.putObj_heap_same (lt hl4)
          · rw [World.putObj_heap_other (by simp [l, r])]; exact hd4
        | goto t => obtain ⟨σ3, ds3, hr3, h⟩ := hq'; exact h.elim
        | panic c => exact hq'.elim
        | outgrown => exact hq'.elim
      | ret => obtain ⟨σ2, ds2, hr2, h⟩ := hq; exact h.elim
      | exit id => obtain ⟨σ2, ds2, hr2, h⟩ := hq; exact h.elim
      | goto t => obtain ⟨σ2, ds2, hr2, h⟩ := hq; exact h.elim
      | panic c => exact hq.elim
      | outgrown => exact hq.elim
  refine ⟨l, [{ target := .collected r, args := #[] }], w1, { target := .fn (.func gf) cap, args := first ++ #[.func (.yield l) #[] #[]] }, w1, gf, first ++ #[.func (.yield l) #[] #[]] ++ cap, w1, run_enterLoop_outer fn a.tmps ps as b, ?_, fun _ _ => trivial, ?_, fun h => by simp [fen, Fence.wide] at h, callsIn_fen.2 ?_⟩
  · have hres : (resolve a.eval (rangeCall g l) 0) = Deferred.ofValue (a.eval g) #[.func (.yield l) #[] #[]] := by
      show Deferred.ofValue (a.eval g) (Array.map a.eval #[.const (.func (.yield l) #[] #[])]) = _
      congr 1
      simp [Act.eval]
    rw [hres, hgv]
    rfl
  · have := hcall.can w1
    simp only [invoke]
    rw [show (first.toList ++ [Value.func (Fn.yield l) #[] #[]] ++ cap.toList).toArray = first ++ #[.func (.yield l) #[] #[]] ++ cap from by apply Array.ext'; simp] at this
    exact this
  · have := hcall.out
    rw [show (first.toList ++ [Value.func (Fn.yield l) #[] #[]] ++ cap.toList).toArray = first ++ #[.func (.yield l) #[] #[]] ++ cap from by apply Array.ext'; simp] at this
    refine this.mono ?_
    rintro e u ⟨v, rfl, hu⟩
    have hrel : Rel σ ({ target := .collected r, args := #[] } :: ds) { a with defers := [{ target := .collected r, args := #[] }] ++ a.defers } := ⟨hr.size, hr.get, by simp [hr.defers]⟩
    rcases hu with ⟨h1, h2, h3⟩ | ⟨c, hc, h1, h2, h3⟩
    · have hst : St w.heap.size u (u.putObj l (.loop { rec0 with state := .exhausted })) := St.put h1 rfl (by simp only [l]; omega)
      refine ⟨none, _, run_endLoop h1 (by simp [rec0]), ?_⟩
      exact ⟨σ, _, hrel, done r _ (hJ _ _ _ h3 hst) (Nat.le_refl _) (by rw [World.putObj_heap_other (by simp [l, r])]; exact h2)⟩
    · have hst : St w.heap.size u (u.putObj l (.loop { rec0 with state := .exhausted, pending := some c })) := St.put h1 rfl (by simp only [l]; omega)
      refine ⟨some c, _, run_endLoop h1 (by simp), ?_⟩
      exact vCode_sound (ρ := none) hok c σ _ _ Q _ hrel (left r c _ (hJx _ _ _ h3 hst) (Nat.le_refl _) (by rw [World.putObj_heap_other (by simp [l, r])]; exact h2))
theorem range_rule (hok : TbOk P tb) {g : Operand} {ps : Array Tmp} {as b : Code} {σ : Env} {ds : List Deferred} {w : World} {Q : Post} {gf : FuncId} {first cap : Array Value}
    (hg : evK σ g fun v => v = .func (.func gf) first cap)
    (xs : List (List Value)) (I : World → Prop) (hit : Iter P gf (fun y => first.toList ++ [y] ++ cap.toList) xs I)
    (J : Nat → World → Prop) (Jx : Code → World → Prop)
    (hI : ∀ u u', I u → St w.heap.size u u' → I u') (hJ : ∀ i u u', J i u → St w.heap.size u u' → J i u') (hJx : ∀ c u u', Jx c u → St w.heap.size u u' → Jx c u')
    (h0 : J 0 w ∧ I w)
    (hsz : ∀ i u, J i u → w.heap.size ≤ u.heap.size) (hszx : ∀ c u, Jx c u → w.heap.size ≤ u.heap.size)
    (round : ∀ i (hi : i < xs.length) l u, J i u → I u → paramsK ps.toList xs[i] σ fun σ1 => vCode P tb (some l) as { σ1 with n := σ1.n } [] u fun e σ2 ds2 u2 => match e with
      | .normal => ds2 = [] ∧ KO u u2 ∧ w.heap.size ≤ u2.heap.size ∧ ∀ u3, St w.heap.size u2 u3 → vCode P tb (some l) b σ2 [] u3 (bodyPostR J I Jx i u3)
      | _ => False)
    (done : ∀ r u, J xs.length u → w.heap.size ≤ r → u.heap[r]? = some (.deferred (some [])) → Q .normal σ ({ target := .collected r, args := #[] } :: ds) u)
    (left : ∀ r c u, Jx c u → w.heap.size ≤ r → u.heap[r]? = some (.deferred (some [])) → vCode P tb none c σ ({ target := .collected r, args := #[] } :: ds) u Q) :
    CodeA P tb none (.rangeFunc g ps as b) σ ds w Q := by
  refine range_ruleG hok hg xs.length (fun i vs _ => xs[i]? = some vs) I hit.toG J Jx hI hJ hJx h0 hsz hszx ?_ done left
  intro i vs hi l u hv h1 h2
  obtain ⟨_, rfl⟩ := List.getElem?_eq_some_iff.1 hv
  exact round i hi l u h1 h2
end Go.V
