/-
  V7: memory.
-/
import Derived.Test.YtpeihahmhpamoaaGreatV6
set_option linter.all false
namespace Go.V
open Go
open Go.RowKit (Below)

variable {P : Program} {tb : Tb}

/-- Nothing that was there has turned. -/
abbrev Ex (w w' : World) : Prop := Below w.heap.size w w'
theorem Ex.refl (w : World) : Ex w w := Below.refl _ _
theorem Ex.tr {a b c : World} (h : Ex a b) (k : Ex b c) : Ex a c := Below.trans h (Below.mono k h.size)
theorem Ex.cell {w w' : World} (h : Ex w w') {a : Addr} {v : Value} (hc : w.cell? a = some v) : w'.cell? a = some v := by
  rw [Below.cell h (World.block_lt_of_cell? w a hc)]; exact hc
theorem Dr.ex {w w' : World} (h : Dr w w') : Ex w w' := ⟨h.os, h.tape, h.output, by rw [h.heap]; exact Nat.le_refl _, fun k _ => by rw [h.heap]⟩
theorem Dr.size {w w' : World} (h : Dr w w') : w'.heap.size = w.heap.size := by rw [h.heap]
theorem Dr.cell {w w' : World} (h : Dr w w') (a : Addr) : w'.cell? a = w.cell? a := by simp [World.cell?, h.heap]
theorem Dr.refl (w : World) : Dr w w := ⟨rfl, rfl, rfl, rfl, Nat.le_refl _⟩
theorem Dr.tr {a b c : World} (h : Dr a b) (k : Dr b c) : Dr a c := ⟨k.heap.trans h.heap, k.os.trans h.os, k.tape.trans h.tape, k.output.trans h.output, Nat.le_trans h.drawn k.drawn⟩

/-! ### blocks -/
/-- block b holds just these cells -/
def Blk (w : World) (b : Nat) (cs : List Value) (T : TypeId) : Prop := w.heap[b]? = some (.cells cs.toArray T (0, 0))
theorem Blk.lt {w : World} {b : Nat} {cs : List Value} {T : TypeId} (h : Blk w b cs T) : b < w.heap.size := by
  unfold Blk at h
  exact (Array.getElem?_eq_some_iff.1 h).1
theorem Blk.ex {w w' : World} {b : Nat} {cs : List Value} {T : TypeId} (h : Blk w b cs T) (e : Ex w w') : Blk w' b cs T := by
  unfold Blk at *
  rw [e.block b (Array.getElem?_eq_some_iff.1 h).1]; exact h
theorem Blk.below {w w' : World} {N b : Nat} {cs : List Value} {T : TypeId} (h : Blk w b cs T) (e : Below N w w') (hb : b < N) : Blk w' b cs T := by
  unfold Blk at *
  rw [e.block b hb]; exact h
theorem Blk.cell {w : World} {b : Nat} {cs : List Value} {T : TypeId} (h : Blk w b cs T) (j : Nat) : w.cell? ⟨b, j, none⟩ = cs[j]? := by
  unfold Blk at h
  simp [World.cell?, h]
theorem Blk.cell' {w : World} {b : Nat} {cs : List Value} {T : TypeId} (h : Blk w b cs T) {j : Nat} {v : Value} (hv : cs[j]? = some v) : w.cell? ⟨b, j, none⟩ = some v := by
  rw [h.cell]; exact hv
theorem Blk.frozen {w : World} {b : Nat} {cs : List Value} {T : TypeId} (h : Blk w b cs T) (j : Nat) : w.frozen? ⟨b, j, none⟩ = false := by
  unfold Blk at h
  simp [World.frozen?, h]

/-- one block alone has turned -/
structure Upd (w w' : World) (b : Nat) : Prop where
  size : w'.heap.size = w.heap.size
  other : ∀ k, k ≠ b → w'.heap[k]? = w.heap[k]?
  os : w'.os = w.os
  tape : w'.tape = w.tape
  output : w'.output = w.output
theorem Upd.below {w w' : World} {b N : Nat} (h : Upd w w' b) (hb : N ≤ b) : Below N w w' := ⟨h.os, h.tape, h.output, by rw [h.size]; exact Nat.le_refl _, fun k hk => h.other k (by omega)⟩
theorem Upd.blk {w w' : World} {b c : Nat} {cs : List Value} {T : TypeId} (h : Upd w w' b) (hb : Blk w c cs T) (hne : c ≠ b) : Blk w' c cs T := by
  unfold Blk at *; rw [h.other c hne]; exact hb
theorem Upd.trans {a b c : World} {k : Nat} (h : Upd a b k) (h' : Upd b c k) : Upd a c k := ⟨h'.size.trans h.size, fun i hi => (h'.other i hi).trans (h.other i hi), h'.os.trans h.os, h'.tape.trans h.tape, h'.output.trans h.output⟩

/-- a new block -/
structure New (w w' : World) (o : Obj) : Prop where
  at_ : w'.heap[w.heap.size]? = some o
  size : w'.heap.size = w.heap.size + 1
  ex : Ex w w'
theorem new_alloc (w : World) (o : Obj) : New w (w.alloc o) o :=
  ⟨by show (w.heap.push o)[w.heap.size]? = some o; simp, by simp, (Below.refl _ _).alloc (Nat.le_refl _) o⟩
theorem NewA.mk' {w : World} {cs : List Value} {T : TypeId} {K : Value → World → Prop} (h : ∀ w' b, b = w.heap.size → w'.heap.size = b + 1 → Ex w w' → Blk w' b cs T → K (.pointer (some ⟨b, 0, none⟩)) w') : NewA w (.cells cs.toArray T) K :=
  ⟨h _ _ rfl (by simp) (new_alloc w _).ex (new_alloc w _).at_⟩
theorem NewS.mk' {w : World} {cs : List Value} {T n : Nat} {K : Value → World → Prop} (h : ∀ w' b, b = w.heap.size → w'.heap.size = b + 1 → Ex w w' → Blk w' b cs T → K (.slice (some ⟨b, 0, none⟩) n n) w') : NewS w (.cells cs.toArray T) n K :=
  ⟨h _ _ rfl (by simp) (new_alloc w _).ex (new_alloc w _).at_⟩

/-! ### loads -/
theorem Load1.mk' {w : World} {a : Addr} {K : Value → Prop} {v : Value} (h : w.cell? a = some v) (hk : K v) : Load1 w a K := ⟨v, h, hk⟩
theorem Load1.blk {w : World} {b j : Nat} {cs : List Value} {T : TypeId} {K : Value → Prop} {v : Value} (h : Blk w b cs T) (hj : cs[j]? = some v) (hk : K v) : Load1 w ⟨b, j, none⟩ K := ⟨v, h.cell' hj, hk⟩
theorem run_loadCellsFrom {w : World} (a : Addr) : ∀ (n i : Nat) (acc : Array Value) (vs : List Value), vs.length = n → (∀ j u, vs[j]? = some u → w.cell? (a.add (i + j)) = some u) → (loadCellsFrom a i n acc).run P w = .ok (acc ++ vs.toArray) w := by
  intro n
  induction n with
  | zero => intro i acc vs hl h; have : vs = [] := List.length_eq_zero_iff.1 hl; subst this; simp [loadCellsFrom]
  | succ n ih =>
    intro i acc vs hl h
    cases vs with
    | nil => simp at hl
    | cons v r =>
      have h0 := h 0 v rfl
      simp only [loadCellsFrom, Sem.run_bind, run_load, Nat.add_zero] at h0 ⊢
      rw [h0]
      simp only [Result.andThen_ok]
      rw [ih (i + 1) (acc.push v) r (by simpa using hl) (fun j u hj => by have := h (j + 1) u (by simpa using hj); rwa [show i + (j + 1) = i + 1 + j from by omega] at this)]
      simp
theorem run_loadCells {w : World} {a : Addr} {vs : List Value} {n : Nat} (hl : vs.length = n) (h : ∀ j u, vs[j]? = some u → w.cell? (a.add j) = some u) : (loadCells a n).run P w = .ok vs.toArray w := by
  unfold loadCells
  rw [run_loadCellsFrom a n 0 #[] vs hl (fun j u hj => by rw [Nat.zero_add]; exact h j u hj)]
  simp
theorem addr_add (b o j : Nat) : (⟨b, o, none⟩ : Addr).add j = ⟨b, o + j, none⟩ := by
  unfold Addr.add; split
  · subst_vars; rfl
  · rfl
theorem LoadN.mk' {w : World} {b o n : Nat} {vs : List Value} {K : List Value → Prop} (hl : vs.length = n) (h : ∀ j u, vs[j]? = some u → w.cell? ⟨b, o + j, none⟩ = some u) (hk : K vs) : LoadN P w ⟨b, o, none⟩ n K :=
  ⟨vs, run_loadCells hl (fun j u hj => by rw [addr_add]; exact h j u hj), hk⟩
theorem LoadN.blk {w : World} {b n : Nat} {cs : List Value} {T : TypeId} {K : List Value → Prop} (h : Blk w b cs T) (hl : cs.length = n) (hk : K cs) : LoadN P w ⟨b, 0, none⟩ n K :=
  LoadN.mk' hl (fun j u hj => by rw [Nat.zero_add]; exact h.cell' hj) hk
theorem Hold1.mk' {w : World} {a : Addr} {S : World → Prop} {K : Value → Prop} {v : Value} (h : w.cell? a = some v) (hS : ∀ u, S u → Ex w u) (hk : K v) : Hold1 S a K := ⟨v, fun u hu => (hS u hu).cell h, hk⟩
theorem Hold1.any {a : Addr} {S : World → Prop} {K : Value → Prop} {v : Value} (h : ∀ u, S u → u.cell? a = some v) (hk : K v) : Hold1 S a K := ⟨v, h, hk⟩
theorem HoldN.mk' {w : World} {b o n : Nat} {S : World → Prop} {vs : List Value} {K : List Value → Prop} (hl : vs.length = n) (h : ∀ j u, vs[j]? = some u → w.cell? ⟨b, o + j, none⟩ = some u) (hS : ∀ u, S u → Ex w u) (hk : K vs) : HoldN P S ⟨b, o, none⟩ n K :=
  ⟨vs, fun u hu => run_loadCells hl (fun j x hj => by rw [addr_add]; exact (hS u hu).cell (h j x hj)), hk⟩
theorem HoldN.any {b o n : Nat} {S : World → Prop} {vs : List Value} {K : List Value → Prop} (hl : vs.length = n) (h : ∀ u, S u → ∀ j x, vs[j]? = some x → u.cell? ⟨b, o + j, none⟩ = some x) (hk : K vs) : HoldN P S ⟨b, o, none⟩ n K :=
  ⟨vs, fun u hu => run_loadCells hl (fun j x hj => by rw [addr_add]; exact h u hu j x hj), hk⟩

/-! ### stores -/
def one (v : Value) : Bool := match v with | .agg _ => false | .tuple _ => false | _ => true
theorem run_store_cell {w : World} {b : Nat} {cs : List Value} {T : TypeId} (h : Blk w b cs T) {j : Nat} {v : Value} (hj : j < cs.length) (hv : one v = true) :
    ∃ w', (store ⟨b, j, none⟩ v).run P w = .ok () w' ∧ Blk w' b (cs.set j v) T ∧ Upd w w' b := by
  refine ⟨w.setCell ⟨b, j, none⟩ v, ?_, ?_, ?_⟩
  · have hc := h.cell j
    have hf := h.frozen j
    rw [List.getElem?_eq_getElem hj] at hc
    cases v <;> first | (simp [one] at hv; done) | simp [store, Sem.run, hc, hf]
  · unfold Blk at *
    simp [World.setCell, Array.getElem?_modify, h, List.setIfInBounds_toArray]
  · refine ⟨by simp, fun k hk => Below.heap_setCell _ _ _ _ hk, rfl, rfl, rfl⟩
theorem run_storeCells {b : Nat} {T : TypeId} : ∀ (vs : List Value) (o i : Nat) (w : World) (cs : List Value), Blk w b cs T → o + i + vs.length ≤ cs.length → (∀ v ∈ vs, one v = true) →
    ∃ w', (storeCells ⟨b, o, none⟩ vs i).run P w = .ok () w' ∧ Blk w' b (cs.take (o + i) ++ vs ++ cs.drop (o + i + vs.length)) T ∧ Upd w w' b := by
  intro vs
  induction vs with
  | nil => intro o i w cs h hl hv; exact ⟨w, by simp [storeCells], by simpa using h, rfl, fun _ _ => rfl, rfl, rfl, rfl⟩
  | cons v r ih =>
    intro o i w cs h hl hv
    simp only [List.length_cons] at hl
    obtain ⟨w1, h1, h2, h3⟩ := run_store_cell (P := P) h (j := o + i) (v := v) (by omega) (hv v (by simp))
    obtain ⟨w2, h4, h5, h6⟩ := ih o (i + 1) w1 (cs.set (o + i) v) h2 (by simp; omega) (fun u hu => hv u (by simp [hu]))
    refine ⟨w2, ?_, ?_, h3.trans h6⟩
    · simp only [storeCells, Sem.run_bind, addr_add, h1, Result.andThen_ok]
      exact h4
    · have e : (cs.set (o + i) v).take (o + (i + 1)) ++ r ++ (cs.set (o + i) v).drop (o + (i + 1) + r.length) = cs.take (o + i) ++ v :: r ++ cs.drop (o + i + (v :: r).length) := by
        rw [List.drop_set_of_lt (by omega)]
        have : (cs.set (o + i) v).take (o + (i + 1)) = cs.take (o + i) ++ [v] := by
          rw [show o + (i + 1) = o + i + 1 from by omega, List.take_succ_eq_append_getElem (by simp; omega)]
          simp [List.take_set_of_le]
        rw [this]
        simp only [List.append_assoc, List.length_cons, List.cons_append, List.nil_append]
        rw [show o + (i + 1) + r.length = o + i + (r.length + 1) from by omega]
      rw [← e]; exact h5
theorem StoreA.one {w : World} {b j : Nat} {cs : List Value} {T : TypeId} {v : Value} {K : World → Prop} (h : Blk w b cs T) (hj : j < cs.length) (hv : V.one v = true)
    (hk : ∀ w', Upd w w' b → Blk w' b (cs.set j v) T → K w') : StoreA P w ⟨b, j, none⟩ [v] 1 K := by
  obtain ⟨w', h1, h2, h3⟩ := run_store_cell (P := P) h hj hv
  exact ⟨rfl, w', by simp only [storeCells, Sem.run_bind, addr_add, Nat.add_zero, h1, Result.andThen_ok]; simp, hk w' h3 h2⟩
theorem StoreA.all {w : World} {b n : Nat} {cs vs : List Value} {T : TypeId} {K : World → Prop} (h : Blk w b cs T) (hn : vs.length = n) (hc : cs.length = n) (hv : ∀ v ∈ vs, V.one v = true)
    (hk : ∀ w', Upd w w' b → Blk w' b vs T → K w') : StoreA P w ⟨b, 0, none⟩ vs n K := by
  obtain ⟨w', h1, h2, h3⟩ := run_storeCells (P := P) vs 0 0 w cs h (by omega) hv
  refine ⟨hn, w', h1, hk w' h3 ?_⟩
  simpa [List.drop_eq_nil_of_le (show cs.length ≤ vs.length by omega)] using h2
theorem StoreA.part {w : World} {b o n : Nat} {cs vs : List Value} {T : TypeId} {K : World → Prop} (h : Blk w b cs T) (hn : vs.length = n) (hc : o + n ≤ cs.length) (hv : ∀ v ∈ vs, V.one v = true)
    (hk : ∀ w', Upd w w' b → Blk w' b (cs.take o ++ vs ++ cs.drop (o + n)) T → K w') : StoreA P w ⟨b, o, none⟩ vs n K := by
  obtain ⟨w', h1, h2, h3⟩ := run_storeCells (P := P) vs o 0 w cs h (by omega) hv
  refine ⟨hn, w', h1, hk w' h3 ?_⟩
  rw [← hn]; simpa using h2

/-! ### rows that are read -/
structure Row (w : World) (base : Option Addr) (cs : List Value) : Prop where
  at_ : cs ≠ [] → ∃ b o, base = some ⟨b, o, none⟩ ∧ ∀ j u, cs[j]? = some u → w.cell? ⟨b, o + j, none⟩ = some u
theorem Row.ex {w w' : World} {base : Option Addr} {cs : List Value} (h : Row w base cs) (e : Ex w w') : Row w' base cs :=
  ⟨fun hn => by obtain ⟨b, o, hb, hc⟩ := h.at_ hn; exact ⟨b, o, hb, fun j u hj => e.cell (hc j u hj)⟩⟩
theorem Row.nil (w : World) (base : Option Addr) : Row w base [] := ⟨fun h => absurd rfl h⟩
/-- where a row begins, and that it lies below the heap's end -/
theorem Row.below {w w' : World} {base : Option Addr} {cs : List Value} (h : Row w base cs) {N : Nat} (e : Below N w w') (hb : ∀ a, base = some a → cs ≠ [] → a.block < N) : Row w' base cs :=
  ⟨fun hn => by
    obtain ⟨b, o, hbase, hc⟩ := h.at_ hn
    exact ⟨b, o, hbase, fun j u hj => by have hlt : b < N := hb _ hbase hn; rw [Below.cell e (p := ⟨b, o + j, none⟩) hlt]; exact hc j u hj⟩⟩
theorem IdxA.row {w : World} {base : Option Addr} {i : Int} {n sz : Nat} {cs : List Value} {K : Addr → Prop} (h : Row w base cs) (hl : cs.length = n * sz) (k : Nat) (hi : i = (k : Int)) (hk : k < n) (hs : 0 < sz)
    (f : ∀ b o, base = some ⟨b, o, none⟩ → (∀ j u, j < sz → cs[k * sz + j]? = some u → w.cell? ⟨b, o + k * sz + j, none⟩ = some u) → K ⟨b, o + k * sz, none⟩) : IdxA base i n sz K := by
  have hne : cs ≠ [] := by
    intro e
    have hp : 0 < n * sz := Nat.mul_pos (by omega) hs
    rw [e] at hl
    simp only [List.length_nil] at hl
    omega
  obtain ⟨b, o, hb, hc⟩ := h.at_ hne
  refine ⟨⟨b, o, none⟩, hb, by omega, by omega, ?_⟩
  have : (i.toNat * sz) = k * sz := by rw [hi]; simp
  rw [this, addr_add]
  exact f b o hb fun j u _ hj => by have := hc _ u hj; rwa [show o + (k * sz + j) = o + k * sz + j from by omega] at this
def ints (xs : List Int) : List Value := xs.map (Value.int .i64)
@[simp] theorem ints_length (xs : List Int) : (ints xs).length = xs.length := by simp [ints]
theorem ints_get {xs : List Int} {k : Nat} (h : k < xs.length) : (ints xs)[k]? = some (.int .i64 xs[k]) := by simp [ints, h]
theorem IdxA.ints {w : World} {base : Option Addr} {i : Int} {n : Nat} {xs : List Int} {K : Addr → Prop} (h : Row w base (ints xs)) (hl : n = xs.length) (k : Nat) (hi : i = (k : Int)) (hk : k < xs.length)
    (f : ∀ b o, base = some ⟨b, o, none⟩ → w.cell? ⟨b, o + k, none⟩ = some (.int .i64 xs[k]) → K ⟨b, o + k, none⟩) : IdxA base i n 1 K := by
  refine IdxA.row h (by simp [hl]) k hi (by omega) (by omega) fun b o hb hc => ?_
  have := hc 0 _ (by omega) (by rw [Nat.mul_one, Nat.add_zero]; exact ints_get hk)
  simp only [Nat.mul_one, Nat.add_zero] at this ⊢
  exact f b o hb this

/-! ### owned rows -/
theorem ownsRow_row {w : World} {N T sz n cap : Nat} {base : Option Addr} {cs : List Value} (h : w.ownsRow N T sz (.slice base n cap) n cs) : Row w base cs := by
  refine ⟨fun hn => ?_⟩
  obtain ⟨hl, h⟩ := h
  rcases h with ⟨hv, h0⟩ | ⟨g, cap', cur, hv, hg, hw, hnc, hm, hsz, htake⟩
  · subst h0; simp at hl; exact absurd hl hn
  · injection hv with h1 h2 h3
    subst h1
    refine ⟨g, 0, rfl, fun j u hj => ?_⟩
    rw [← htake] at hj
    simp only [World.cell?, hw, Nat.zero_add]
    rw [List.getElem?_take] at hj
    split at hj
    · simpa using hj
    · cases hj
theorem ownsRow_slice {w : World} {N T sz n : Nat} {v : Value} {cs : List Value} (h : w.ownsRow N T sz v n cs) : ∃ base cap, v = .slice base n cap := by
  rcases h.2 with ⟨hv, h0⟩ | ⟨g, cap', cur, hv, _⟩
  · exact ⟨none, 0, by rw [hv, h0]⟩
  · exact ⟨_, _, hv⟩
end Go.V
