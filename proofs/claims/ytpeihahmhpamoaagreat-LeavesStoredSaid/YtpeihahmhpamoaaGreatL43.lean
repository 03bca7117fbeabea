/-
  L43: a part of the proof. By an AI agent.
-/
import Derived.Test.YtpeihahmhpamoaaGreatVQ
import Derived.Test.YtpeihahmhpamoaaGreatV10
import Derived.Test.YtpeihahmhpamoaaGreatV11
import Derived.Test.YtpeihahmhpamoaaGreatL40
set_option linter.all false
namespace Go.V
/-- blocks of a set only may change -/
inductive Fr (F : Nat → Prop) : World → World → Prop
  | refl (w : World) : Fr F w w
  | step {w u w' : World} {row : Option Nat} : w.grownBy u row → (∀ x, row = some x → F x) → Fr F u w' → Fr F w w'
theorem Fr.one {F : Nat → Prop} {w u : World} {row : Option Nat} (g : w.grownBy u row) (h : ∀ x, row = some x → F x) : Fr F w u := .step g h (.refl _)
theorem Fr.tr {F : Nat → Prop} {a b c : World} (h : Fr F a b) (k : Fr F b c) : Fr F a c := by
  induction h with
  | refl => exact k
  | step g f _ ih => exact .step g f (ih k)
theorem Fr.ex {F : Nat → Prop} {a b : World} (e : Ex a b) : Fr F a b := .one (row := none) (grown_ex e) (by intro x h; cases h)
theorem Fr.upd {F : Nat → Prop} {a b : World} {g : Nat} (e : Upd a b g) (h : F g) : Fr F a b := .one (row := some g) (grown_upd e) (by intro x h; cases h; assumption)
theorem Fr.lift {F : Nat → Prop} {G : World → Prop} {a b : World} (h : Fr F a b) (k : ∀ u v row, u.grownBy v row → (∀ x, row = some x → F x) → G u → G v) (hG : G a) : G b := by
  induction h with
  | refl => exact hG
  | step g f _ ih => exact ih (k _ _ _ g f hG)
theorem Fr.mono {F F' : Nat → Prop} {a b : World} (h : Fr F a b) (k : ∀ x, F x → F' x) : Fr F' a b := by
  induction h with
  | refl => exact .refl _
  | step g f _ ih => exact .step g (fun x hx => k x (f x hx)) ih
theorem Fr.size {F : Nat → Prop} {a b : World} (h : Fr F a b) : a.heap.size ≤ b.heap.size := by
  induction h with
  | refl => exact Nat.le_refl _
  | step g f _ ih => exact Nat.le_trans g.size ih
theorem Fr.blk {F : Nat → Prop} {a b : World} (h : Fr F a b) {c : Nat} {cs : List Value} {T : TypeId} (hc : Blk a c cs T) (hn : ¬ F c) : Blk b c cs T :=
  h.lift (G := fun u => Blk u c cs T) (fun u v row g f hB => hB.grown g fun e => hn (f c e.symm)) hc
theorem Fr.own {F : Nat → Prop} {a b : World} (h : Fr F a b) {N T sz n cap : Nat} {base : Option Addr} {cs : List Value} (hc : Own a N T sz base n cap cs) (hn : ∀ x, blkOf base = some x → ¬ F x) : Own b N T sz base n cap cs :=
  h.lift (G := fun u => Own u N T sz base n cap cs) (fun u v row g f hO => hO.grown g (by
    cases base with
    | none => exact .inl rfl
    | some a => exact .inr fun e => hn a.block rfl (f a.block e.symm))) hc
end Go.V
namespace Go.Proofs
open Go.V
open Go.RowKit (Below)
theorem LvO.fr {w w' : World} {N : Nat} {c : Cp} {F : Nat → Prop} (h : LvO w N c.base c.cap c.ls) (g : Fr F w w') (hx : ∀ x ∈ c.fp, ¬ F x) : LvO w' N c.base c.cap c.ls :=
  g.lift (G := fun u => LvO u N c.base c.cap c.ls) (fun u v row g f h => h.keep g fun x hc e => hx x hc (f x e.symm)) h
/-- a shelf of a shape, with copies, in the blocks of F -/
structure ShI (w : World) (N g r : Nat) (s : Shape) (cs : List Cp) (F : Nat → Prop) : Prop where
  o : ShO w N g r s cs
  fg : F g
  fr : F r
  fp : ∀ i (hi : i < cs.length), ∀ x ∈ cs[i].fp, F x
def ShF (w : World) (N g : Nat) (s : Shape) (ms : List (List LM)) (F : Nat → Prop) : Prop := ∃ r cs, ShI w N g r s cs F ∧ cs.map Cp.m = ms
theorem ShF.grow {w w' : World} {N g : Nat} {s : Shape} {ms : List (List LM)} {F G : Nat → Prop} (h : ShF w N g s ms F) (k : Fr G w w') (hd : ∀ x, F x → ¬ G x) : ShF w' N g s ms F := by
  obtain ⟨r, cs, hI, hm⟩ := h
  refine ⟨r, cs, ⟨?_, hI.fg, hI.fr, hI.fp⟩, hm⟩
  refine k.lift (G := fun u => ShO u N g r s cs) (fun u v row e f hS => hS.grown e ?_ ?_ ?_) hI.o
  · intro e1; exact hd g hI.fg (f g e1.symm)
  · intro e1; exact hd r hI.fr (f r e1.symm)
  · intro i hi x hx e1; exact hd x (hI.fp i hi x hx) (f x e1.symm)
theorem ShF.ex {w w' : World} {N g : Nat} {s : Shape} {ms : List (List LM)} {F : Nat → Prop} (h : ShF w N g s ms F) (e : Ex w w') : ShF w' N g s ms F := h.grow (G := fun _ => False) (.ex e) (fun _ _ h => h)
def tearM (ms : List (List LM)) (copy number : Int) : List (List LM) × Int :=
  if (findM ms copy number).2 = 0 then (ms.set copy.toNat ((ms.getD copy.toNat []).eraseIdx (findM ms copy number).1.toNat), 0) else (ms, (findM ms copy number).2)
/-- copies that are not too large -/
def SmallM (ms : List (List LM)) : Prop := ms.length ≤ 100 ∧ ∀ c ∈ ms, c.length ≤ 1000 ∧ ∀ x ∈ c, x.2.length ≤ 1000
theorem SmallM.cs {cs : List Cp} (h : SmallM (cs.map Cp.m)) : SmallC cs := by
  refine ⟨by simpa using h.1, fun c hc => ?_⟩
  have := h.2 c.m (List.mem_map_of_mem hc)
  exact ⟨by simpa [Cp.m] using this.1, fun x hx => this.2 x.m (List.mem_map_of_mem hx)⟩
theorem findM_ok {ms : List (List LM)} {copy number : Int} (h : (findM ms copy number).2 = 0) : 0 ≤ copy ∧ copy.toNat < ms.length ∧ ∃ i : Nat, (findM ms copy number).1 = (i : Int) ∧ i < (ms.getD copy.toNat []).length := by
  unfold findM at h ⊢
  split at h
  · rename_i hin
    rw [if_pos hin]
    cases hf : (ms.getD copy.toNat []).findIdx? fun x => decide (x.1 = number) with
    | none => rw [hf] at h; cases h
    | some i => exact ⟨hin.1, by omega, i, rfl, (List.findIdx?_eq_some_iff_findIdx_eq.1 hf).1⟩
  · cases h
set_option maxRecDepth 4000 in
theorem Tryz.Tear (N g : Nat) (s : Shape) (ms : List (List LM)) (F : Nat → Prop) (copy number : Int) (w : World) (h : ShF w N g s ms F) (hS : SmallM ms) :
    CallA Tryz.prog 20 [.pointer (some ⟨g, 0, none⟩), .int .i64 copy, .int .i64 number] w fun v w' => v = .int .i64 (tearM ms copy number).2 ∧ ShF w' N g s (tearM ms copy number).1 F ∧ Fr F w w' := by
  obtain ⟨r, cs, hI, rfl⟩ := h
  have hSC := hS.cs
  refine callA_intro Tryz.tbOk Tryz.func20 rfl Tryz.ntmps20 Tryz.results20 (by decide) (by simp) ?_
  ((conv => whnf); repeat' (first | ((with_reducible first | refine q1 ?_ | refine q2 ?_); conv => whnf) | (with_reducible refine q3 ?_) | ((with_reducible refine q4 (fun _ => ?_) (fun _ => ?_)) <;> first | (exfalso; omega) | (conv => whnf)) | ((with_reducible first | refine q5 ?_ | refine q6 ?_ | refine q7 ?_ | refine q8 ?_ | refine q9 ?_ | refine q10 ?_ | refine q11 ?_ | refine q12 ?_ | refine q13 ?_ | refine q14 ?_ | refine q15 ?_); conv => whnf) | ((refine q16 (fun _ _ _ _ _ => ?_)); conv => whnf) | ((with_reducible first | refine q17 ?_ | refine q18 ?_ | refine q19 ?_ | refine q20 ?_); conv => whnf)))
  refine CallA.mono (Tryz.find N g r s cs copy number _ hI.o hSC) ?_; rintro v w1 ⟨rfl, he1⟩; ((conv => whnf); repeat' (first | ((with_reducible first | refine q1 ?_ | refine q2 ?_); conv => whnf) | (with_reducible refine q3 ?_) | ((with_reducible refine q4 (fun _ => ?_) (fun _ => ?_)) <;> first | (exfalso; omega) | (conv => whnf)) | ((with_reducible first | refine q5 ?_ | refine q6 ?_ | refine q7 ?_ | refine q8 ?_ | refine q9 ?_ | refine q10 ?_ | refine q11 ?_ | refine q12 ?_ | refine q13 ?_ | refine q14 ?_ | refine q15 ?_); conv => whnf) | ((refine q16 (fun _ _ _ _ _ => ?_)); conv => whnf) | ((with_reducible first | refine q17 ?_ | refine q18 ?_ | refine q19 ?_ | refine q20 ?_); conv => whnf)))
  · rename_i h0
    have hM : tearM (cs.map Cp.m) copy number = (cs.map Cp.m, (findM (cs.map Cp.m) copy number).2) := by unfold tearM; rw [if_neg h0]
    rw [hM]
    exact ⟨rfl, ⟨r, cs, ⟨hI.o.ex he1, hI.fg, hI.fr, hI.fp⟩, rfl⟩, .ex he1⟩
  · rename_i h0
    have h0 := Decidable.not_not.1 h0
    have hO1 := hI.o.ex he1
    obtain ⟨hc0, hk, i, hi, hil⟩ := findM_ok h0
    have hM : tearM (cs.map Cp.m) copy number = ((cs.map Cp.m).set copy.toNat (((cs.map Cp.m).getD copy.toNat []).eraseIdx (findM (cs.map Cp.m) copy number).1.toNat), 0) := by unfold tearM; rw [if_pos h0]
    rw [hM, hi]
    rw [Int.toNat_natCast]
    have hk' : copy.toNat < cs.length := by simpa using hk
    obtain ⟨k, rfl⟩ : ∃ k : Nat, copy = (k : Int) := ⟨copy.toNat, by omega⟩
    rw [Int.toNat_natCast] at *
    have hgd : (cs.map Cp.m).getD k [] = cs[k].ls.map Lf.m := by rw [getD_get (by simpa using hk'), List.getElem_map]; rfl
    rw [hgd] at hil ⊢
    rw [List.length_map] at hil
    have hsm := hSC.2 _ (List.getElem_mem hk')
    have hcl := hSC.1
    obtain ⟨gc, hgc⟩ : ∃ gc, cs[k].base = some ⟨gc, 0, none⟩ := by
      obtain ⟨b, hb, _⟩ := (hO1.each k hk').row.some_ (by omega); exact ⟨b, hb⟩
    have hfg : gc ∈ cs[k].fp := List.mem_append_left _ (by rw [hgc]; simp [bOf])
    have hne1 : g ≠ gc := fun e => (hO1.off k hk').1 (e ▸ hfg)
    have hne2 : r ≠ gc := fun e => (hO1.off k hk').2 (e ▸ hfg)
    refine draw_rule Tryz.tbOk Tryz.mix (fun u => w1.grownBy u (some gc)) (.take 0 (.take 1 (.take 2 (.take 3 (.take 4 (.take 5 (.take 6 (.take 7 (.take 8 (.take 9 (.take 10 (.take 11 (.take 12 (.take 13 (.take 14 (.one 15 (.take 16 (.fin 17)))))))))))))))))) (by kernel_rfl) (by kernel_rfl) ?_
    intro w2 hd2
    refine ⟨⟨hd2.os, hd2.tape, hd2.output, by rw [hd2.size]; exact Nat.le_refl _, fun k hk _ => by rw [hd2.heap]⟩, ?_⟩
    have hO2 := hO1.ex hd2.ex
    ((conv => whnf); repeat' (first | ((with_reducible first | refine q1 ?_ | refine q2 ?_); conv => whnf) | (with_reducible refine q3 ?_) | ((with_reducible refine q4 (fun _ => ?_) (fun _ => ?_)) <;> first | (exfalso; omega) | (conv => whnf)) | ((with_reducible first | refine q5 ?_ | refine q6 ?_ | refine q7 ?_ | refine q8 ?_ | refine q9 ?_ | refine q10 ?_ | refine q11 ?_ | refine q12 ?_ | refine q13 ?_ | refine q14 ?_ | refine q15 ?_); conv => whnf) | ((refine q16 (fun _ _ _ _ _ => ?_)); conv => whnf) | ((with_reducible first | refine q17 ?_ | refine q18 ?_ | refine q19 ?_ | refine q20 ?_); conv => whnf)))
    refine Hold1.but hO1.hd rfl hne1 ?_
    ((conv => whnf); repeat' (first | ((with_reducible first | refine q1 ?_ | refine q2 ?_); conv => whnf) | (with_reducible refine q3 ?_) | ((with_reducible refine q4 (fun _ => ?_) (fun _ => ?_)) <;> first | (exfalso; omega) | (conv => whnf)) | ((with_reducible first | refine q5 ?_ | refine q6 ?_ | refine q7 ?_ | refine q8 ?_ | refine q9 ?_ | refine q10 ?_ | refine q11 ?_ | refine q12 ?_ | refine q13 ?_ | refine q14 ?_ | refine q15 ?_); conv => whnf) | ((refine q16 (fun _ _ _ _ _ => ?_)); conv => whnf) | ((with_reducible first | refine q17 ?_ | refine q18 ?_ | refine q19 ?_ | refine q20 ?_); conv => whnf)))
    refine Hold1.but hO1.hd rfl hne1 ?_
    ((conv => whnf); repeat' (first | ((with_reducible first | refine q1 ?_ | refine q2 ?_); conv => whnf) | (with_reducible refine q3 ?_) | ((with_reducible refine q4 (fun _ => ?_) (fun _ => ?_)) <;> first | (exfalso; omega) | (conv => whnf)) | ((with_reducible first | refine q5 ?_ | refine q6 ?_ | refine q7 ?_ | refine q8 ?_ | refine q9 ?_ | refine q10 ?_ | refine q11 ?_ | refine q12 ?_ | refine q13 ?_ | refine q14 ?_ | refine q15 ?_); conv => whnf) | ((refine q16 (fun _ _ _ _ _ => ?_)); conv => whnf) | ((with_reducible first | refine q17 ?_ | refine q18 ?_ | refine q19 ?_ | refine q20 ?_); conv => whnf)))
    refine IdxA.at0 ?_
    ((conv => whnf); repeat' (first | ((with_reducible first | refine q1 ?_ | refine q2 ?_); conv => whnf) | (with_reducible refine q3 ?_) | ((with_reducible refine q4 (fun _ => ?_) (fun _ => ?_)) <;> first | (exfalso; omega) | (conv => whnf)) | ((with_reducible first | refine q5 ?_ | refine q6 ?_ | refine q7 ?_ | refine q8 ?_ | refine q9 ?_ | refine q10 ?_ | refine q11 ?_ | refine q12 ?_ | refine q13 ?_ | refine q14 ?_ | refine q15 ?_); conv => whnf) | ((refine q16 (fun _ _ _ _ _ => ?_)); conv => whnf) | ((with_reducible first | refine q17 ?_ | refine q18 ?_ | refine q19 ?_ | refine q20 ?_); conv => whnf)))
    refine Hold1.butc (hO1.cell hk') hne2 ?_
    ((conv => whnf); repeat' (first | ((with_reducible first | refine q1 ?_ | refine q2 ?_); conv => whnf) | (with_reducible refine q3 ?_) | ((with_reducible refine q4 (fun _ => ?_) (fun _ => ?_)) <;> first | (exfalso; omega) | (conv => whnf)) | ((with_reducible first | refine q5 ?_ | refine q6 ?_ | refine q7 ?_ | refine q8 ?_ | refine q9 ?_ | refine q10 ?_ | refine q11 ?_ | refine q12 ?_ | refine q13 ?_ | refine q14 ?_ | refine q15 ?_); conv => whnf) | ((refine q16 (fun _ _ _ _ _ => ?_)); conv => whnf) | ((with_reducible first | refine q17 ?_ | refine q18 ?_ | refine q19 ?_ | refine q20 ?_); conv => whnf)))
    have hval : cs[k].val = .slice (some ⟨gc, 0, none⟩) cs[k].ls.length cs[k].cap := by unfold Cp.val; rw [hgc]
    have hL2 := hO2.each k hk'
    rw [hgc] at hL2
    rw [hval]
    refine CallA.mono (Tryz.deleteLf N gc cs[k].cap cs[k].ls i w2 hL2 hil (by omega)) ?_
    rintro v w3 ⟨rfl, hL3, hg3⟩
    have hg13 : w1.grownBy w3 (some gc) := ⟨hg3.os.trans hd2.os, hg3.tape.trans hd2.tape, hg3.output.trans hd2.output, by have := hg3.size; rw [hd2.size] at this; exact this, fun j hj hne => by rw [hg3.block j (by rw [hd2.size]; exact hj) hne, hd2.heap]⟩
    refine Anew.mk hg13 ?_
    ((conv => whnf); repeat' (first | ((with_reducible first | refine q1 ?_ | refine q2 ?_); conv => whnf) | (with_reducible refine q3 ?_) | ((with_reducible refine q4 (fun _ => ?_) (fun _ => ?_)) <;> first | (exfalso; omega) | (conv => whnf)) | ((with_reducible first | refine q5 ?_ | refine q6 ?_ | refine q7 ?_ | refine q8 ?_ | refine q9 ?_ | refine q10 ?_ | refine q11 ?_ | refine q12 ?_ | refine q13 ?_ | refine q14 ?_ | refine q15 ?_); conv => whnf) | ((refine q16 (fun _ _ _ _ _ => ?_)); conv => whnf) | ((with_reducible first | refine q17 ?_ | refine q18 ?_ | refine q19 ?_ | refine q20 ?_); conv => whnf)))
    refine IdxA.at0 ?_
    have hrow3 := hO1.row.grown hg13 (.inr (by simpa [blkOf] using hne2))
    ((conv => whnf); repeat' (first | ((with_reducible first | refine q1 ?_ | refine q2 ?_); conv => whnf) | (with_reducible refine q3 ?_) | ((with_reducible refine q4 (fun _ => ?_) (fun _ => ?_)) <;> first | (exfalso; omega) | (conv => whnf)) | ((with_reducible first | refine q5 ?_ | refine q6 ?_ | refine q7 ?_ | refine q8 ?_ | refine q9 ?_ | refine q10 ?_ | refine q11 ?_ | refine q12 ?_ | refine q13 ?_ | refine q14 ?_ | refine q15 ?_); conv => whnf) | ((refine q16 (fun _ _ _ _ _ => ?_)); conv => whnf) | ((with_reducible first | refine q17 ?_ | refine q18 ?_ | refine q19 ?_ | refine q20 ?_); conv => whnf)))
    refine StoreA.own1 hrow3 rfl hk' rfl fun w4 hu4 ho4 => ?_
    ((conv => whnf); repeat' (first | ((with_reducible first | refine q1 ?_ | refine q2 ?_); conv => whnf) | (with_reducible refine q3 ?_) | ((with_reducible refine q4 (fun _ => ?_) (fun _ => ?_)) <;> first | (exfalso; omega) | (conv => whnf)) | ((with_reducible first | refine q5 ?_ | refine q6 ?_ | refine q7 ?_ | refine q8 ?_ | refine q9 ?_ | refine q10 ?_ | refine q11 ?_ | refine q12 ?_ | refine q13 ?_ | refine q14 ?_ | refine q15 ?_); conv => whnf) | ((refine q16 (fun _ _ _ _ _ => ?_)); conv => whnf) | ((with_reducible first | refine q17 ?_ | refine q18 ?_ | refine q19 ?_ | refine q20 ?_); conv => whnf)))
    obtain ⟨c, hcdef⟩ : ∃ c : Cp, c = ⟨some ⟨gc, 0, none⟩, cs[k].cap, cs[k].ls.eraseIdx i⟩ := ⟨_, rfl⟩
    have hcv : Value.slice (some ⟨gc, 0, none⟩) (cs[k].ls.eraseIdx i).length cs[k].cap = c.val := by rw [hcdef]; rfl
    rw [hcv, cpRow_set] at ho4
    have hcfp : ∀ x ∈ c.fp, x ∈ cs[k].fp := by
      intro x hx
      rw [hcdef] at hx
      rcases List.mem_append.1 hx with hx | hx
      · exact List.mem_append_left _ (by rw [hgc]; exact hx)
      · refine List.mem_append_right _ ?_
        obtain ⟨l, hl, hx⟩ := List.mem_flatMap.1 hx
        exact List.mem_flatMap.2 ⟨l, List.mem_of_mem_eraseIdx hl, hx⟩
    have hnew := hO1.put hk' c hg13 (by intro x e; cases e; exact hfg) (by rw [hcdef]; exact hL3) (fun x hx => .inl (hcfp x hx)) hu4 ho4
    refine ⟨rfl, ⟨r, _, ⟨hnew, hI.fg, hI.fr, ?_⟩, ?_⟩, ((Fr.ex he1).tr (.one hg13 ?_)).tr (.upd hu4 hI.fr)⟩
    · intro j hj x hx
      have hj' : j < cs.length := by simpa using hj
      rw [List.getElem_set] at hx
      split at hx
      · exact hI.fp k hk' x (hcfp x hx)
      · exact hI.fp j hj' x hx
    · rw [List.map_set, hcdef]
      show (cs.map Cp.m).set k ((cs[k].ls.eraseIdx i).map Lf.m) = _
      simp only [List.eraseIdx_eq_take_drop_succ, List.map_append, List.map_take, List.map_drop]
    · intro x e; cases e; exact hI.fp k hk' _ hfg
end Go.Proofs
namespace Go.Proofs
open Go.V
open Go.RowKit (Below)
def setW (ls : List LM) (i : Nat) (at_ : Nat) (n : Int) : List LM := ls.modify i fun x => (x.1, x.2.set at_ n)
def blotM (s : Shape) (ms : List (List LM)) (copy number at_ n : Int) : List (List LM) × Int :=
  if (0 ≤ copy ∧ copy ≤ (ms.length : Int) - 1) ∧ (0 ≤ at_ ∧ at_ ≤ s.width - 1) ∧ (0 ≤ n ∧ n ≤ 65520) then
    if (findM ms copy number).2 = 0 then (ms.set copy.toNat (setW (ms.getD copy.toNat []) (findM ms copy number).1.toNat at_.toNat n), 0) else (ms, (findM ms copy number).2)
  else (ms, 1)
/-- a copy is changed where it lies -/
theorem ShO.alter {w w1 : World} {N g r : Nat} {s : Shape} {cs : List Cp} (h : ShO w N g r s cs) {k : Nat} (hk : k < cs.length) (c : Cp) {row : Option Nat} (e : w.grownBy w1 row) (hrow : ∀ x, row = some x → x ∈ cs[k].fp) (hc : LvO w1 N c.base c.cap c.ls)
    (hnew : ∀ x ∈ c.fp, x ∈ cs[k].fp) (hv : c.val = cs[k].val) : ShO w1 N g r s (cs.set k c) := by
  have hset : rowC cpC (cs.set k c) = rowC cpC cs := by
    rw [← cpRow_set, hv]
    apply List.ext_getElem?
    intro j
    rw [List.getElem?_set]
    split
    · rename_i e; subst e
      rw [cpRow_get cs hk]
      split
      · rfl
      · rename_i hx; exact absurd ((List.getElem?_eq_some_iff.1 (cpRow_get cs hk)).1) hx
    · rfl
  refine ⟨?_, ?_, ?_, ?_, h.gr, h.gN, ?_⟩
  · rw [List.length_set]
    exact h.hd.grown e fun e1 => (h.off k hk).1 (hrow g e1.symm)
  · rw [List.length_set, hset]
    exact h.row.grown e (.inr fun e1 => (h.off k hk).2 (hrow r e1.symm))
  · intro i hi
    have hi' : i < cs.length := by simpa using hi
    rw [List.getElem_set]
    split
    · exact hc
    · rename_i hne
      refine (h.each i hi').keep e fun x hx e1 => ?_
      exact h.apart i k hi' hk (Ne.symm hne) x hx (hrow x e1.symm)
  · intro i j hi hj hij
    have hi' : i < cs.length := by simpa using hi
    have hj' : j < cs.length := by simpa using hj
    rw [List.getElem_set, List.getElem_set]
    split
    · rename_i e1
      split
      · omega
      · rename_i e2
        intro x hx hxj
        exact h.apart k j hk hj' e2 x (hnew x hx) hxj
    · rename_i e1
      split
      · intro x hx hxk
        exact h.apart i k hi' hk (Ne.symm e1) x hx (hnew x hxk)
      · exact h.apart i j hi' hj' hij
  · intro i hi
    have hi' : i < cs.length := by simpa using hi
    rw [List.getElem_set]
    split
    · exact ⟨fun hx => (h.off k hk).1 (hnew _ hx), fun hx => (h.off k hk).2 (hnew _ hx)⟩
    · exact h.off i hi'
set_option maxRecDepth 4000 in
theorem Tryz.Blot (N g : Nat) (s : Shape) (ms : List (List LM)) (F : Nat → Prop) (copy number at_ n : Int) (w : World) (h : ShF w N g s ms F) (hS : SmallM ms) (hW : ∀ c ∈ ms, ∀ x ∈ c, (x.2.length : Int) = s.width) (hw : -9223372036854775807 ≤ s.width ∧ s.width ≤ 9223372036854775807) :
    CallA Tryz.prog 22 [.pointer (some ⟨g, 0, none⟩), .int .i64 copy, .int .i64 number, .int .i64 at_, .int .i64 n] w fun v w' => v = .int .i64 (blotM s ms copy number at_ n).2 ∧ ShF w' N g s (blotM s ms copy number at_ n).1 F ∧ Fr F w w' := by
  obtain ⟨r, cs, hI, rfl⟩ := h
  have hSC := hS.cs
  have hO := hI.o
  have hhd := hO.hd
  have hlen := hSC.1
  refine callA_intro Tryz.tbOk Tryz.func22 rfl Tryz.ntmps22 Tryz.results22 (by decide) (by simp) ?_
  ((conv => whnf); repeat' (first | ((with_reducible first | refine q1 ?_ | refine q2 ?_); conv => whnf) | (with_reducible refine q3 ?_) | ((with_reducible refine q4 (fun _ => ?_) (fun _ => ?_)) <;> first | (exfalso; omega) | (conv => whnf)) | ((with_reducible first | refine q5 ?_ | refine q6 ?_ | refine q7 ?_ | refine q8 ?_ | refine q9 ?_ | refine q10 ?_ | refine q11 ?_ | refine q12 ?_ | refine q13 ?_ | refine q14 ?_ | refine q15 ?_); conv => whnf) | ((refine q16 (fun _ _ _ _ _ => ?_)); conv => whnf) | ((with_reducible first | refine q17 ?_ | refine q18 ?_ | refine q19 ?_ | refine q20 ?_); conv => whnf)))
  refine CallA.mono (Tryz.within copy 0 _ _) ?_
  rintro v w1 ⟨rfl, rfl⟩
  ((conv => whnf); repeat' (first | ((with_reducible first | refine q1 ?_ | refine q2 ?_); conv => whnf) | (with_reducible refine q3 ?_) | ((with_reducible refine q4 (fun _ => ?_) (fun _ => ?_)) <;> first | (exfalso; omega) | (conv => whnf)) | ((with_reducible first | refine q5 ?_ | refine q6 ?_ | refine q7 ?_ | refine q8 ?_ | refine q9 ?_ | refine q10 ?_ | refine q11 ?_ | refine q12 ?_ | refine q13 ?_ | refine q14 ?_ | refine q15 ?_); conv => whnf) | ((refine q16 (fun _ _ _ _ _ => ?_)); conv => whnf) | ((with_reducible first | refine q17 ?_ | refine q18 ?_ | refine q19 ?_ | refine q20 ?_); conv => whnf)))
  · rename_i h1
    refine CallA.mono (Tryz.within at_ 0 _ _) ?_
    rintro v w2 ⟨rfl, rfl⟩
    ((conv => whnf); repeat' (first | ((with_reducible first | refine q1 ?_ | refine q2 ?_); conv => whnf) | (with_reducible refine q3 ?_) | ((with_reducible refine q4 (fun _ => ?_) (fun _ => ?_)) <;> first | (exfalso; omega) | (conv => whnf)) | ((with_reducible first | refine q5 ?_ | refine q6 ?_ | refine q7 ?_ | refine q8 ?_ | refine q9 ?_ | refine q10 ?_ | refine q11 ?_ | refine q12 ?_ | refine q13 ?_ | refine q14 ?_ | refine q15 ?_); conv => whnf) | ((refine q16 (fun _ _ _ _ _ => ?_)); conv => whnf) | ((with_reducible first | refine q17 ?_ | refine q18 ?_ | refine q19 ?_ | refine q20 ?_); conv => whnf)))
    · rename_i h2
      refine CallA.mono (Tryz.word n _) ?_
      rintro v w3 ⟨rfl, rfl⟩
      ((conv => whnf); repeat' (first | ((with_reducible first | refine q1 ?_ | refine q2 ?_); conv => whnf) | (with_reducible refine q3 ?_) | ((with_reducible refine q4 (fun _ => ?_) (fun _ => ?_)) <;> first | (exfalso; omega) | (conv => whnf)) | ((with_reducible first | refine q5 ?_ | refine q6 ?_ | refine q7 ?_ | refine q8 ?_ | refine q9 ?_ | refine q10 ?_ | refine q11 ?_ | refine q12 ?_ | refine q13 ?_ | refine q14 ?_ | refine q15 ?_); conv => whnf) | ((refine q16 (fun _ _ _ _ _ => ?_)); conv => whnf) | ((with_reducible first | refine q17 ?_ | refine q18 ?_ | refine q19 ?_ | refine q20 ?_); conv => whnf)))
      · rename_i h3
        have hM : blotM s (cs.map Cp.m) copy number at_ n = if (findM (cs.map Cp.m) copy number).2 = 0 then ((cs.map Cp.m).set copy.toNat (setW ((cs.map Cp.m).getD copy.toNat []) (findM (cs.map Cp.m) copy number).1.toNat at_.toNat n), 0) else (cs.map Cp.m, (findM (cs.map Cp.m) copy number).2) := by
          unfold blotM; rw [if_pos ⟨by rw [List.length_map]; exact h1, h2, by omega⟩]
        rw [hM]
        refine CallA.mono (Tryz.find N g r s cs copy number _ hI.o hSC) ?_; rintro v w1 ⟨rfl, he1⟩; ((conv => whnf); repeat' (first | ((with_reducible first | refine q1 ?_ | refine q2 ?_); conv => whnf) | (with_reducible refine q3 ?_) | ((with_reducible refine q4 (fun _ => ?_) (fun _ => ?_)) <;> first | (exfalso; omega) | (conv => whnf)) | ((with_reducible first | refine q5 ?_ | refine q6 ?_ | refine q7 ?_ | refine q8 ?_ | refine q9 ?_ | refine q10 ?_ | refine q11 ?_ | refine q12 ?_ | refine q13 ?_ | refine q14 ?_ | refine q15 ?_); conv => whnf) | ((refine q16 (fun _ _ _ _ _ => ?_)); conv => whnf) | ((with_reducible first | refine q17 ?_ | refine q18 ?_ | refine q19 ?_ | refine q20 ?_); conv => whnf)))
        · rename_i h0
          rw [if_neg h0]
          exact ⟨rfl, ⟨r, cs, ⟨hI.o.ex he1, hI.fg, hI.fr, hI.fp⟩, rfl⟩, .ex he1⟩
        · rename_i h0
          have h0 := Decidable.not_not.1 h0
          rw [if_pos h0]
          have hO1 := hI.o.ex he1
          obtain ⟨hc0, hk, i, hi, hil⟩ := findM_ok h0
          rw [hi]
          rw [Int.toNat_natCast]
          have hk' : copy.toNat < cs.length := by simpa using hk
          obtain ⟨k, rfl⟩ : ∃ k : Nat, copy = (k : Int) := ⟨copy.toNat, by omega⟩
          rw [Int.toNat_natCast] at *
          obtain ⟨a, rfl⟩ : ∃ a : Nat, at_ = (a : Int) := ⟨at_.toNat, by omega⟩
          rw [Int.toNat_natCast] at *
          have hgd : (cs.map Cp.m).getD k [] = cs[k].ls.map Lf.m := by rw [getD_get (by simpa using hk'), List.getElem_map]; rfl
          rw [hgd] at hil ⊢
          rw [List.length_map] at hil
          have hsm := hSC.2 _ (List.getElem_mem hk')
          have hcl := hSC.1
          have hL := hO1.each k hk'
          obtain ⟨gc, hgc⟩ : ∃ gc, cs[k].base = some ⟨gc, 0, none⟩ := by
            obtain ⟨b, hb, _⟩ := hL.row.some_ (by omega); exact ⟨b, hb⟩
          have hwi : (cs[k].ls[i].words.xs.length : Int) = s.width := hW cs[k].m (List.mem_map_of_mem (List.getElem_mem hk')) cs[k].ls[i].m (List.mem_map_of_mem (List.getElem_mem hil))
          obtain ⟨gw, hgw⟩ : ∃ gw, cs[k].ls[i].words.base = some ⟨gw, 0, none⟩ := by
            obtain ⟨b, hb, _⟩ := (hL.each i hil).some_ (by omega); exact ⟨b, hb⟩
          have hfw : gw ∈ cs[k].fp := List.mem_append_right _ (List.mem_flatMap.2 ⟨cs[k].ls[i], List.getElem_mem hil, by rw [hgw]; simp [bOf]⟩)
          refine Load1.blk hO1.hd rfl ?_
          ((conv => whnf); repeat' (first | ((with_reducible first | refine q1 ?_ | refine q2 ?_); conv => whnf) | (with_reducible refine q3 ?_) | ((with_reducible refine q4 (fun _ => ?_) (fun _ => ?_)) <;> first | (exfalso; omega) | (conv => whnf)) | ((with_reducible first | refine q5 ?_ | refine q6 ?_ | refine q7 ?_ | refine q8 ?_ | refine q9 ?_ | refine q10 ?_ | refine q11 ?_ | refine q12 ?_ | refine q13 ?_ | refine q14 ?_ | refine q15 ?_); conv => whnf) | ((refine q16 (fun _ _ _ _ _ => ?_)); conv => whnf) | ((with_reducible first | refine q17 ?_ | refine q18 ?_ | refine q19 ?_ | refine q20 ?_); conv => whnf)))
          refine IdxA.at0 ?_
          ((conv => whnf); repeat' (first | ((with_reducible first | refine q1 ?_ | refine q2 ?_); conv => whnf) | (with_reducible refine q3 ?_) | ((with_reducible refine q4 (fun _ => ?_) (fun _ => ?_)) <;> first | (exfalso; omega) | (conv => whnf)) | ((with_reducible first | refine q5 ?_ | refine q6 ?_ | refine q7 ?_ | refine q8 ?_ | refine q9 ?_ | refine q10 ?_ | refine q11 ?_ | refine q12 ?_ | refine q13 ?_ | refine q14 ?_ | refine q15 ?_); conv => whnf) | ((refine q16 (fun _ _ _ _ _ => ?_)); conv => whnf) | ((with_reducible first | refine q17 ?_ | refine q18 ?_ | refine q19 ?_ | refine q20 ?_); conv => whnf)))
          refine Load1.mk' (hO1.cell hk') ?_
          ((conv => whnf); repeat' (first | ((with_reducible first | refine q1 ?_ | refine q2 ?_); conv => whnf) | (with_reducible refine q3 ?_) | ((with_reducible refine q4 (fun _ => ?_) (fun _ => ?_)) <;> first | (exfalso; omega) | (conv => whnf)) | ((with_reducible first | refine q5 ?_ | refine q6 ?_ | refine q7 ?_ | refine q8 ?_ | refine q9 ?_ | refine q10 ?_ | refine q11 ?_ | refine q12 ?_ | refine q13 ?_ | refine q14 ?_ | refine q15 ?_); conv => whnf) | ((refine q16 (fun _ _ _ _ _ => ?_)); conv => whnf) | ((with_reducible first | refine q17 ?_ | refine q18 ?_ | refine q19 ?_ | refine q20 ?_); conv => whnf)))
          refine IdxA.elem (sz := 2) hL.row.row (fun _ => rfl) (by decide) rfl i rfl hil (fun b o hb hcell => ?_)
          ((conv => whnf); repeat' (first | ((with_reducible first | refine q1 ?_ | refine q2 ?_); conv => whnf) | (with_reducible refine q3 ?_) | ((with_reducible refine q4 (fun _ => ?_) (fun _ => ?_)) <;> first | (exfalso; omega) | (conv => whnf)) | ((with_reducible first | refine q5 ?_ | refine q6 ?_ | refine q7 ?_ | refine q8 ?_ | refine q9 ?_ | refine q10 ?_ | refine q11 ?_ | refine q12 ?_ | refine q13 ?_ | refine q14 ?_ | refine q15 ?_); conv => whnf) | ((refine q16 (fun _ _ _ _ _ => ?_)); conv => whnf) | ((with_reducible first | refine q17 ?_ | refine q18 ?_ | refine q19 ?_ | refine q20 ?_); conv => whnf)))
          refine Load1.mk' (hcell 1 _ rfl) ?_
          rw [show (cs[k].ls[i].words.val) = .slice (some ⟨gw, 0, none⟩) cs[k].ls[i].words.xs.length cs[k].ls[i].words.cap from by unfold Sl.val; rw [hgw]]
          ((conv => whnf); repeat' (first | ((with_reducible first | refine q1 ?_ | refine q2 ?_); conv => whnf) | (with_reducible refine q3 ?_) | ((with_reducible refine q4 (fun _ => ?_) (fun _ => ?_)) <;> first | (exfalso; omega) | (conv => whnf)) | ((with_reducible first | refine q5 ?_ | refine q6 ?_ | refine q7 ?_ | refine q8 ?_ | refine q9 ?_ | refine q10 ?_ | refine q11 ?_ | refine q12 ?_ | refine q13 ?_ | refine q14 ?_ | refine q15 ?_); conv => whnf) | ((refine q16 (fun _ _ _ _ _ => ?_)); conv => whnf) | ((with_reducible first | refine q17 ?_ | refine q18 ?_ | refine q19 ?_ | refine q20 ?_); conv => whnf)))
          refine IdxA.at0' (k := a) rfl (by omega) ?_
          have hrw := hL.each i hil
          rw [hgw] at hrw
          ((conv => whnf); repeat' (first | ((with_reducible first | refine q1 ?_ | refine q2 ?_); conv => whnf) | (with_reducible refine q3 ?_) | ((with_reducible refine q4 (fun _ => ?_) (fun _ => ?_)) <;> first | (exfalso; omega) | (conv => whnf)) | ((with_reducible first | refine q5 ?_ | refine q6 ?_ | refine q7 ?_ | refine q8 ?_ | refine q9 ?_ | refine q10 ?_ | refine q11 ?_ | refine q12 ?_ | refine q13 ?_ | refine q14 ?_ | refine q15 ?_); conv => whnf) | ((refine q16 (fun _ _ _ _ _ => ?_)); conv => whnf) | ((with_reducible first | refine q17 ?_ | refine q18 ?_ | refine q19 ?_ | refine q20 ?_); conv => whnf)))
          refine StoreA.own1 hrw rfl (by omega) rfl fun w4 hu4 ho4 => ?_
          ((conv => whnf); repeat' (first | ((with_reducible first | refine q1 ?_ | refine q2 ?_); conv => whnf) | (with_reducible refine q3 ?_) | ((with_reducible refine q4 (fun _ => ?_) (fun _ => ?_)) <;> first | (exfalso; omega) | (conv => whnf)) | ((with_reducible first | refine q5 ?_ | refine q6 ?_ | refine q7 ?_ | refine q8 ?_ | refine q9 ?_ | refine q10 ?_ | refine q11 ?_ | refine q12 ?_ | refine q13 ?_ | refine q14 ?_ | refine q15 ?_); conv => whnf) | ((refine q16 (fun _ _ _ _ _ => ?_)); conv => whnf) | ((with_reducible first | refine q17 ?_ | refine q18 ?_ | refine q19 ?_ | refine q20 ?_); conv => whnf)))
          rw [ints_set] at ho4
          obtain ⟨x, hx⟩ : ∃ x : Lf, x = { cs[k].ls[i] with words := { cs[k].ls[i].words with xs := cs[k].ls[i].words.xs.set a n } } := ⟨_, rfl⟩
          have hL4 := hL.word hil (xs := cs[k].ls[i].words.xs.set a n) hgw (by rw [List.length_set]) hu4 (by rw [hgw]; exact ho4)
          rw [← hx] at hL4
          obtain ⟨c, hcdef⟩ : ∃ c : Cp, c = ⟨cs[k].base, cs[k].cap, cs[k].ls.set i x⟩ := ⟨_, rfl⟩
          have hcfp : ∀ y ∈ c.fp, y ∈ cs[k].fp := by
            intro y hy
            rw [hcdef] at hy
            rcases List.mem_append.1 hy with hy | hy
            · exact List.mem_append_left _ hy
            · refine List.mem_append_right _ ?_
              obtain ⟨l, hl, hy⟩ := List.mem_flatMap.1 hy
              rcases List.mem_or_eq_of_mem_set hl with hl | hl
              · exact List.mem_flatMap.2 ⟨l, hl, hy⟩
              · exact List.mem_flatMap.2 ⟨cs[k].ls[i], List.getElem_mem hil, by rw [hl, hx] at hy; exact hy⟩
          have hnew := hO1.alter hk' c (grown_upd hu4) (by intro x e; cases e; exact hfw) (by rw [hcdef]; exact hL4) hcfp (by rw [hcdef]; simp [Cp.val])
          refine ⟨rfl, ⟨r, _, ⟨hnew, hI.fg, hI.fr, ?_⟩, ?_⟩, (Fr.ex he1).tr (.upd hu4 (hI.fp k hk' _ hfw))⟩
          · intro j hj y hy
            have hj' : j < cs.length := by simpa using hj
            rw [List.getElem_set] at hy
            split at hy
            · exact hI.fp k hk' y (hcfp y hy)
            · exact hI.fp j hj' y hy
          · rw [List.map_set, hcdef]
            show (cs.map Cp.m).set k ((cs[k].ls.set i x).map Lf.m) = _
            congr 1
            unfold setW
            rw [List.map_set]
            apply List.ext_getElem?
            intro j
            rw [List.getElem?_set, List.getElem?_modify]
            rw [List.length_map]
            split
            · rename_i e; subst e
              rw [List.getElem?_map, List.getElem?_eq_getElem hil, hx]; rfl
            · rename_i e
              rw [List.getElem?_map]
              cases cs[k].ls[j]? <;> rfl
      · rename_i h3
        have hM : blotM s (cs.map Cp.m) copy number at_ n = (cs.map Cp.m, 1) := by
          unfold blotM; rw [if_neg (by rintro ⟨_, _, h⟩; exact h3 (by omega))]
        rw [hM]
        exact ⟨rfl, ⟨r, cs, hI, rfl⟩, .refl _⟩
    · rename_i h2
      have hM : blotM s (cs.map Cp.m) copy number at_ n = (cs.map Cp.m, 1) := by
        unfold blotM; rw [if_neg (by rintro ⟨_, h, _⟩; exact h2 h)]
      rw [hM]
      exact ⟨rfl, ⟨r, cs, hI, rfl⟩, .refl _⟩
  · rename_i h1
    have hM : blotM s (cs.map Cp.m) copy number at_ n = (cs.map Cp.m, 1) := by
      unfold blotM; rw [if_neg (by rintro ⟨h, _, _⟩; rw [List.length_map] at h; exact h1 h)]
    rw [hM]
    exact ⟨rfl, ⟨r, cs, hI, rfl⟩, .refl _⟩
end Go.Proofs
namespace Go.Proofs
open Go.V
open Go.RowKit (Below)
theorem LvO.mono {w : World} {N M cap : Nat} {base : Option Addr} {ls : List Lf} (h : LvO w N base cap ls) (k : M ≤ N) : LvO w M base cap ls :=
  ⟨h.row.mono k, fun i hi => (h.each i hi).mono k, h.apart, h.off⟩
def storeM (s : Shape) (ms : List (List LM)) (ls : List Line) : List (List LM) := if (WriteM s ls).2 = 0 then List.replicate ms.length (wholeM s (WriteM s ls).1) else ms
theorem ShO.sh {w : World} {N g r : Nat} {s : Shape} {cs : List Cp} (h : ShO w N g r s cs) : ∀ j u, (shC s)[j]? = some u → w.cell? ⟨g, 0 + j, none⟩ = some u := by
  intro j u hj
  rw [Nat.zero_add]
  refine h.hd.cell' ?_
  rw [List.getElem?_append_left (List.getElem?_eq_some_iff.1 hj).1]; exact hj
theorem ShO.cps {w : World} {N g r : Nat} {s : Shape} {cs : List Cp} (h : ShO w N g r s cs) : w.cell? ⟨g, 3, none⟩ = some (.slice (some ⟨r, 0, none⟩) cs.length cs.length) := h.hd.cell' rfl
theorem WriteM_ok {s : Shape} {ls : List Line} (h : (WriteM s ls).2 = 0) : shOk s = true ∧ checkLinesM ls = 0 ∧ writeM s ls = some (WriteM s ls).1 := by
  unfold WriteM at h ⊢
  by_cases h1 : shOk s = true
  · rw [if_pos h1] at h ⊢
    by_cases h2 : checkLinesM ls = 0
    · rw [if_pos h2] at h ⊢
      cases hm : writeM s ls with
      | none => rw [hm] at h; cases h
      | some rows => exact ⟨h1, h2, rfl⟩
    · rw [if_neg h2] at h; exact absurd h h2
  · rw [if_neg h1] at h; cases h
set_option maxRecDepth 4000 in
theorem Tryz.Store (N g : Nat) (s : Shape) (ms : List (List LM)) (F : Nat → Prop) (base : Option Addr) (cap : Nat) (ls : List Line) (w : World) (h : ShF w N g s ms F) (hS : ms.length ≤ 100) (hr : Row w base (rowC lineC ls)) (hl : ls.length ≤ cap) (hl2 : ls.length < 140737488355328) (hd : (WriteM s ls).2 = 0 → dataB s (WriteM s ls).1 = true) :
    CallA Tryz.prog 18 [.pointer (some ⟨g, 0, none⟩), .slice base ls.length cap] w fun v w' => v = .int .i64 (WriteM s ls).2 ∧ (∃ F', ShF w' N g s (storeM s ms ls) F' ∧ ∀ x, F' x → F x ∨ w.heap.size ≤ x) ∧ Fr F w w' := by
  obtain ⟨r, cs, hI, rfl⟩ := h
  have hO := hI.o
  have hhd := hO.hd
  have hgw := hhd.lt
  have hrw := (hO.row.at_ rfl).2
  have hlen : cs.length ≤ 100 := by simpa using hS
  refine callA_intro Tryz.tbOk Tryz.func18 rfl Tryz.ntmps18 Tryz.results18 (by decide) (by simp) ?_
  ((conv => whnf); repeat' (first | ((with_reducible first | refine q1 ?_ | refine q2 ?_); conv => whnf) | (with_reducible refine q3 ?_) | ((with_reducible refine q4 (fun _ => ?_) (fun _ => ?_)) <;> first | (exfalso; omega) | (conv => whnf)) | ((with_reducible first | refine q5 ?_ | refine q6 ?_ | refine q7 ?_ | refine q8 ?_ | refine q9 ?_ | refine q10 ?_ | refine q11 ?_ | refine q12 ?_ | refine q13 ?_ | refine q14 ?_ | refine q15 ?_); conv => whnf) | ((refine q16 (fun _ _ _ _ _ => ?_)); conv => whnf) | ((with_reducible first | refine q17 ?_ | refine q18 ?_ | refine q19 ?_ | refine q20 ?_); conv => whnf)))
  refine LoadN.mk' (vs := shC s) rfl hO.sh ?_
  ((conv => whnf); repeat' (first | ((with_reducible first | refine q1 ?_ | refine q2 ?_); conv => whnf) | (with_reducible refine q3 ?_) | ((with_reducible refine q4 (fun _ => ?_) (fun _ => ?_)) <;> first | (exfalso; omega) | (conv => whnf)) | ((with_reducible first | refine q5 ?_ | refine q6 ?_ | refine q7 ?_ | refine q8 ?_ | refine q9 ?_ | refine q10 ?_ | refine q11 ?_ | refine q12 ?_ | refine q13 ?_ | refine q14 ?_ | refine q15 ?_); conv => whnf) | ((refine q16 (fun _ _ _ _ _ => ?_)); conv => whnf) | ((with_reducible first | refine q17 ?_ | refine q18 ?_ | refine q19 ?_ | refine q20 ?_); conv => whnf)))
  refine CallA.mono (Tryz.WriteF s base cap ls w hr hl hl2) ?_; rintro v w1 ⟨v1, rfl, b, c, ss, rfl, hS1, hR1, he1, hF1⟩; ((conv => whnf); repeat' (first | ((with_reducible first | refine q1 ?_ | refine q2 ?_); conv => whnf) | (with_reducible refine q3 ?_) | ((with_reducible refine q4 (fun _ => ?_) (fun _ => ?_)) <;> first | (exfalso; omega) | (conv => whnf)) | ((with_reducible first | refine q5 ?_ | refine q6 ?_ | refine q7 ?_ | refine q8 ?_ | refine q9 ?_ | refine q10 ?_ | refine q11 ?_ | refine q12 ?_ | refine q13 ?_ | refine q14 ?_ | refine q15 ?_); conv => whnf) | ((refine q16 (fun _ _ _ _ _ => ?_)); conv => whnf) | ((with_reducible first | refine q17 ?_ | refine q18 ?_ | refine q19 ?_ | refine q20 ?_); conv => whnf)))
  · rename_i h0
    unfold storeM
    rw [if_neg h0]
    exact ⟨rfl, ⟨F, ⟨r, cs, ⟨hO.ex he1, hI.fg, hI.fr, hI.fp⟩, rfl⟩, fun x hx => .inl hx⟩, .ex he1⟩
  · rename_i h0
    have h0 := Decidable.not_not.1 h0
    obtain ⟨hsh, _, _⟩ := WriteM_ok h0
    have hdB := hd h0
    have hM : storeM s (cs.map Cp.m) ls = List.replicate cs.length (wholeM s (WriteM s ls).1) := by unfold storeM; rw [if_pos h0, List.length_map]
    rw [hM, h0]
    have hO1 := hO.ex he1
    have hhd1 := hO1.hd
    have hsz1 := he1.size
    refine Load1.blk hhd1 rfl ?_
    ((conv => whnf); repeat' (first | ((with_reducible first | refine q1 ?_ | refine q2 ?_); conv => whnf) | (with_reducible refine q3 ?_) | ((with_reducible refine q4 (fun _ => ?_) (fun _ => ?_)) <;> first | (exfalso; omega) | (conv => whnf)) | ((with_reducible first | refine q5 ?_ | refine q6 ?_ | refine q7 ?_ | refine q8 ?_ | refine q9 ?_ | refine q10 ?_ | refine q11 ?_ | refine q12 ?_ | refine q13 ?_ | refine q14 ?_ | refine q15 ?_); conv => whnf) | ((refine q16 (fun _ _ _ _ _ => ?_)); conv => whnf) | ((with_reducible first | refine q17 ?_ | refine q18 ?_ | refine q19 ?_ | refine q20 ?_); conv => whnf)))
    obtain ⟨lm, hlm⟩ : ∃ lm, lm = wholeM s (WriteM s ls).1 := ⟨_, rfl⟩
    refine loop_rule Tryz.tbOk (Nat × List Cp) [25] (fun | (k, _) => [.int .i64 (k:Int)])
      (fun | (k, ck), u => k ≤ cs.length ∧ ck.length = cs.length ∧ ShI u N g r s ck (fun x => F x ∨ w.heap.size ≤ x) ∧ ck.map Cp.m = List.replicate k lm ++ (cs.map Cp.m).drop k ∧ Fr F w u ∧ Sls u b ss ∧ w.heap.size ≤ u.heap.size) (fun | (k, _) => cs.length - k)
      (0, cs) rfl ⟨by omega, rfl, ⟨hO1, .inl hI.fg, .inl hI.fr, fun i hi x hx => .inl (hI.fp i hi x hx)⟩, by simp, .ex he1, hS1, he1.size⟩ ?_
    rintro ⟨k, ck⟩ u ⟨hk, hck, hIk, hmk, hfk, hSk, hzk⟩ ux
    by_cases hlt : k < cs.length
    · have hOk := hIk.o
      have hhdk := hOk.hd
      ((conv => whnf); repeat' (first | ((with_reducible first | refine q1 ?_ | refine q2 ?_); conv => whnf) | (with_reducible refine q3 ?_) | ((with_reducible refine q4 (fun _ => ?_) (fun _ => ?_)) <;> first | (exfalso; omega) | (conv => whnf)) | ((with_reducible first | refine q5 ?_ | refine q6 ?_ | refine q7 ?_ | refine q8 ?_ | refine q9 ?_ | refine q10 ?_ | refine q11 ?_ | refine q12 ?_ | refine q13 ?_ | refine q14 ?_ | refine q15 ?_); conv => whnf) | ((refine q16 (fun _ _ _ _ _ => ?_)); conv => whnf) | ((with_reducible first | refine q17 ?_ | refine q18 ?_ | refine q19 ?_ | refine q20 ?_); conv => whnf)))
      refine draw_rule Tryz.tbOk Tryz.mix (fun u2 => Ex u u2) (.take 0 (.take 1 (.take 2 (.take 3 (.take 4 (.take 5 (.take 6 (.take 7 (.take 8 (.take 9 (.one 10 (.take 11 (.fin 12))))))))))))) (by kernel_rfl) (by kernel_rfl) ?_
      intro u2 hd2
      have hO2 := hOk.ex hd2.ex
      refine ⟨hd2.ex, ?_⟩
      ((conv => whnf); repeat' (first | ((with_reducible first | refine q1 ?_ | refine q2 ?_); conv => whnf) | (with_reducible refine q3 ?_) | ((with_reducible refine q4 (fun _ => ?_) (fun _ => ?_)) <;> first | (exfalso; omega) | (conv => whnf)) | ((with_reducible first | refine q5 ?_ | refine q6 ?_ | refine q7 ?_ | refine q8 ?_ | refine q9 ?_ | refine q10 ?_ | refine q11 ?_ | refine q12 ?_ | refine q13 ?_ | refine q14 ?_ | refine q15 ?_); conv => whnf) | ((refine q16 (fun _ _ _ _ _ => ?_)); conv => whnf) | ((with_reducible first | refine q17 ?_ | refine q18 ?_ | refine q19 ?_ | refine q20 ?_); conv => whnf)))
      refine HoldN.mk' (vs := shC s) rfl hOk.sh (fun _ h => h) ?_
      ((conv => whnf); repeat' (first | ((with_reducible first | refine q1 ?_ | refine q2 ?_); conv => whnf) | (with_reducible refine q3 ?_) | ((with_reducible refine q4 (fun _ => ?_) (fun _ => ?_)) <;> first | (exfalso; omega) | (conv => whnf)) | ((with_reducible first | refine q5 ?_ | refine q6 ?_ | refine q7 ?_ | refine q8 ?_ | refine q9 ?_ | refine q10 ?_ | refine q11 ?_ | refine q12 ?_ | refine q13 ?_ | refine q14 ?_ | refine q15 ?_); conv => whnf) | ((refine q16 (fun _ _ _ _ _ => ?_)); conv => whnf) | ((with_reducible first | refine q17 ?_ | refine q18 ?_ | refine q19 ?_ | refine q20 ?_); conv => whnf)))
      have hwh := Tryz.whole s b c ss u2 (hSk.ex hd2.ex) hsh (by rw [hR1]; exact hdB)
      rw [hR1, ← hlm] at hwh
      refine CallA.mono hwh ?_
      rintro v u3 ⟨bl, cl, lv, rfl, hLv, hmv, he3⟩
      have he23 := hd2.ex.tr he3
      refine Anew.mk he23 ?_
      have hlv : lv.length = lm.length := by rw [← hmv, List.length_map]
      rw [← hlv]
      ((conv => whnf); repeat' (first | ((with_reducible first | refine q1 ?_ | refine q2 ?_); conv => whnf) | (with_reducible refine q3 ?_) | ((with_reducible refine q4 (fun _ => ?_) (fun _ => ?_)) <;> first | (exfalso; omega) | (conv => whnf)) | ((with_reducible first | refine q5 ?_ | refine q6 ?_ | refine q7 ?_ | refine q8 ?_ | refine q9 ?_ | refine q10 ?_ | refine q11 ?_ | refine q12 ?_ | refine q13 ?_ | refine q14 ?_ | refine q15 ?_); conv => whnf) | ((refine q16 (fun _ _ _ _ _ => ?_)); conv => whnf) | ((with_reducible first | refine q17 ?_ | refine q18 ?_ | refine q19 ?_ | refine q20 ?_); conv => whnf)))
      refine IdxA.at0' (k := k) rfl (by omega) ?_
      have hO3 := hOk.ex he23
      ((conv => whnf); repeat' (first | ((with_reducible first | refine q1 ?_ | refine q2 ?_); conv => whnf) | (with_reducible refine q3 ?_) | ((with_reducible refine q4 (fun _ => ?_) (fun _ => ?_)) <;> first | (exfalso; omega) | (conv => whnf)) | ((with_reducible first | refine q5 ?_ | refine q6 ?_ | refine q7 ?_ | refine q8 ?_ | refine q9 ?_ | refine q10 ?_ | refine q11 ?_ | refine q12 ?_ | refine q13 ?_ | refine q14 ?_ | refine q15 ?_); conv => whnf) | ((refine q16 (fun _ _ _ _ _ => ?_)); conv => whnf) | ((with_reducible first | refine q17 ?_ | refine q18 ?_ | refine q19 ?_ | refine q20 ?_); conv => whnf)))
      refine StoreA.own1 hO3.row rfl (by omega) rfl fun u4 hu4 ho4 => ?_
      ((conv => whnf); repeat' (first | ((with_reducible first | refine q1 ?_ | refine q2 ?_); conv => whnf) | (with_reducible refine q3 ?_) | ((with_reducible refine q4 (fun _ => ?_) (fun _ => ?_)) <;> first | (exfalso; omega) | (conv => whnf)) | ((with_reducible first | refine q5 ?_ | refine q6 ?_ | refine q7 ?_ | refine q8 ?_ | refine q9 ?_ | refine q10 ?_ | refine q11 ?_ | refine q12 ?_ | refine q13 ?_ | refine q14 ?_ | refine q15 ?_); conv => whnf) | ((refine q16 (fun _ _ _ _ _ => ?_)); conv => whnf) | ((with_reducible first | refine q17 ?_ | refine q18 ?_ | refine q19 ?_ | refine q20 ?_); conv => whnf)))
      obtain ⟨cp, hcp⟩ : ∃ cp : Cp, cp = ⟨bl, cl, lv⟩ := ⟨_, rfl⟩
      have hcv : Value.slice bl lv.length cl = cp.val := by rw [hcp]; rfl
      rw [hcv, cpRow_set] at ho4
      have hkk : k < ck.length := by omega
      have hsz2 : u.heap.size = u2.heap.size := by rw [hd2.size]
      have hLc : LvO u3 u.heap.size cp.base cp.cap cp.ls := by rw [hcp, hsz2]; exact hLv
      have hfr : ∀ x ∈ cp.fp, u.heap.size ≤ x := fun x hx => (hLc.fp_lt x hx).1
      have hNg := hOk.gN
      have hgu := hhdk.lt
      have hnew := hOk.put hkk cp (row := none) (grown_ex he23) (by intro x e; cases e) (hLc.mono (by omega)) (fun x hx => .inr (hfr x hx)) hu4 ho4
      refine ⟨(k + 1, ck.set k cp), rfl, ⟨by omega, by simpa using hck, ⟨hnew, hIk.fg, hIk.fr, ?_⟩, ?_, (hfk.tr (.ex he23)).tr (.upd hu4 ?_), ?_, ?_⟩, by simp only []; omega⟩
      · intro j hj x hx
        have hj' : j < ck.length := by simpa using hj
        rw [List.getElem_set] at hx
        split at hx
        · have := hfr x hx; exact .inr (by omega)
        · exact hIk.fp j hj' x hx
      · rw [List.map_set, hmk, hcp]
        show List.set _ k (lv.map Lf.m) = _
        rw [hmv, List.set_append_right _ _ (by simp)]
        rw [List.length_replicate, Nat.sub_self, List.drop_eq_getElem_cons (by simpa using hlt), List.set_cons_zero, List.replicate_succ', List.append_assoc]
        rfl
      · exact hI.fr
      · exact Sls.upd (hSk.ex he23) hu4 hF1 hrw
      · have := he23.size; rw [hu4.size]; omega
    · ((conv => whnf); repeat' (first | ((with_reducible first | refine q1 ?_ | refine q2 ?_); conv => whnf) | (with_reducible refine q3 ?_) | ((with_reducible refine q4 (fun _ => ?_) (fun _ => ?_)) <;> first | (exfalso; omega) | (conv => whnf)) | ((with_reducible first | refine q5 ?_ | refine q6 ?_ | refine q7 ?_ | refine q8 ?_ | refine q9 ?_ | refine q10 ?_ | refine q11 ?_ | refine q12 ?_ | refine q13 ?_ | refine q14 ?_ | refine q15 ?_); conv => whnf) | ((refine q16 (fun _ _ _ _ _ => ?_)); conv => whnf) | ((with_reducible first | refine q17 ?_ | refine q18 ?_ | refine q19 ?_ | refine q20 ?_); conv => whnf)))
      have hkl : k = cs.length := by omega
      subst hkl
      refine ⟨rfl, ⟨_, ⟨r, ck, hIk, ?_⟩, fun x h => h⟩, hfk⟩
      rw [hmk, hlm, List.drop_eq_nil_of_le (by rw [List.length_map]; exact Nat.le_refl _), List.append_nil]
end Go.Proofs
