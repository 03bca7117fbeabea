/-
  V3: that the conditions of single operations suffice.
-/
import Derived.Test.YtpeihahmhpamoaaGreatV2
set_option linter.all false
namespace Go.V
open Go

variable {P : Program} {tb : Tb}

theorem opRes_value {s : Sem Next} {t : Sem Value} {w : World} {K : Value → World → Prop} (hs : s = (do pure (.value (← t)))) (h : RunV P t w K) : OpRes P s w K := by
  obtain ⟨v, w', hr, hk⟩ := h.out
  subst hs
  simp only [OpRes, Sem.run_bind, hr, Result.andThen_ok, Sem.run_pure]
  exact hk
theorem opRes_unit {s : Sem Next} {t : Sem Unit} {w : World} {K : World → Prop} {K' : Value → World → Prop} (hs : s = (do t; pure .skip)) (h : RunU P t w K) (hk : ∀ w, K w → K' undef w) : OpRes P s w K' := by
  obtain ⟨w', hr, hK⟩ := h.out
  subst hs
  simp only [OpRes, Sem.run_bind, hr, Result.andThen_ok, Sem.run_pure]
  exact hk _ hK
theorem opRes_pure {s : Sem Next} {v : Value} {w : World} {K : Value → World → Prop} (hs : s.run P w = .ok (.value v) w) (h : K v w) : OpRes P s w K := by
  simp only [OpRes, hs]; exact h

theorem run_underlying' {t : TypeId} {ti : TI} (h : TyIs P t ti) (w : World) : (underlying t).run P w = .ok ti.desc w := by
  simp [underlying, program, Sem.run, h.und]
theorem run_typeInfo' {t : TypeId} {ti : TI} (h : TyIs P t ti) (w : World) : ∃ i, (typeInfo t).run P w = .ok i w ∧ i.size = ti.size ∧ i.bytes = ti.bytes ∧ i.zero = ti.zero := by
  obtain ⟨i, hi, h1, h2, h3⟩ := h.info
  exact ⟨i, by simp [typeInfo, program, Sem.run, hi], h1, h2, h3⟩
theorem run_sizeOf' {t : TypeId} {ti : TI} (h : TyIs P t ti) (w : World) : (sizeOf t).run P w = .ok ti.size w := by
  obtain ⟨i, hi, h1, h2, h3⟩ := run_typeInfo' h w
  simp [sizeOf, hi, h1]
theorem run_isAgg' {t : TypeId} {ti : TI} (h : TyIs P t ti) (w : World) : (isAgg t).run P w = .ok (isAggD ti.desc) w := by
  simp only [isAgg, Sem.run_bind, run_underlying' h, Result.andThen_ok]
  cases ti.desc <;> simp [isAggD]
theorem run_zero' {t : TypeId} {ti : TI} {z : Value} (h : TyIs P t ti) (hz : ti.zero = some z) (w : World) : (zeroValue t).run P w = .ok z w := by
  obtain ⟨i, hi, h1, h2, h3⟩ := run_typeInfo' h w
  simp [zeroValue, hi, h3, hz]

theorem intBin_ok (op : BinOp) (t : TypeId) (x y : Operand) (a b : Int) (w : World) {K : Value → World → Prop}
    (h : vBin op a b w K (RunV P (binOp op t (.int .i64 a) (.int .i64 b)) w K)) :
    RunV P (do eqGuard op t x y (.int .i64 a) (.int .i64 b); binOp op t (.int .i64 a) (.int .i64 b)) w K := by
  have hg : (eqGuard op t x y (.int .i64 a) (.int .i64 b)).run P w = .ok () w := by
    unfold eqGuard
    cases op <;> simp
  refine ⟨?_⟩
  simp only [Sem.run_bind, hg, Result.andThen_ok]
  cases op <;> simp only [vBin] at h
  case add => exact ⟨_, w, by simp [binOp, Op.intArith], h.out⟩
  case sub => exact ⟨_, w, by simp [binOp, Op.intArith], h.out⟩
  case mul => exact ⟨_, w, by simp [binOp, Op.intArith], h.out⟩
  case quo => exact ⟨_, w, by simp [binOp, Op.intDiv, h.out.1], h.out.2⟩
  case rem => exact ⟨_, w, by simp [binOp, Op.intDiv, h.out.1], h.out.2⟩
  case eql => exact ⟨_, w, by simp [binOp, Op.intCmp]; rfl, h⟩
  case neq => exact ⟨.bool (a != b), w, by simp [binOp, Op.intCmp], by rw [show (a != b) = decide (a ≠ b) from by rw [Bool.eq_iff_iff]; simp]; exact h⟩
  case lss => exact ⟨_, w, by simp [binOp, Op.intCmp], h⟩
  case leq => exact ⟨_, w, by simp [binOp, Op.intCmp], h⟩
  case gtr => exact ⟨_, w, by simp [binOp, Op.intCmp], h⟩
  case geq => exact ⟨_, w, by simp [binOp, Op.intCmp], h⟩
  all_goals exact h.out

theorem addr_add_zero (a : Addr) : a.add 0 = a := by simp [Addr.add]

theorem loadAt_one {t : TypeId} {ti : TI} {a : Addr} {w : World} {K : Value → World → Prop} (h : TyIs P t ti) (ha : isAggD ti.desc = false) (hl : Load1 w a fun v => K v w) :
    RunV P (Instr.loadAt t (.pointer (some a))) w K := by
  obtain ⟨v, hv, hk⟩ := hl.out
  exact ⟨v, w, by simp [Instr.loadAt, Instr.sureAddr, loadVar, run_isAgg' h, ha, hv], hk⟩
theorem loadAt_agg {t : TypeId} {ti : TI} {a : Addr} {w : World} {K : Value → World → Prop} (h : TyIs P t ti) (ha : isAggD ti.desc = true) (hl : LoadN P w a ti.size fun vs => K (.agg vs.toArray) w) :
    RunV P (Instr.loadAt t (.pointer (some a))) w K := by
  obtain ⟨vs, hv, hk⟩ := hl.out
  exact ⟨_, w, by simp [Instr.loadAt, Instr.sureAddr, loadVar, run_isAgg' h, ha, run_sizeOf' h, hv], hk⟩
theorem storeAt_ok {t : TypeId} {ti : TI} {a : Addr} {v : Value} {w : World} {K : World → Prop} (h : TyIs P t ti) (hl : StoreA P w a (cellsOf v) ti.size K) :
    RunU P (Instr.storeAt t (.pointer (some a)) v) w K := by
  obtain ⟨hn, w', hs, hk⟩ := hl.out
  have hsz : v.cells.size = ti.size := by rw [← Array.length_toList, cellsOf_eq]; exact hn
  exact ⟨w', by simp [Instr.storeAt, Instr.sureAddr, storeVar, run_sizeOf' h, hsz, cellsOf_eq, hs], hk⟩
theorem fieldAt_ok {t : TypeId} {ti tf : TI} {fs : Array Field} {fd : Field} {f : Nat} {a : Addr} {w : World} {K : Value → World → Prop} (h : TyIs P t ti) (hd : ti.desc = .struct fs)
    (hf : fs[f]? = some fd) (ht : TyIs P fd.type tf) (hz : tf.size ≠ 0) (hk : K (.pointer (some (a.add fd.offset))) w) :
    RunV P (Instr.fieldAt t (.pointer (some a)) f) w K := by
  refine ⟨_, w, ?_, hk⟩
  simp [Instr.fieldAt, Instr.sureAddr, run_underlying' h, hd, hf, fieldPlace, run_sizeOf' ht, hz]
theorem indexAt_slice {t e : TypeId} {ti te : TI} {i : Int} {k : IntKind} {base : Option Addr} {len cap : Nat} {w : World} {K : Value → World → Prop} (h : TyIs P t ti) (hd : ti.desc = .slice e)
    (he : TyIs P e te) (hk : IdxA base i len te.size fun a => K (.pointer (some a)) w) :
    RunV P (Instr.indexAt t (.slice base len cap) (.int k i)) w K := by
  obtain ⟨a, rfl, h0, h1, hk⟩ := hk.out
  refine ⟨_, w, ?_, hk⟩
  simp [Instr.indexAt, run_underlying' h, hd, asIntOf, run_sizeOf' he, h0, h1]
theorem indexAt_arr {t e : TypeId} {ti te : TI} {i : Int} {k : IntKind} {n : Nat} {a : Addr} {w : World} {K : Value → World → Prop} (h : TyIs P t ti) (hd : ti.desc = .array n e)
    (he : TyIs P e te) (hk : IdxA (some a) i n te.size fun a => K (.pointer (some a)) w) :
    RunV P (Instr.indexAt t (.pointer (some a)) (.int k i)) w K := by
  obtain ⟨a', ha, h0, h1, hk⟩ := hk.out
  cases ha
  refine ⟨_, w, ?_, hk⟩
  simp [Instr.indexAt, Instr.sureAddr, run_underlying' h, hd, asIntOf, run_sizeOf' he, h0, h1]

theorem dropVK_spec : ∀ {n : Nat} {l : List Value} {k : List Value → Prop}, dropVK n l k → n ≤ l.length ∧ k (l.drop n)
  | 0, _, _, h => ⟨Nat.zero_le _, h⟩
  | _ + 1, [], _, h => h.elim
  | n + 1, _ :: r, _, h => by obtain ⟨h1, h2⟩ := dropVK_spec (l := r) h; exact ⟨by simpa using h1, h2⟩
theorem segK_spec {size : Nat} {v : Value} : ∀ {off : Nat} {cells : List Value} {k : List Value → Prop}, segK cells off size v k →
    (cellsOf v).length = size ∧ off + size ≤ cells.length ∧ k (cells.take off ++ cellsOf v ++ cells.drop (off + size))
  | 0, cells, k, h => by
    have h : LenA (cellsOf v) size (dropVK size cells fun post => match (generalizing := false) v with
      | .agg cs => k (cs.toList ++ post)
      | v => k (v :: post)) := by cases cells <;> exact h
    obtain ⟨h1, h2⟩ := dropVK_spec h.a
    refine ⟨h.len, by omega, ?_⟩
    rw [Nat.zero_add]
    cases v <;> exact h2
  | n + 1, [], _, h => h.elim
  | n + 1, x :: r, k, h => by
    obtain ⟨h1, h2, h3⟩ := segK_spec (off := n) (cells := r) h
    refine ⟨h1, by simp; omega, ?_⟩
    rw [show n + 1 + size = (n + size) + 1 from by omega]
    exact h3
theorem foldl_put (off : Nat) : ∀ (vs pre mid post : List Value) (k : Nat), pre.length = off + k → mid.length = vs.length →
    (vs.zipIdx k).foldl (fun (cs : Array Value) (p : Value × Nat) => cs.setIfInBounds (off + p.2) p.1) (pre ++ mid ++ post).toArray = (pre ++ vs ++ post).toArray := by
  intro vs
  induction vs with
  | nil => intro pre mid post k _ hm; have : mid = [] := List.length_eq_zero_iff.1 (by simpa using hm); subst this; simp
  | cons v r ih =>
    intro pre mid post k hp hm
    cases mid with
    | nil => simp at hm
    | cons m ms =>
      simp only [List.zipIdx_cons, List.foldl_cons]
      have e : (pre ++ m :: ms ++ post).toArray.setIfInBounds (off + k) v = ((pre ++ [v]) ++ ms ++ post).toArray := by
        rw [List.setIfInBounds_toArray, ← hp]
        simp
      rw [e, ih (pre ++ [v]) ms post (k + 1) (by simp [hp]; omega) (by simpa using hm)]
      simp
theorem fillK_spec {place : Nat → (Nat → Nat → Prop) → Prop} {place' : Nat → Option (Nat × Nat)} (hp : ∀ i f, place i f → ∃ off size, place' i = some (off, size) ∧ f off size) :
    ∀ (ps : List (Nat × Value)) {cells : List Value} {k : List Value → Prop}, fillK place ps cells k → ∃ cells', Instr.fill place' cells.toArray ps = some cells'.toArray ∧ k cells' := by
  intro ps
  induction ps with
  | nil => intro cells k h; exact ⟨cells, rfl, h⟩
  | cons p r ih =>
    obtain ⟨i, v⟩ := p
    intro cells k h
    obtain ⟨off, size, hpl, h⟩ := hp _ _ h
    obtain ⟨h1, h2, h3⟩ := segK_spec h
    obtain ⟨cells', hf, hk⟩ := ih h3
    refine ⟨cells', ?_, hk⟩
    have hsz : v.cells.size = size := by rw [← Array.length_toList, cellsOf_eq]; exact h1
    have hno : ¬ cells.length < off + size := by omega
    simp only [Instr.fill, hpl, hsz, List.size_toArray]
    rw [if_neg (by simp; omega)]
    have e : Array.foldl (fun (cs : Array Value) (p : Value × Nat) => match p with | (c, j) => cs.setIfInBounds (off + j) c) cells.toArray v.cells.zipIdx = (cells.take off ++ cellsOf v ++ cells.drop (off + size)).toArray := by
      rw [← Array.foldl_toList, Array.toList_zipIdx, cellsOf_eq]
      have := foldl_put off (cellsOf v) (cells.take off) ((cells.drop off).take size) (cells.drop (off + size)) 0 (by simp; omega) (by rw [h1]; simp; omega)
      rw [← this]
      congr 1
      rw [List.append_assoc, ← List.drop_drop, List.take_append_drop, List.take_append_drop]
    rw [e]
    exact hf
theorem placesK_spec (hok : TbOk P tb) : ∀ (fs : List Field) {k : List (Nat × Nat) → Prop}, placesK tb fs k →
    ∃ pl, (∀ w, (fs.mapM fun f => (do pure (f.offset, ← sizeOf f.type) : Sem (Nat × Nat))).run P w = .ok pl w) ∧ k pl := by
  intro fs
  induction fs with
  | nil => exact fun h => ⟨[], fun _ => rfl, h⟩
  | cons f r ih =>
    intro k h
    obtain ⟨tf, htf, h⟩ := Tb.get_ty hok h
    obtain ⟨pl, hpl, hk⟩ := ih h
    refine ⟨(f.offset, tf.size) :: pl, fun w => ?_, hk⟩
    rw [List.mapM_cons, Sem.run_bind]
    simp only [Sem.run_bind, run_sizeOf' htf, Result.andThen_ok, Sem.run_pure, hpl]
theorem vBuild_spec (hok : TbOk P tb) {t : Nat} {ps : List (Nat × Value)} {K : Value → Prop} (h : vBuild tb t ps K) : ∃ v, (∀ w, (Instr.build t ps.toArray).run P w = .ok v w) ∧ K v := by
  obtain ⟨ti, ht, h⟩ := Tb.get_ty hok h
  cases hz : ti.zero with
  | none => rw [hz] at h; exact h.elim
  | some z =>
    rw [hz] at h
    cases hd : ti.desc <;> rw [hd] at h <;> try exact h.elim
    case struct fs =>
      obtain ⟨pl, hpl, hk⟩ := placesK_spec hok fs.toList h
      obtain ⟨cells, hc, hk⟩ := fillK_spec (place' := (pl.toArray[·]?)) (fun i f hf => by
        obtain ⟨p, hp, hf⟩ := nthK_spec hf
        exact ⟨p.1, p.2, by simpa using hp, hf⟩) ps hk
      refine ⟨_, fun w => ?_, hk⟩
      have hcz : z.cells = (cellsOf z).toArray := by rw [← cellsOf_eq]
      simp only [Instr.build, Sem.run_bind, run_zero' ht hz, Result.andThen_ok, run_underlying' ht, hd]
      rw [Array.mapM_eq_mapM_toList]
      simp only [Sem.run_map, hpl, Result.andThen_ok, hcz, hc, Sem.run_pure]
    case array n e =>
      obtain ⟨te, hte, h⟩ := Tb.get_ty hok h
      obtain ⟨cells, hc, hk⟩ := fillK_spec (place' := fun i => some (i * te.size, te.size)) (fun i f hf => ⟨_, _, rfl, hf⟩) ps h
      refine ⟨_, fun w => ?_, hk⟩
      have hcz : z.cells = (cellsOf z).toArray := by rw [← cellsOf_eq]
      simp only [Instr.build, Sem.run_bind, run_zero' ht hz, Result.andThen_ok, run_underlying' ht, hd, run_sizeOf' hte, hcz, hc, Sem.run_pure]

theorem forceK_iff (l : List Value) : ∀ {k : List Value → Prop}, forceK l k ↔ k l := by
  induction l with
  | nil => exact Iff.rfl
  | cons x r ih => intro k; exact ih
theorem vBuildS_spec (hok : TbOk P tb) {t n : Nat} {ps : List (Nat × Value)} {w : World} {K : Value → World → Prop} (h : vBuildS tb t n ps fun e cells => NewS w (.cells cells.toArray e) n K) : RunV P (Instr.buildSlice t n ps.toArray) w K := by
  obtain ⟨ti, ht, h⟩ := Tb.get_ty hok h
  cases hd : ti.desc <;> rw [hd] at h <;> try exact h.elim
  rename_i e
  obtain ⟨te, hte, h⟩ := Tb.get_ty hok h
  cases hz : te.zero with
  | none => rw [hz] at h; exact h.elim
  | some z =>
    rw [hz] at h
    obtain ⟨hbig, h⟩ := h
    have h := (forceK_iff _).1 h
    obtain ⟨cells, hc, hk⟩ := fillK_spec (place' := fun i => some (i * te.size, te.size)) (fun i f hf => ⟨_, _, rfl, hf⟩) ps h
    refine ⟨_, _, ?_, hk.out⟩
    have hcz : z.cells = (cellsOf z).toArray := by rw [← cellsOf_eq]
    simp only [Instr.buildSlice, Sem.run_bind, run_underlying' ht, hd, Result.andThen_ok, run_sizeOf' hte]
    rw [if_neg (by omega)]
    by_cases h0 : n * te.size = 0
    · rw [if_pos h0]
      have hcells : (Array.range (n * te.size)).map (fun i => (#[] : Array Value)[i % (#[] : Array Value).size]!) = ((List.range (n * te.size)).map fun i => ((cellsOf z)[i % (cellsOf z).length]?).getD default).toArray := by
        simp [h0]
      simp only [Sem.run_bind, Sem.run_pure, Result.andThen_ok, hcells, hc, newRow, newObj, Sem.run]
      rfl
    · rw [if_neg h0]
      have hcells : (Array.range (n * te.size)).map (fun i => (cellsOf z).toArray[i % (cellsOf z).toArray.size]!) = ((List.range (n * te.size)).map fun i => ((cellsOf z)[i % (cellsOf z).length]?).getD default).toArray := by
        apply Array.ext'
        simp [List.getElem!_eq_getElem?_getD]
      simp only [Sem.run_bind, Sem.run_pure, Result.andThen_ok, run_zero' hte hz, hcz, hcells, hc, newRow, newObj, Sem.run]
      rfl

/-- THE CONDITION OF AN OPERATION SUFFICES. -/
theorem vOp_sound {tb : Tb} (hok : TbOk P tb) {σ : Env} {ds : List Deferred} {a : Act} (hr : Rel σ ds a) {o : Oper} {w : World} {K : Value → World → Prop}
    (h : vOp P tb o.op o.type σ w K) : OpRes P (execOp a.eval o) w K := by
  obtain ⟨dst, op, ty, pos, after, guard⟩ := o
  cases op <;> simp only [vOp] at h <;> try exact h.elim
  case move x => exact opRes_pure (by simp [execOp]) (evK_spec hr h)
  case assign x => exact opRes_pure (by simp [execOp]) (evK_spec hr h)
  case pick c x y =>
    have h := evK_spec hr (evK_spec hr (evK_spec hr h))
    cases hc : a.eval c <;> rw [hc] at h <;> try exact h.elim
    rename_i t
    cases t
    · exact opRes_pure (by simp [execOp, hc, asBool]) (h.f rfl)
    · exact opRes_pure (by simp [execOp, hc, asBool]) (h.t rfl)
  case alloc t =>
    obtain ⟨ti, ht, h⟩ := Tb.get_ty hok h
    cases hz : ti.zero with
    | none => rw [hz] at h; exact h.elim
    | some z =>
      rw [hz] at h
      exact opRes_value rfl ⟨.pointer (some ⟨w.heap.size, 0, none⟩), w.alloc (.cells z.cells t), by simp [Instr.alloc, run_zero' ht hz, newVar, newRow, newObj, Sem.run], by simpa [← cellsOf_eq] using h.out⟩
  case box t x =>
    have h := evK_spec hr h
    exact opRes_value rfl ⟨.pointer (some ⟨w.heap.size, 0, none⟩), w.alloc (.cells (a.eval x).cells t), by simp [Instr.box, newVar, newRow, newObj, Sem.run], by simpa [← cellsOf_eq] using h.out⟩
  case build t ps =>
    obtain ⟨v, hv, hk⟩ := vBuild_spec hok (partsK_spec hr _ h)
    rw [parts_arr] at hv
    exact opRes_value rfl ⟨v, w, hv w, hk⟩
  case buildSlice t n ps =>
    have h := vBuildS_spec hok (partsK_spec hr _ h)
    rw [parts_arr] at h
    exact opRes_value rfl h
  case insert t m k x => exact opRes_unit rfl (evK_spec hr (evK_spec hr (evK_spec hr h))) fun _ h => h
  case load t x =>
    have h := evK_spec hr h
    cases hx : a.eval x <;> rw [hx] at h <;> try exact h.elim
    rename_i p
    cases p with
    | none => exact h.elim
    | some p =>
      obtain ⟨ti, ht, h⟩ := Tb.get_ty hok h
      refine opRes_value (by first | (simp only [execOp, hx]; done) | (simp only [execOp, hx]; rfl)) ?_
      cases ha : isAggD ti.desc <;> rw [ha] at h
      · exact loadAt_one ht ha h
      · exact loadAt_agg ht ha h
  case store t x y =>
    have h := evK_spec hr (evK_spec hr h)
    cases hx : a.eval x <;> rw [hx] at h <;> try exact h.elim
    rename_i p
    cases p with
    | none => exact h.elim
    | some p =>
      obtain ⟨ti, ht, h⟩ := Tb.get_ty hok h
      exact opRes_unit (by first | (simp only [execOp, hx]; done) | (simp only [execOp, hx]; rfl)) (storeAt_ok ht h) fun _ h => h
  case nilCheck x =>
    have h := evK_spec hr h
    cases hx : a.eval x <;> rw [hx] at h <;> try exact h.elim
    case pointer p =>
      cases p with
      | none => exact h.elim
      | some p => exact opRes_pure (by simp [execOp, hx]) h
    case func fn f c =>
      cases fn <;> try exact h.elim
      exact opRes_pure (by simp [execOp, hx]) h
  case binOp op t x y ty' =>
    have h := evK_spec hr (evK_spec hr h)
    refine opRes_value rfl ?_
    split at h
    · rename_i x1 x2 h1 h2; rw [h1, h2]; exact intBin_ok _ _ _ _ _ _ _ h
    · exact h
  case unOp op t x =>
    have h := evK_spec hr h
    refine opRes_value rfl ?_
    split at h
    · rename_i h1 _; rw [h1]; exact ⟨_, w, by simp [Op.unary], h⟩
    · rename_i h1 _; rw [h1]; exact ⟨_, w, by simp [Op.unary, Op.intArith], h.out⟩
    · exact h
  case convert s d x => exact opRes_value rfl (evK_spec hr h)
  case sliceToArrayPointer d x => exact opRes_value rfl (evK_spec hr h)
  case makeInterface t x => exact opRes_value rfl (evK_spec hr h)
  case makeFunc fn f c =>
    have h := evsK_spec hr _ (evsK_spec hr _ h)
    exact opRes_pure (v := .func fn (f.map a.eval) (c.map a.eval)) (by simp [execOp, Instr.makeFunc]) (by
      rw [show (f.toList.map a.eval).toArray = f.map a.eval from by apply Array.ext'; simp, show (c.toList.map a.eval).toArray = c.map a.eval from by apply Array.ext'; simp] at h; exact h)
  case makeMap t r =>
    cases r with
    | none => exact opRes_value (t := Instr.makeMap t none) rfl ⟨.map (some w.heap.size), w.alloc (.map #[] 0), by simp [Instr.makeMap, newObj, Sem.run], h⟩
    | some r => exact h.elim
  case makeSlice t l c => exact opRes_value rfl (evK_spec hr (evK_spec hr h))
  case slice t x lo hi mx => exact opRes_value rfl (optK_spec hr (optK_spec hr (optK_spec hr (evK_spec hr h))))
  case fieldAddr t x f =>
    have h := evK_spec hr h
    cases hx : a.eval x <;> rw [hx] at h <;> try exact h.elim
    rename_i p
    cases p with
    | none => exact h.elim
    | some p =>
      obtain ⟨ti, ht, h⟩ := Tb.get_ty hok h
      cases hd : ti.desc <;> rw [hd] at h <;> try exact h.elim
      obtain ⟨fd, hfd, h⟩ := nthK_spec h
      obtain ⟨tf, htf, h⟩ := Tb.get_ty hok h
      cases hz : tf.size with
      | zero => rw [hz] at h; exact h.elim
      | succ m =>
        rw [hz] at h
        exact opRes_value (by first | (simp only [execOp, hx]; done) | (simp only [execOp, hx]; rfl)) (fieldAt_ok ht hd (by simpa using hfd) htf (by omega) (addK_iff.1 h))
  case field t x f => exact opRes_value rfl (evK_spec hr h)
  case indexAddr t x i =>
    have h := evK_spec hr (evK_spec hr h)
    cases hi : a.eval i <;> rw [hi] at h <;> try exact h.elim
    rename_i k n
    obtain ⟨ti, ht, h⟩ := Tb.get_ty hok h
    refine opRes_value (by first | (simp only [execOp, hi]; done) | (simp only [execOp, hi]; rfl)) ?_
    split at h
    · rename_i h1 h2
      obtain ⟨te, hte, h⟩ := Tb.get_ty hok h
      rw [h2]; exact indexAt_slice ht h1 hte h
    · rename_i h1 h2
      obtain ⟨te, hte, h⟩ := Tb.get_ty hok h
      rw [h2]; exact indexAt_arr ht h1 hte h
    · exact h.elim
  case index t x i => exact opRes_value rfl (evK_spec hr (evK_spec hr h))
  case lookup t x i ok => exact opRes_value rfl (evK_spec hr (evK_spec hr h))
  case mapUpdate t m k x => exact opRes_unit rfl (evK_spec hr (evK_spec hr (evK_spec hr h))) fun _ h => h
  case mapEntry t m k => exact opRes_value rfl (evK_spec hr (evK_spec hr h))
  case entryStore t m s x => exact opRes_unit rfl (evK_spec hr (evK_spec hr (evK_spec hr h))) fun _ h => h
  case range t x => exact opRes_value rfl (evK_spec hr h)
  case next it s => exact opRes_value rfl (evK_spec hr h)
  case entry it => exact opRes_value rfl (evK_spec hr h)
  case typeAssert x t u ok => exact opRes_value rfl (evK_spec hr h)
  case extract x i =>
    have h := evK_spec hr h
    cases hx : a.eval x <;> rw [hx] at h <;> try exact h.elim
    rename_i vs
    obtain ⟨u, hu, h⟩ := nthK_spec h
    exact opRes_pure (by simp [execOp, hx, Instr.extract, show vs[i]? = some u by simpa using hu]) h
  case call c =>
    obtain ⟨callee, args, argTypes⟩ := c
    have h := evsK_spec hr _ h
    cases callee with
    | value f =>
      have h := evK_spec hr h
      simp only [vCall] at h
      split at h
      · rename_i g first captured hf
        have hc := h.can w
        have ho := h.out
        unfold OpRes
        have e : (first.toList ++ args.toList.map a.eval ++ captured.toList).toArray = first ++ args.map a.eval ++ captured := by
          apply Array.ext'; simp
        rw [e] at hc ho
        simp only [execOp, resolve, hf, Deferred.ofValue, Sem.run_bind, Sem.run_pure, Result.andThen_ok, invoke, hc]
        exact ho
      · rename_i l first captured hf
        have ho := h.out
        unfold OpRes at *
        have e : (first.toList ++ args.toList.map a.eval).toArray = first ++ args.map a.eval := by
          apply Array.ext'; simp
        rw [e] at ho
        simp only [execOp, resolve, hf, Deferred.ofValue, Sem.run_bind, Sem.run_pure, Result.andThen_ok, invoke]
        exact ho
      · exact h.elim
    | invoke r m => exact h.elim
    | builtin b =>
      have e : (args.toList.map a.eval).toArray = args.map a.eval := by apply Array.ext'; simp
      have fin : ∀ (t : Sem Value), RunV P t w K → execOp a.eval ⟨dst, .call ⟨.builtin b, args, argTypes⟩, ty, pos, after, guard⟩ = (do
          let d ← (pure { target := .builtin b argTypes ty (args.map fun | .const _ => true | _ => false), args := args.map a.eval } : Sem Deferred); pure (.value (← t))) → OpRes P (execOp a.eval ⟨dst, .call ⟨.builtin b, args, argTypes⟩, ty, pos, after, guard⟩) w K := by
        intro t ht he
        obtain ⟨v, w', hv, hk⟩ := ht.out
        simp only [OpRes, he, Sem.run_bind, Sem.run_pure, Result.andThen_ok, hv]
        exact hk
      cases b <;> try exact h.elim
      case append => exact fin _ (by rw [e] at h; exact h) rfl
      case cap => exact fin _ (by rw [e] at h; exact h) rfl
      case clear => exact fin _ (by rw [e] at h; exact h) rfl
      case copy => exact fin _ (by rw [e] at h; exact h) rfl
      case delete => exact fin _ (by rw [e] at h; exact h) rfl
      case max => exact fin _ (by rw [e] at h; exact h) rfl
      case min => exact fin _ (by rw [e] at h; exact h) rfl
      case len =>
        simp only [] at h
        split at h
        · rename_i v hv
          split at h
          · rename_i t rest hat
            obtain ⟨ti, ht, h⟩ := Tb.get_ty hok h
            have hargs : args.map a.eval = #[v] := by rw [← e, hv]
            refine fin (Builtin.len_ argTypes ty (args.map a.eval)) ?_ rfl
            rw [hargs]
            simp only [e, hargs] at h
            split at h
            · rename_i el hd
              cases v <;> simp only [vLen] at h <;> try exact h
              rename_i base n cap
              refine ⟨_, w, ?_, h⟩
              have h0 : argTypes[0]? = some t := by rw [← Array.getElem?_toList, hat]; rfl
              simp [Builtin.len_, h0, run_underlying' ht, hd, goInt]
            · exact h
          · exact h.elim
        · exact h.elim
end Go.V
