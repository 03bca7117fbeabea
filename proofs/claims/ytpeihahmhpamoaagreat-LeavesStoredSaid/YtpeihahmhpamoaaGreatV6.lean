/-
  V6: regions that draw their order. A schedule says which operations are taken first (they yield the same in every world that meets S), and where whatever may come up has to be looked at.
-/
import Derived.Test.YtpeihahmhpamoaaGreatV5
import Derived.OrdersHeld
set_option linter.all false
namespace Go.V
open Go

variable {P : Program} {tb : Tb} {ρ : Option Nat}

/-! ### operations that yield in whatever world, or in every world that meets S -/
structure Hold1 (S : World → Prop) (a : Addr) (K : Value → Prop) : Prop where
  out : ∃ v, (∀ w, S w → w.cell? a = some v) ∧ K v
structure HoldN (P : Program) (S : World → Prop) (a : Addr) (n : Nat) (K : List Value → Prop) : Prop where
  out : ∃ vs : List Value, (∀ w, S w → (loadCells a n).run P w = .ok vs.toArray w) ∧ K vs
/-- a value that a computation yields in every world that meets S -/
structure HoldV (P : Program) (S : World → Prop) (s : Sem Value) (K : Value → Prop) : Prop where
  out : ∃ v, (∀ w, S w → s.run P w = .ok v w) ∧ K v

def vPure (P : Program) (tb : Tb) (S : World → Prop) (o : Op) (ty : TypeId) (σ : Env) (K : Value → Prop) : Prop :=
  match o with
  | .move x | .assign x => evK σ x K
  | .pick c x y => evK σ c fun c => evK σ x fun x => evK σ y fun y => match c with
    | .bool t => Br t (K x) (K y)
    | _ => False
  | .binOp op t x y _ => evK σ x fun vx => evK σ y fun vy => match vx, vy with
    | .int .i64 a, .int .i64 b => match op with
      | .add => WrA (a + b) fun z => K (.int .i64 z)
      | .sub => WrA (a - b) fun z => K (.int .i64 z)
      | .mul => WrA (a * b) fun z => K (.int .i64 z)
      | .quo => DivA a b fun z => K (.int .i64 z)
      | .rem => RemA a b fun z => K (.int .i64 z)
      | .eql => K (.bool (decide (a = b)))
      | .neq => K (.bool (decide (a ≠ b)))
      | .lss => K (.bool (decide (a < b)))
      | .leq => K (.bool (decide (a ≤ b)))
      | .gtr => K (.bool (decide (b < a)))
      | .geq => K (.bool (decide (b ≤ a)))
      | op => HoldV P S (binOp op t (.int .i64 a) (.int .i64 b)) K
    | vx, vy => HoldV P S (do eqGuard op t x y vx vy; binOp op t vx vy) K
  | .unOp op _ x => evK σ x fun v => match op, v with
    | .not, .bool b => K (.bool (!b))
    | .neg, .int .i64 a => WrA (0 - a) fun z => K (.int .i64 z)
    | op, v => HoldV P S (Op.unary op v) K
  | .load t x => evK σ x fun v => match v with
    | .pointer (some a) => tb.getK t fun ti => match isAggD ti.desc with
      | true => HoldN P S a ti.size fun vs => K (.agg vs.toArray)
      | false => Hold1 S a K
    | _ => False
  | .fieldAddr t x f => evK σ x fun v => match v with
    | .pointer (some a) => tb.getK t fun ti => match ti.desc with
      | .struct fs => nthK fs.toList f fun fd => tb.getK fd.type fun tf => match tf.size with
        | 0 => False
        | _ + 1 => addK a fd.offset fun a' => K (.pointer (some a'))
      | _ => False
    | _ => False
  | .indexAddr t x i => evK σ x fun vx => evK σ i fun vi => match vi with
    | .int _ i => tb.getK t fun ti => match ti.desc, vx with
      | .slice e, .slice base len _ => tb.getK e fun te => IdxA base i len te.size fun a => K (.pointer (some a))
      | .array n e, .pointer (some a) => tb.getK e fun te => IdxA (some a) i n te.size fun a => K (.pointer (some a))
      | _, _ => False
    | _ => False
  | .nilCheck x => evK σ x fun v => match v with
    | .pointer (some a) => K (.pointer (some a))
    | .func (.func f) a b => K (.func (.func f) a b)
    | _ => False
  | .extract x i => evK σ x fun v => match v with
    | .tuple vs => nthK vs.toList i K
    | _ => False
  | .makeFunc fn first captured => evsK σ first.toList fun f => evsK σ captured.toList fun c => K (.func fn f.toArray c.toArray)
  | .build t parts => partsK σ parts.toList fun ps => vBuild tb t ps K
  | .slice t x lo hi mx => evK σ x fun v => optK σ lo fun lo => optK σ hi fun hi => optK σ mx fun mx => HoldV P S (Instr.sliceAt t v lo hi mx) K
  | .convert s d x => evK σ x fun v => HoldV P S (convert s d v) K
  | .field t x f => evK σ x fun v => HoldV P S (Instr.field t v f) K
  | .index t x i => evK σ x fun v => evK σ i fun i => HoldV P S (Instr.index t v i) K
  | .lookup t x i ok => evK σ x fun v => evK σ i fun i => HoldV P S (Instr.lookup t v i ok) K
  | .makeInterface t x => evK σ x fun x => HoldV P S (Instr.makeInterface t x) K
  | .call c => evsK σ c.args.toList fun args => match c.callee with
    | .builtin .len => match args with
      | [v] => match c.argTypes.toList with
        | t :: _ => tb.getK t fun ti => match ti.desc with
          | .slice _ => vLen v K (HoldV P S (Builtin.len_ c.argTypes ty args.toArray) K)
          | _ => HoldV P S (Builtin.len_ c.argTypes ty args.toArray) K
        | _ => False
      | _ => False
    | .builtin .cap => HoldV P S (Builtin.cap_ c.argTypes ty args.toArray) K
    | .builtin .max => HoldV P S (Builtin.max_ c.argTypes ty args.toArray) K
    | .builtin .min => HoldV P S (Builtin.min_ c.argTypes ty args.toArray) K
    | _ => False
  | _ => False

/-- What 'vPure' gives. -/
def Held (P : Program) (S : World → Prop) (s : Sem Next) (K : Value → Prop) : Prop := ∃ v, (∀ w, S w → s.run P w = .ok (.value v) w) ∧ K v

theorem held_pure {S : World → Prop} {s : Sem Next} {v : Value} {K : Value → Prop} (hs : ∀ w, s.run P w = .ok (.value v) w) (h : K v) : Held P S s K := ⟨v, fun w _ => hs w, h⟩
theorem held_value {S : World → Prop} {s : Sem Next} {t : Sem Value} {K : Value → Prop} (hs : s = (do pure (.value (← t)))) (h : HoldV P S t K) : Held P S s K := by
  obtain ⟨v, hv, hk⟩ := h.out
  subst hs
  exact ⟨v, fun w hw => by simp only [Sem.run_bind, hv w hw, Result.andThen_ok, Sem.run_pure], hk⟩
theorem runV_det {s : Sem Value} {w : World} {v : Value} (h : RunV P s w fun v' w' => v' = v ∧ w' = w) : s.run P w = .ok v w := by
  obtain ⟨_, _, hr, rfl, rfl⟩ := h.out
  exact hr

theorem vPure_sound {S : World → Prop} (hok : TbOk P tb) {σ : Env} {ds : List Deferred} {a : Act} (hr : Rel σ ds a) {o : Oper} {K : Value → Prop}
    (h : vPure P tb S o.op o.type σ K) : Held P S (execOp a.eval o) K := by
  obtain ⟨dst, op, ty, pos, after, guard⟩ := o
  cases op <;> simp only [vPure] at h <;> try exact h.elim
  case move x => exact held_pure (fun w => by simp [execOp]) (evK_spec hr h)
  case assign x => exact held_pure (fun w => by simp [execOp]) (evK_spec hr h)
  case pick c x y =>
    have h := evK_spec hr (evK_spec hr (evK_spec hr h))
    cases hc : a.eval c <;> rw [hc] at h <;> try exact h.elim
    rename_i t
    cases t
    · exact held_pure (fun w => by simp [execOp, hc, asBool]) (h.f rfl)
    · exact held_pure (fun w => by simp [execOp, hc, asBool]) (h.t rfl)
  case build t ps =>
    obtain ⟨v, hv, hk⟩ := vBuild_spec hok (partsK_spec hr _ h)
    rw [parts_arr] at hv
    exact held_value rfl ⟨v, fun w _ => hv w, hk⟩
  case load t x =>
    have h := evK_spec hr h
    cases hx : a.eval x <;> rw [hx] at h <;> try exact h.elim
    rename_i p
    cases p with
    | none => exact h.elim
    | some p =>
      obtain ⟨ti, ht, h⟩ := Tb.get_ty hok h
      refine held_value (t := Instr.loadAt t (.pointer (some p))) (by first | (simp only [execOp, hx]; done) | (simp only [execOp, hx]; rfl)) ?_
      cases ha : isAggD ti.desc <;> rw [ha] at h
      · obtain ⟨v, hv, hk⟩ := h.out
        exact ⟨v, fun w hw => runV_det (loadAt_one ht ha ⟨v, hv w hw, rfl, rfl⟩), hk⟩
      · obtain ⟨vs, hv, hk⟩ := h.out
        exact ⟨_, fun w hw => runV_det (loadAt_agg ht ha ⟨vs, hv w hw, rfl, rfl⟩), hk⟩
  case nilCheck x =>
    have h := evK_spec hr h
    cases hx : a.eval x <;> rw [hx] at h <;> try exact h.elim
    case pointer p =>
      cases p with
      | none => exact h.elim
      | some p => exact held_pure (fun w => by simp [execOp, hx]) h
    case func fn f c =>
      cases fn <;> try exact h.elim
      exact held_pure (fun w => by simp [execOp, hx]) h
  case binOp op t x y ty' =>
    have h := evK_spec hr (evK_spec hr h)
    refine held_value rfl ?_
    split at h
    · rename_i x1 x2 h1 h2
      rw [h1, h2]
      have hg : ∀ w, (eqGuard op t x y (.int .i64 x1) (.int .i64 x2)).run P w = .ok () w := by
        intro w; unfold eqGuard; cases op <;> simp
      have fin : ∀ {v : Value}, (∀ w, (binOp op t (.int .i64 x1) (.int .i64 x2)).run P w = .ok v w) → K v → HoldV P S (do eqGuard op t x y (.int .i64 x1) (.int .i64 x2); binOp op t (.int .i64 x1) (.int .i64 x2)) K :=
        fun hv hk => ⟨_, fun w _ => by simp only [Sem.run_bind, hg, Result.andThen_ok, hv], hk⟩
      cases op <;> simp only [] at h
      case add => exact fin (fun w => by simp [binOp, Op.intArith]) h.out
      case sub => exact fin (fun w => by simp [binOp, Op.intArith]) h.out
      case mul => exact fin (fun w => by simp [binOp, Op.intArith]) h.out
      case quo => exact fin (fun w => by simp [binOp, Op.intDiv, h.out.1]) h.out.2
      case rem => exact fin (fun w => by simp [binOp, Op.intDiv, h.out.1]) h.out.2
      case eql => exact fin (v := .bool (decide (x1 = x2))) (fun w => by simp [binOp, Op.intCmp]; rfl) h
      case neq => exact fin (v := .bool (x1 != x2)) (fun w => by simp [binOp, Op.intCmp]) (by rw [show (x1 != x2) = decide (x1 ≠ x2) from by rw [Bool.eq_iff_iff]; simp]; exact h)
      case lss => exact fin (fun w => by simp [binOp, Op.intCmp]) h
      case leq => exact fin (fun w => by simp [binOp, Op.intCmp]) h
      case gtr => exact fin (fun w => by simp [binOp, Op.intCmp]) h
      case geq => exact fin (fun w => by simp [binOp, Op.intCmp]) h
      all_goals
        obtain ⟨v, hv, hk⟩ := h.out
        exact ⟨v, fun w hw => by simp only [Sem.run_bind, hg, Result.andThen_ok, hv w hw], hk⟩
    · exact h
  case unOp op t x =>
    have h := evK_spec hr h
    refine held_value rfl ?_
    split at h
    · rename_i h1 _; rw [h1]; exact ⟨_, fun w _ => by simp [Op.unary], h⟩
    · rename_i h1 _; rw [h1]; exact ⟨_, fun w _ => by simp [Op.unary, Op.intArith], h.out⟩
    · exact h
  case convert s d x => exact held_value rfl (evK_spec hr h)
  case makeInterface t x => exact held_value rfl (evK_spec hr h)
  case makeFunc fn f c =>
    have h := evsK_spec hr _ (evsK_spec hr _ h)
    exact held_pure (v := .func fn (f.map a.eval) (c.map a.eval)) (fun w => by simp [execOp, Instr.makeFunc]) (by
      rw [show (f.toList.map a.eval).toArray = f.map a.eval from by apply Array.ext'; simp, show (c.toList.map a.eval).toArray = c.map a.eval from by apply Array.ext'; simp] at h; exact h)
  case slice t x lo hi mx => exact held_value rfl (optK_spec hr (optK_spec hr (optK_spec hr (evK_spec hr h))))
  case fieldAddr t x f =>
    have h := evK_spec hr h
    cases hx : a.eval x <;> rw [hx] at h <;> try exact h.elim
    rename_i p
    cases p with
    | none => exact h.elim
    | some p =>
      obtain ⟨ti, ht, h⟩ := Tb.get_ty hok h
      cases hd : ti.desc <;> rw [hd] at h <;> try exact h.elim
      obtain ⟨fd, hfd, h⟩ := nthK_spec h
      obtain ⟨tf, htf, h⟩ := Tb.get_ty hok h
      cases hz : tf.size with
      | zero => rw [hz] at h; exact h.elim
      | succ m =>
        rw [hz] at h
        refine held_value (t := Instr.fieldAt t (.pointer (some p)) f) (by first | (simp only [execOp, hx]; done) | (simp only [execOp, hx]; rfl)) ⟨_, fun w _ => runV_det (fieldAt_ok ht hd (by simpa using hfd) htf (by omega) ⟨rfl, rfl⟩), addK_iff.1 h⟩
  case field t x f => exact held_value rfl (evK_spec hr h)
  case indexAddr t x i =>
    have h := evK_spec hr (evK_spec hr h)
    cases hi : a.eval i <;> rw [hi] at h <;> try exact h.elim
    rename_i k n
    obtain ⟨ti, ht, h⟩ := Tb.get_ty hok h
    refine held_value (t := Instr.indexAt t (a.eval x) (.int k n)) (by first | (simp only [execOp, hi]; done) | (simp only [execOp, hi]; rfl)) ?_
    split at h
    · rename_i h1 h2
      obtain ⟨te, hte, h⟩ := Tb.get_ty hok h
      obtain ⟨p, hp, h3, h4, hk⟩ := h.out
      rw [h2]; exact ⟨_, fun w _ => runV_det (indexAt_slice ht h1 hte ⟨p, hp, h3, h4, rfl, rfl⟩), hk⟩
    · rename_i h1 h2
      obtain ⟨te, hte, h⟩ := Tb.get_ty hok h
      obtain ⟨p, hp, h3, h4, hk⟩ := h.out
      rw [h2]; exact ⟨_, fun w _ => runV_det (indexAt_arr ht h1 hte ⟨p, hp, h3, h4, rfl, rfl⟩), hk⟩
    · exact h.elim
  case index t x i => exact held_value rfl (evK_spec hr (evK_spec hr h))
  case lookup t x i ok => exact held_value rfl (evK_spec hr (evK_spec hr h))
  case extract x i =>
    have h := evK_spec hr h
    cases hx : a.eval x <;> rw [hx] at h <;> try exact h.elim
    rename_i vs
    obtain ⟨u, hu, h⟩ := nthK_spec h
    exact held_pure (fun w => by simp [execOp, hx, Instr.extract, show vs[i]? = some u by simpa using hu]) h
  case call c =>
    obtain ⟨callee, args, argTypes⟩ := c
    have h := evsK_spec hr _ h
    cases callee with
    | value f => exact h.elim
    | invoke r m => exact h.elim
    | builtin b =>
      have e : (args.toList.map a.eval).toArray = args.map a.eval := by apply Array.ext'; simp
      have fin : ∀ (t : Sem Value), HoldV P S t K → execOp a.eval ⟨dst, .call ⟨.builtin b, args, argTypes⟩, ty, pos, after, guard⟩ = (do
          let d ← (pure { target := .builtin b argTypes ty (args.map fun | .const _ => true | _ => false), args := args.map a.eval } : Sem Deferred); pure (.value (← t))) → Held P S (execOp a.eval ⟨dst, .call ⟨.builtin b, args, argTypes⟩, ty, pos, after, guard⟩) K := by
        intro t ht he
        obtain ⟨v, hv, hk⟩ := ht.out
        exact ⟨v, fun w hw => by simp only [he, Sem.run_bind, Sem.run_pure, Result.andThen_ok, hv w hw], hk⟩
      cases b <;> try exact h.elim
      case cap => exact fin _ (by rw [e] at h; exact h) rfl
      case max => exact fin _ (by rw [e] at h; exact h) rfl
      case min => exact fin _ (by rw [e] at h; exact h) rfl
      case len =>
        simp only [] at h
        split at h
        · rename_i v hv
          split at h
          · rename_i t rest hat
            obtain ⟨ti, ht, h⟩ := Tb.get_ty hok h
            have hargs : args.map a.eval = #[v] := by rw [← e, hv]
            refine fin (Builtin.len_ argTypes ty (args.map a.eval)) ?_ rfl
            rw [hargs]
            simp only [e, hargs] at h
            split at h
            · rename_i el hd
              cases v <;> simp only [vLen] at h <;> try exact h
              rename_i base n cap
              refine ⟨_, fun w _ => ?_, h⟩
              have h0 : argTypes[0]? = some t := by rw [← Array.getElem?_toList, hat]; rfl
              simp [Builtin.len_, h0, run_underlying' ht, hd, goInt]
            · exact h
          · exact h.elim
        · exact h.elim
/-! ### schedules -/
inductive Sch where
  | done
  | take (i : Nat) (r : Sch)
  | one (i : Nat) (r : Sch)
  | fin (i : Nat)
  | bar (i : Nat) (r : Sch)
  | two (i : Nat) (r : Sch) (j : Nat) (s : Sch)
  | three (i : Nat) (r : Sch) (j : Nat) (s : Sch) (k : Nat) (t : Sch)

def okOp (o : Oper) : Bool := match o.op with | .select .. => false | .defer _ => false | _ => true
/-- an operation that waits for all that are listed -/
def barB (ops : Array Oper) (l : Array Bool) (i : Nat) : Bool := match ops[i]? with
  | some o => (List.range ops.size).all fun k => Nat.beq k i || !(l.getD k true) || o.after.toList.any fun e => Region.binds .any e && Nat.beq e.on k
  | none => false
def checkS (ops : Array Oper) : Nat → Array Bool → Sch → Bool
  | _, l, .done => (Region.ready .any ops l).isEmpty
  | 0, _, _ => false
  | f + 1, l, .take i r => (Region.ready .any ops l).contains i && Region.free .any ops l i && checkS ops f (l.setIfInBounds i true) r
  | f + 1, l, .one i r => Region.ready .any ops l == [i] && checkS ops f (l.setIfInBounds i true) r
  | _ + 1, l, .fin i => Region.ready .any ops l == [i] && barB ops l i && (Region.ready .any ops (l.setIfInBounds i true)).isEmpty
  | f + 1, l, .bar i r => Region.ready .any ops l == [i] && barB ops l i && checkS ops f (l.setIfInBounds i true) r
  | f + 1, l, .two i r j s => Region.ready .any ops l == [i, j] && checkS ops f (l.setIfInBounds i true) r && checkS ops f (l.setIfInBounds j true) s
  | f + 1, l, .three i r j s k t => Region.ready .any ops l == [i, j, k] && checkS ops f (l.setIfInBounds i true) r && checkS ops f (l.setIfInBounds j true) s && checkS ops f (l.setIfInBounds k true) t

def vTake (P : Program) (tb : Tb) (S : World → Prop) (o : Oper) (σ : Env) (K : Env → Prop) : Prop :=
  vPure P tb S o.op o.type σ fun v => putK σ o.dst v K
def vTakeSkip (o : Oper) (σ : Env) (K : Env → Prop) : Prop := putK σ o.dst undef K
def vTakeW (P : Program) (tb : Tb) (S : World → Prop) (o : Oper) (want b : Bool) (σ : Env) (K : Env → Prop) : Prop :=
  match want, b with
  | true, true => vTake P tb S o σ K
  | false, false => vTake P tb S o σ K
  | _, _ => vTakeSkip o σ K
def vTakeG (P : Program) (tb : Tb) (S : World → Prop) (ops : List Oper) (o : Oper) (σ : Env) (K : Env → Prop) : Prop :=
  match o.guard with
  | none => vTake P tb S o σ K
  | some (j, want) => nthK ops j fun oj => match oj.dst with
    | none => False
    | some d => match Nat.blt d σ.n with
      | false => False
      | true => getK σ d fun g => match g with
        | .bool b => Br b (setK σ d (.bool true) fun σ' => vTakeW P tb S o want true σ' K) (setK σ d (.bool false) fun σ' => vTakeW P tb S o want false σ' K)
        | _ => vTakeSkip o σ K

/-- Behind an operation that is carried out S has to be shown anew. -/
structure Anew (S : World → Prop) (w : World) (A : Prop) : Prop where
  s : S w
  a : A
structure And2 (A B : Prop) : Prop where
  a : A
  b : B

/-- Behind an operation that waits for all others another S may be taken. -/
structure AnewS (w : World) (A : (World → Prop) → Prop) : Prop where
  out : ∃ S : World → Prop, S w ∧ A S
def vSch (P : Program) (tb : Tb) (ops : List Oper) : (World → Prop) → Sch → Env → World → (Env → World → Prop) → Prop
  | _, .done, σ, w, K => K σ w
  | S, .take i r, σ, w, K => nthK ops i fun o => vTakeG P tb S ops o σ fun σ' => vSch P tb ops S r σ' w K
  | S, .one i r, σ, w, K => nthK ops i fun o => vGuard P tb ops o σ w fun σ' w' => Anew S w' (vSch P tb ops S r σ' w' K)
  | _, .fin i, σ, w, K => nthK ops i fun o => vGuard P tb ops o σ w fun σ' w' => K σ' w'
  | _, .bar i r, σ, w, K => nthK ops i fun o => vGuard P tb ops o σ w fun σ' w' => AnewS w' fun S => vSch P tb ops S r σ' w' K
  | S, .two i r j s, σ, w, K => And2 (nthK ops i fun o => vGuard P tb ops o σ w fun σ' w' => Anew S w' (vSch P tb ops S r σ' w' K))
      (nthK ops j fun o => vGuard P tb ops o σ w fun σ' w' => Anew S w' (vSch P tb ops S s σ' w' K))
  | S, .three i r j s k t, σ, w, K => And2 (nthK ops i fun o => vGuard P tb ops o σ w fun σ' w' => Anew S w' (vSch P tb ops S r σ' w' K))
      (And2 (nthK ops j fun o => vGuard P tb ops o σ w fun σ' w' => Anew S w' (vSch P tb ops S s σ' w' K))
      (nthK ops k fun o => vGuard P tb ops o σ w fun σ' w' => Anew S w' (vSch P tb ops S t σ' w' K)))

/-! ### that they suffice -/
section
variable {ops : Array Oper} {Q : Exit → Act → World → Prop} {S : World → Prop}
theorem okOp_sel {o : Oper} (h : okOp o = true) : ∀ cs b, o.op ≠ .select cs b := by
  intro cs b e; simp [okOp, e] at h
theorem okOp_def {o : Oper} (h : okOp o = true) : ∀ c, o.op ≠ .defer c := by
  intro c e; simp [okOp, e] at h

theorem YieldsIf.wpOpIn' {i : Nat} {o : Oper} {v : Value} {a : Act} (hi : ops[i]? = some o) (ho : okOp o = true) (hy : YieldsIf P ops S o v a)
    {K : Act → World → Prop} {w : World} (hS : S w) (h : K (a.put o.dst v) w) : wpOpIn (fen ρ) 0 P ops Q i K a w := by
  unfold Go.wpOpIn
  simp only [hi]
  rcases hy with ⟨hw, hv⟩ | ⟨hw, rfl⟩
  · simp only [hw, if_true, Oper.wpIn, Oper.semAt_eq _ _ _ (okOp_def ho), hv w hS, Oper.uponIn]
    exact ⟨fun _ _ => trivial, h⟩
  · simp only [hw, Bool.false_eq_true, if_false]; exact ⟨fun _ _ => trivial, h⟩

theorem wpOpIn_putIf {j : Nat} {oi oj : Oper} {v : Value} (hj : ops[j]? = some oj) (hap : oi.apart ops oj = true)
    (hoi : okOp oi = true) (hoj : okOp oj = true)
    (hQ : ∀ c a w, Q (.panic c) (a.put oi.dst v) w → Q (.panic c) a w) {K : Act → World → Prop} {a : Act} {w : World}
    (hy : YieldsIf P ops S oi v a) (h : wpOpIn (fen ρ) 0 P ops Q j K (a.put oi.dst v) w) :
    wpOpIn (fen ρ) 0 P ops Q j (fun a' w' => YieldsIf P ops S oi v a' ∧ K (a'.put oi.dst v) w') a w := by
  obtain ⟨h1, h2, h3⟩ := Oper.apart_spec hap
  have hsi := okOp_sel hoi
  have hsj := okOp_sel hoj
  have keep : ∀ (a : Act), YieldsIf P ops S oi v a → ∀ u, YieldsIf P ops S oi v (a.put oj.dst u) := fun a hy u =>
    hy.of_same (execOp_put oi hsi a oj.dst u h3) (wanted_put oi a oj.dst u h3)
  have keepD : ∀ d, YieldsIf P ops S oi v { a with defers := d :: a.defers } := fun d => hy.of_same rfl rfl
  unfold wpOpIn at *
  simp only [hj] at *
  rw [wanted_put oj a oi.dst v h1] at h
  split
  · rename_i hw
    simp only [hw, if_true] at h
    unfold Oper.wpIn at *
    refine ⟨fun _ _ => trivial, ?_⟩
    have h := h.2
    rw [Oper.semAt_eq _ _ _ (okOp_def hoj), execOp_put oj hsj a oi.dst v h1] at h
    rw [Oper.semAt_eq _ _ _ (okOp_def hoj)]
    generalize (execOp a.eval oj).run P w = r at *
    cases r with
    | ok x w' =>
      cases x <;> simp only [Oper.uponIn] at h ⊢
      case value u => exact ⟨keep a hy u, by rw [← Act.put_comm a v u h2]; exact h⟩
      case skip => exact ⟨keep a hy _, by rw [← Act.put_comm a v undef h2]; exact h⟩
      case defer d =>
        refine ⟨keep _ (keepD d) _, ?_⟩
        rw [← Act.put_comm _ v undef h2, ← Act.put_defers]
        exact h
      case enter f args =>
        refine ⟨h.1, CallsIn.mono h.2 fun e w'' he => ?_⟩
        cases e with
        | returned u => exact ⟨keep a hy u, by rw [← Act.put_comm a v u h2]; exact he⟩
        | panicked c => exact hQ _ _ _ he
        | outgrown => exact he
      case row row args => exact ⟨h.1, RowsIn.mono h.2 fun u w'' he => ⟨keep a hy u, by rw [← Act.put_comm a v u h2]; exact he⟩⟩
      case round l f tmps assign body =>
        refine ⟨h.1, RoundIn.mono h.2 fun e w'' he => ?_⟩
        cases e with
        | returned u => exact ⟨keep a hy u, by rw [← Act.put_comm a v u h2]; exact he⟩
        | panicked c => exact hQ _ _ _ he
        | outgrown => exact he
    | halt x w' =>
      cases x <;> simp only [Oper.uponIn] at h ⊢
      case panic u => exact hQ _ _ _ h
  · rename_i hw
    simp only [hw] at h
    exact ⟨fun _ _ => trivial, keep a hy _, by rw [← Act.put_comm a v undef h2]; exact h.2⟩

def wpAnyS (ρ : Option Nat) (P : Program) (ops : Array Oper) (Q : Exit → Act → World → Prop) : Nat → (World → Prop) → Array Bool → Act → World → Prop
  | 0, _, listed, a, w => Region.ready .any ops listed = [] ∧ Q .normal a w
  | fuel + 1, S, listed, a, w =>
    (Region.ready .any ops listed = [] → Q .normal a w) ∧
    ∀ i ∈ Region.ready .any ops listed, wpOpIn (fen ρ) 0 P ops Q i (fun a' w' => (S w' ∧ wpAnyS ρ P ops Q fuel S (listed.setIfInBounds i true) a' w') ∨
      (barB ops listed i = true ∧ ∃ S2 : World → Prop, S2 w' ∧ wpAnyS ρ P ops Q fuel S2 (listed.setIfInBounds i true) a' w')) a w
theorem wpAnyIn_of_S : ∀ (fuel : Nat) (S : World → Prop) (listed : Array Bool) (a : Act) (w : World), wpAnyS ρ P ops Q fuel S listed a w → wpAnyIn (fen ρ) 0 P .any ops Q fuel listed a w
  | 0, _, _, _, _, h => h
  | fuel + 1, _, _, _, _, h => ⟨h.1, fun i hi => wpOpIn_mono (fun a' w' h' => h'.elim (fun h' => wpAnyIn_of_S fuel _ _ a' w' h'.2) (fun ⟨_, S2, _, h'⟩ => wpAnyIn_of_S fuel S2 _ a' w' h')) (h.2 i hi)⟩

theorem wpAnyS_first {i : Nat} {oi : Oper} {v : Value} (hi : ops[i]? = some oi) (hall : ∀ (j : Nat) (o : Oper), ops[j]? = some o → okOp o = true)
    (hQ : ∀ c a w, Q (.panic c) (a.put oi.dst v) w → Q (.panic c) a w) :
    ∀ (fuel : Nat) (listed : Array Bool) (a : Act) (w : World),
      (∀ j oj, ops[j]? = some oj → j ≠ i → listed.getD j true = false → (∀ e ∈ oj.after, Region.binds .any e = true → e.on ≠ i) → oi.apart ops oj = true) →
      i ∈ Region.ready .any ops listed → YieldsIf P ops S oi v a → S w →
      wpAnyS ρ P ops Q fuel S (listed.setIfInBounds i true) (a.put oi.dst v) w → wpAnyS ρ P ops Q (fuel + 1) S listed a w := by
  intro fuel
  induction fuel with
  | zero =>
    intro listed a w _ hr hy hS H
    refine ⟨fun h => (by rw [h] at hr; cases hr), fun j hj => ?_⟩
    by_cases hji : j = i
    · subst hji; exact YieldsIf.wpOpIn' hi (hall _ _ hi) hy hS (.inl ⟨hS, H⟩)
    · have := ready_mono hj hji
      rw [H.1] at this
      cases this
  | succ fuel ih =>
    intro listed a w hfree hr hy hS H
    refine ⟨fun h => (by rw [h] at hr; cases hr), fun j hj => ?_⟩
    by_cases hji : j = i
    · subst hji; exact YieldsIf.wpOpIn' hi (hall _ _ hi) hy hS (.inl ⟨hS, H⟩)
    · have h1 := H.2 j (ready_mono hj hji)
      obtain ⟨hjun, oj, hoj, hallj⟩ := mem_ready.1 hj
      have hnot : ∀ e ∈ oj.after, Region.binds .any e = true → e.on ≠ i := fun e he hb heq => by
        have h1 := hallj e he hb
        have h0 := (mem_ready.1 hr).1
        rw [heq] at h1
        rcases Nat.lt_or_ge i listed.size with h' | h'
        · simp [h'] at h0 h1; rw [h0] at h1; cases h1
        · simp [Array.getElem?_eq_none h'] at h1
      have h2 := wpOpIn_putIf (ρ := ρ) hoj (hfree j oj hoj hji hjun hnot) (hall _ _ hi) (hall _ _ hoj) hQ hy h1
      have hfree' : ∀ k ok, ops[k]? = some ok → k ≠ i → (listed.setIfInBounds j true).getD k true = false →
          (∀ e ∈ ok.after, Region.binds .any e = true → e.on ≠ i) → oi.apart ops ok = true := fun k ok hk hki hun hno => by
        refine hfree k ok hk hki ?_ hno
        by_cases hjk : j = k
        · subst hjk; exact hjun
        · rw [getD_set_ne true hjk] at hun; exact hun
      have hnl : ¬ barB ops (listed.setIfInBounds i true) j = true := by
        intro hl
        unfold barB at hl
        rw [hoj] at hl
        simp only [List.all_eq_true, List.mem_range] at hl
        have hil : i < ops.size := (Array.getElem?_eq_some_iff.1 hi).1
        have h5 := hl i hil
        have hli : (listed.setIfInBounds i true).getD i true = true := by
          rcases Nat.lt_or_ge i listed.size with h' | h'
          · simp [h']
          · simp [Array.getElem?_eq_none h']
        simp only [Bool.or_eq_true, List.any_eq_true, Bool.and_eq_true, hli, Bool.not_true, Bool.false_eq_true, or_false] at h5
        rcases h5 with h5 | ⟨e, he, hb, hon⟩
        · exact hji (Nat.eq_of_beq_eq_true h5).symm
        · exact hnot e (by simpa using he) hb (Nat.eq_of_beq_eq_true hon)
      refine wpOpIn_mono (fun a' w' h3 => ?_) h2
      rcases h3 with ⟨hyk, h3 | ⟨hbar, _⟩⟩
      rotate_left
      · exact absurd hbar hnl
      refine .inl ⟨h3.1, ih (listed.setIfInBounds j true) a' w' hfree' (ready_mono hr (Ne.symm hji)) hyk h3.1 ?_⟩
      rw [Array.setIfInBounds_comm _ _ hji]
      exact h3.2
end

theorem vTake_yields {ops : Array Oper} {S : World → Prop} (hok : TbOk P tb) {σ : Env} {ds : List Deferred} {a : Act} (hr : Rel σ ds a) {o : Oper} {K : Env → Prop}
    (hw : Region.wanted o (yielded ops a.tmps) = true) (h : vTake P tb S o σ K) : ∃ v σ', YieldsIf P ops S o v a ∧ Rel σ' ds (a.put o.dst v) ∧ K σ' := by
  obtain ⟨v, hv, hk⟩ := vPure_sound hok hr h
  exact ⟨v, _, .inl ⟨hw, hv⟩, hr.put o.dst v, putK_iff.1 hk⟩
theorem vTakeG_yields {ops : Array Oper} {S : World → Prop} (hok : TbOk P tb) {σ : Env} {ds : List Deferred} {a : Act} (hr : Rel σ ds a) {o : Oper} {K : Env → Prop}
    (h : vTakeG P tb S ops.toList o σ K) : ∃ v σ', YieldsIf P ops S o v a ∧ Rel σ' ds (a.put o.dst v) ∧ K σ' := by
  unfold vTakeG at h
  cases hg : o.guard with
  | none =>
    rw [hg] at h
    exact vTake_yields hok hr (by simp [Region.wanted, hg]) h
  | some p =>
    obtain ⟨j, want⟩ := p
    rw [hg] at h
    obtain ⟨oj, hoj, h⟩ := nthK_spec h
    cases hd : oj.dst with
    | none => rw [hd] at h; exact h.elim
    | some d =>
      rw [hd] at h
      simp only [] at h
      cases hb : Nat.blt d σ.n with
      | false => rw [hb] at h; exact h.elim
      | true =>
        rw [hb] at h
        have h := getK_iff.1 h
        have hdn : d < σ.n := of_blt hb
        have hy : yielded ops a.tmps j = match look σ d with | .bool b => some b | _ => none := by
          unfold yielded
          have h1 : ops[j]? = some oj := by rw [← Array.getElem?_toList]; exact hoj
          have h2 := hr.get d
          rw [if_pos hdn] at h2
          have h3 : a.tmps[d]? = some (look σ d) := by
            have hlt : d < a.tmps.size := by rw [hr.size]; exact hdn
            rw [Array.getElem?_eq_getElem hlt]
            simp [hlt] at h2
            rw [h2]
          simp only [h1, Option.bind_some, hd, h3]
          cases look σ d <;> rfl
        have skip : ∀ σ' : Env, Rel σ' ds a → Region.wanted o (yielded ops a.tmps) = false → vTakeSkip o σ' K → ∃ v σ', YieldsIf P ops S o v a ∧ Rel σ' ds (a.put o.dst v) ∧ K σ' :=
          fun σ' hr' hw hs => ⟨undef, _, .inr ⟨hw, rfl⟩, hr'.put o.dst undef, putK_iff.1 hs⟩
        cases hl : look σ d with
        | bool b =>
          rw [hl] at h hy
          have hwd : Region.wanted o (yielded ops a.tmps) = (b == want) := by
            simp only [Region.wanted, hg, hy]
            cases b <;> cases want <;> rfl
          cases b with
          | true =>
            have h := setK_iff.1 (h.t rfl)
            have hr' := hr.set_same hl
            cases want with
            | true => exact vTake_yields hok hr' hwd h
            | false => exact skip _ hr' hwd h
          | false =>
            have h := setK_iff.1 (h.f rfl)
            have hr' := hr.set_same hl
            cases want with
            | false => exact vTake_yields hok hr' hwd h
            | true => exact skip _ hr' hwd h
        | _ =>
          all_goals
            rw [hl] at h hy
            exact skip _ hr (by simp only [Region.wanted, hg, hy]; cases want <;> rfl) h

theorem vGuard_wpOpIn {S : World → Prop} (hok : TbOk P tb) {ops : Array Oper} {i : Nat} {o : Oper} (hi : ops[i]? = some o) {σ : Env} {ds : List Deferred} {a : Act} (hr : Rel σ ds a) {w : World} {B : Env → World → Prop} {next : Act → World → Prop} {Q : Exit → Act → World → Prop}
    (h : vGuard P tb ops.toList o σ w fun σ' w' => Anew S w' (B σ' w')) {L : Act → World → Prop} (hk : ∀ σ' a' w', Rel σ' ds a' → S w' → B σ' w' → next a' w') :
    wpOpIn (fen ρ) 0 P ops Q i (fun a' w' => (S w' ∧ next a' w') ∨ L a' w') a w := by
  unfold wpOpIn
  rw [hi]
  exact vGuard_sound hok hr h fun σ' a' w' hr' h' => Or.inl ⟨h'.s, hk _ _ _ hr' h'.s h'.a⟩

theorem vSch_sound (hok : TbOk P tb) {ops : Array Oper} {ds : List Deferred} {K : Env → World → Prop} {Q : Exit → Act → World → Prop} (hall : ∀ (j : Nat) (o : Oper), ops[j]? = some o → okOp o = true)
    (hQ : ∀ c d v a w, Q (.panic c) (a.put d v) w → Q (.panic c) a w)
    (hk : ∀ σ a w, Rel σ ds a → K σ w → Q .normal a w) : ∀ (s : Sch) (S : World → Prop) (f : Nat) (l : Array Bool) (σ : Env) (a : Act) (w : World), checkS ops f l s = true → Rel σ ds a → S w →
    vSch P tb ops.toList S s σ w K → wpAnyS ρ P ops Q f S l a w := by
  intro s
  have get : ∀ {i : Nat} {k : Oper → Prop}, nthK ops.toList i k → ∃ o, ops[i]? = some o ∧ k o := fun h => by
    obtain ⟨o, ho, hk⟩ := nthK_spec h
    exact ⟨o, by rw [← Array.getElem?_toList]; exact ho, hk⟩
  induction s with
  | done =>
    intro S f l σ a w hc hr _ h
    have hn : Region.ready .any ops l = [] := by cases f <;> simpa [checkS] using hc
    cases f with
    | zero => exact ⟨hn, hk _ _ _ hr h⟩
    | succ f => exact ⟨fun _ => hk _ _ _ hr h, by rw [hn]; simp⟩
  | take i r ih =>
    intro S f l σ a w hc hr hS h
    cases f with
    | zero => simp [checkS] at hc
    | succ f =>
      simp only [checkS, Bool.and_eq_true] at hc
      obtain ⟨⟨h1, h2⟩, h3⟩ := hc
      obtain ⟨o, ho, h⟩ := get h
      obtain ⟨v, σ', hy, hr', h⟩ := vTakeG_yields hok hr h
      exact wpAnyS_first ho hall (fun c a w => hQ c o.dst v a w) f l a w (Region.free_spec ho h2) (by simpa using h1) hy hS (ih S f _ σ' _ w h3 hr' hS h)
  | one i r ih =>
    intro S f l σ a w hc hr hS h
    cases f with
    | zero => simp [checkS] at hc
    | succ f =>
      simp only [checkS, Bool.and_eq_true, beq_iff_eq] at hc
      obtain ⟨h1, h2⟩ := hc
      obtain ⟨o, ho, hg⟩ := get h
      refine ⟨fun e => (by rw [h1] at e; cases e), fun j hj => ?_⟩
      rw [h1, List.mem_singleton] at hj
      subst hj
      exact vGuard_wpOpIn hok ho hr hg fun σ' a' w' hr' hS' h' => ih S f _ σ' a' w' h2 hr' hS' h'
  | fin i =>
    intro S f l σ a w hc hr hS h
    cases f with
    | zero => simp [checkS] at hc
    | succ f =>
      simp only [checkS, Bool.and_eq_true, beq_iff_eq] at hc
      obtain ⟨⟨h1, h2⟩, h3⟩ := hc
      have h3 : Region.ready .any ops (l.setIfInBounds i true) = [] := by simpa using h3
      obtain ⟨o, ho, hg⟩ := get h
      refine ⟨fun e => (by rw [h1] at e; cases e), fun j hj => ?_⟩
      rw [h1, List.mem_singleton] at hj
      subst hj
      unfold wpOpIn
      rw [ho]
      refine vGuard_sound hok hr hg fun σ' a' w' hr' h' => .inr ⟨h2, fun _ => True, trivial, ?_⟩
      cases f with
      | zero => exact ⟨h3, hk _ _ _ hr' h'⟩
      | succ f => exact ⟨fun _ => hk _ _ _ hr' h', by rw [h3]; simp⟩
  | bar i r ih =>
    intro S f l σ a w hc hr hS h
    cases f with
    | zero => simp [checkS] at hc
    | succ f =>
      simp only [checkS, Bool.and_eq_true, beq_iff_eq] at hc
      obtain ⟨⟨h1, h2⟩, h3⟩ := hc
      obtain ⟨o, ho, hg⟩ := get h
      refine ⟨fun e => (by rw [h1] at e; cases e), fun j hj => ?_⟩
      rw [h1, List.mem_singleton] at hj
      subst hj
      unfold wpOpIn
      rw [ho]
      refine vGuard_sound hok hr hg fun σ' a' w' hr' h' => ?_
      obtain ⟨S2, hS2, h'⟩ := h'.out
      exact .inr ⟨h2, S2, hS2, ih S2 f _ σ' a' w' h3 hr' hS2 h'⟩
  | two i r j s ihr ihs =>
    intro S f l σ a w hc hr hS h
    cases f with
    | zero => simp [checkS] at hc
    | succ f =>
      simp only [checkS, Bool.and_eq_true, beq_iff_eq] at hc
      obtain ⟨⟨h1, h2⟩, h3⟩ := hc
      obtain ⟨oi, hoi, hi⟩ := get h.a
      obtain ⟨oj, hoj, hj⟩ := get h.b
      refine ⟨fun e => (by rw [h1] at e; cases e), fun k hk' => ?_⟩
      rw [h1] at hk'
      simp only [List.mem_cons, List.not_mem_nil, or_false] at hk'
      rcases hk' with rfl | rfl
      · exact vGuard_wpOpIn hok hoi hr hi fun σ' a' w' hr' hS' h' => ihr S f _ σ' a' w' h2 hr' hS' h'
      · exact vGuard_wpOpIn hok hoj hr hj fun σ' a' w' hr' hS' h' => ihs S f _ σ' a' w' h3 hr' hS' h'
  | three i r j s k t ihr ihs iht =>
    intro S f l σ a w hc hr hS h
    cases f with
    | zero => simp [checkS] at hc
    | succ f =>
      simp only [checkS, Bool.and_eq_true, beq_iff_eq] at hc
      obtain ⟨⟨⟨h1, h2⟩, h3⟩, h4⟩ := hc
      obtain ⟨oi, hoi, hi⟩ := get h.a
      obtain ⟨oj, hoj, hj⟩ := get h.b.a
      obtain ⟨ok, hok', hk'⟩ := get h.b.b
      refine ⟨fun e => (by rw [h1] at e; cases e), fun m hm => ?_⟩
      rw [h1] at hm
      simp only [List.mem_cons, List.not_mem_nil, or_false] at hm
      rcases hm with rfl | rfl | rfl
      · exact vGuard_wpOpIn hok hoi hr hi fun σ' a' w' hr' hS' h' => ihr S f _ σ' a' w' h2 hr' hS' h'
      · exact vGuard_wpOpIn hok hoj hr hj fun σ' a' w' hr' hS' h' => ihs S f _ σ' a' w' h3 hr' hS' h'
      · exact vGuard_wpOpIn hok hok' hr hk' fun σ' a' w' hr' hS' h' => iht S f _ σ' a' w' h4 hr' hS' h'

/-- what a draw leaves -/
structure Dr (w w' : World) : Prop where
  heap : w'.heap = w.heap
  os : w'.os = w.os
  tape : w'.tape = w.tape
  output : w'.output = w.output
  drawn : w.drawn ≤ w'.drawn

/-- A REGION THAT DRAWS ITS ORDER. -/
theorem draw_rule (hok : TbOk P tb) (hm : P.follows .mixedOrders = true) (S : World → Prop) (s : Sch) {id : Nat} {ops : Array Oper} {σ : Env} {ds : List Deferred} {w : World} {Q : Post}
    (hall : ops.all okOp = true) (hc : checkS ops ops.size (Array.replicate ops.size false) s = true)
    (h : ∀ w', Dr w w' → S w' ∧ vSch P tb ops.toList S s σ w' fun σ' w'' => Q .normal σ' ds w'') :
    CodeA P tb ρ (.region id ops true) σ ds w Q := by
  refine ⟨fun a hr => wpIn_region_any hm (wpAnyIn_of_S _ S _ _ _ ?_)⟩
  obtain ⟨hS, hv⟩ := h { w with drawn := w.drawn + 1 } ⟨rfl, rfl, rfl, rfl, Nat.le_succ _⟩
  refine vSch_sound (Q := QA Q) hok (fun j o hj => Array.all_eq_true_iff_forall_mem.1 hall o (Array.mem_of_getElem? hj)) (fun c d v a w h => h) (fun σ' a' w' hr' h' => ⟨σ', ds, hr', h'⟩) s S _ _ σ a _ hc hr hS hv
end Go.V
