/-
  V4: code, functions, loops.
-/
import Derived.Test.YtpeihahmhpamoaaGreatV3
set_option linter.all false
namespace Go.V
open Go

variable {P : Program} {tb : Tb} {ρ : Option Nat}

abbrev Post := Exit → Env → List Deferred → World → Prop

/-! ### lists of operations -/
def vStep (P : Program) (tb : Tb) (o : Oper) (σ : Env) (w : World) (K : Env → World → Prop) : Prop :=
  vOp P tb o.op o.type σ w fun v w' => putK σ o.dst v fun σ' => K σ' w'
def vSkip (o : Oper) (σ : Env) (w : World) (K : Env → World → Prop) : Prop := putK σ o.dst undef fun σ' => K σ' w
def vWanted (P : Program) (tb : Tb) (o : Oper) (want b : Bool) (σ : Env) (w : World) (K : Env → World → Prop) : Prop :=
  match want, b with
  | true, true => vStep P tb o σ w K
  | false, false => vStep P tb o σ w K
  | _, _ => vSkip o σ w K
def vGuard (P : Program) (tb : Tb) (ops : List Oper) (o : Oper) (σ : Env) (w : World) (K : Env → World → Prop) : Prop :=
  match o.guard with
  | none => vStep P tb o σ w K
  | some (j, want) => nthK ops j fun oj => match oj.dst with
    | none => False
    | some d => match Nat.blt d σ.n with
      | false => False
      | true => getK σ d fun g => match g with
        | .bool b => Br b (setK σ d (.bool true) fun σ' => vWanted P tb o want true σ' w K) (setK σ d (.bool false) fun σ' => vWanted P tb o want false σ' w K)
        | _ => vSkip o σ w K
def vOps (P : Program) (tb : Tb) (ops : List Oper) : List Oper → Env → World → (Env → World → Prop) → Prop
  | [], σ, w, K => K σ w
  | o :: r, σ, w, K => vGuard P tb ops o σ w fun σ' w' => vOps P tb ops r σ' w' K

def noDefer (o : Oper) : Bool := match o.op with | .defer _ => false | _ => true

theorem Rel.set_same {σ : Env} {ds : List Deferred} {a : Act} (h : Rel σ ds a) {d : Nat} {v : Value} (hv : look σ d = v) : Rel (set σ d v) ds a := by
  by_cases hd : d < σ.n
  · refine ⟨by rw [set_n]; exact h.size, fun i => ?_, h.defers⟩
    rw [set_n, look_set σ d v i hd, h.get i]
    by_cases hi : d = i
    · subst hi; simp [hv]
    · simp [hi]
  · have : set σ d v = σ := by unfold set; rw [blt_f hd]
    rw [this]; exact h

theorem not_defer {o : Oper} {σ : Env} {w : World} {K : Env → World → Prop} (h : vStep P tb o σ w K) : ∀ c, o.op ≠ .defer c := by
  intro c hc
  unfold vStep at h
  rw [hc] at h
  exact h

theorem vStep_sound (hok : TbOk P tb) {σ : Env} {ds : List Deferred} {a : Act} (hr : Rel σ ds a) {o : Oper} {w : World} {K : Env → World → Prop} {next : Act → World → Prop} {Q : Exit → Act → World → Prop}
    (h : vStep P tb o σ w K) (hk : ∀ σ' a' w', Rel σ' ds a' → K σ' w' → next a' w') : o.wpIn (fen ρ) 0 P a w next Q :=
  opRes_wpIn (not_defer h) (vOp_sound hok hr h) fun v _ hK => hk _ _ _ (hr.put o.dst v) (putK_iff.1 hK)

theorem vGuard_sound (hok : TbOk P tb) {ops : Array Oper} {σ : Env} {ds : List Deferred} {a : Act} (hr : Rel σ ds a) {o : Oper} {w : World} {K : Env → World → Prop} {next : Act → World → Prop} {Q : Exit → Act → World → Prop}
    (h : vGuard P tb ops.toList o σ w K) (hk : ∀ σ' a' w', Rel σ' ds a' → K σ' w' → next a' w') :
    if Region.wanted o (yielded ops a.tmps) then o.wpIn (fen ρ) 0 P a w next Q else ((∀ f, o.about P w a.eval = some f → (fen ρ).fn f) ∧ next (a.put o.dst undef) w) := by
  unfold vGuard at h
  cases hg : o.guard with
  | none =>
    rw [hg] at h
    rw [if_pos (by simp [Region.wanted, hg])]
    exact vStep_sound hok hr h hk
  | some p =>
    obtain ⟨j, want⟩ := p
    rw [hg] at h
    obtain ⟨oj, hoj, h⟩ := nthK_spec h
    cases hd : oj.dst with
    | none => rw [hd] at h; exact h.elim
    | some d =>
      rw [hd] at h
      simp only [] at h
      cases hb : Nat.blt d σ.n with
      | false => rw [hb] at h; exact h.elim
      | true =>
        rw [hb] at h
        have h := getK_iff.1 h
        have hdn : d < σ.n := of_blt hb
        have hy : yielded ops a.tmps j = match look σ d with | .bool b => some b | _ => none := by
          unfold yielded
          have h1 : ops[j]? = some oj := by rw [← Array.getElem?_toList]; exact hoj
          have h2 := hr.get d
          rw [if_pos hdn] at h2
          have h3 : a.tmps[d]? = some (look σ d) := by
            have hlt : d < a.tmps.size := by rw [hr.size]; exact hdn
            rw [Array.getElem?_eq_getElem hlt]
            simp [hlt] at h2
            rw [h2]
          simp only [h1, Option.bind_some, hd, h3]
          cases look σ d <;> rfl
        have skip : ∀ σ' : Env, Rel σ' ds a → vSkip o σ' w K → (∀ f, o.about P w a.eval = some f → (fen ρ).fn f) ∧ next (a.put o.dst undef) w :=
          fun σ' hr' hs => ⟨fun _ _ => trivial, hk _ _ _ (hr'.put o.dst undef) (putK_iff.1 hs)⟩
        cases hl : look σ d with
        | bool b =>
          rw [hl] at h hy
          have hwd : Region.wanted o (yielded ops a.tmps) = (b == want) := by
            simp only [Region.wanted, hg, hy]
            cases b <;> cases want <;> rfl
          rw [hwd]
          cases b with
          | true =>
            have h := setK_iff.1 (h.t rfl)
            have hr' := hr.set_same hl
            cases want with
            | true => exact vStep_sound hok hr' h hk
            | false => exact skip _ hr' h
          | false =>
            have h := setK_iff.1 (h.f rfl)
            have hr' := hr.set_same hl
            cases want with
            | false => exact vStep_sound hok hr' h hk
            | true => exact skip _ hr' h
        | _ =>
          all_goals
            rw [hl] at h hy
            have hwd : Region.wanted o (yielded ops a.tmps) = false := by
              simp only [Region.wanted, hg, hy]
              cases want <;> rfl
            rw [hwd]
            exact skip _ hr h

theorem vOps_sound (hok : TbOk P tb) {ops : Array Oper} {ds : List Deferred} {Q : Exit → Act → World → Prop} {K : Env → World → Prop}
    (hk : ∀ σ' a' w', Rel σ' ds a' → K σ' w' → Q .normal a' w') : ∀ (l : List Oper) (k : Nat) (σ : Env) (a : Act) (w : World), (∀ j, l[j]? = ops[k + j]?) → Rel σ ds a →
    vOps P tb ops.toList l σ w K → wpOpsIn (fen ρ) 0 P ops Q (List.range' k l.length) a w := by
  intro l
  induction l with
  | nil => exact fun k σ a w _ hr h => hk _ _ _ hr h
  | cons o r ih =>
    intro k σ a w hl hr h
    have h0 : ops[k]? = some o := by simpa using (hl 0).symm
    simp only [List.length_cons, List.range'_succ, wpOpsIn, h0]
    exact vGuard_sound hok hr h fun σ' a' w' hr' h' => ih (k + 1) σ' a' w' (fun j => by have := hl (j + 1); simpa [Nat.add_assoc, Nat.add_comm 1 j] using this) hr' h'

/-! ### code -/
def QA (Q : Post) : Exit → Act → World → Prop
  | .panic _, _, _ => False
  | .outgrown, _, _ => False
  | e, a, w => ∃ σ ds, Rel σ ds a ∧ Q e σ ds w
/-- A piece of code, from a frame that reads as σ. -/
structure CodeA (P : Program) (tb : Tb) (ρ : Option Nat) (c : Code) (σ : Env) (ds : List Deferred) (w : World) (Q : Post) : Prop where
  out : ∀ a, Rel σ ds a → c.wpIn (fen ρ) 0 P (QA Q) a w

def thenQ (K : Env → List Deferred → World → Prop) (Q : Post) : Post := fun e σ ds w => match e with
  | .normal => K σ ds w
  | e => Q e σ ds w
def blockQ (id : Nat) (Q : Post) : Post := fun e σ ds w => match e with
  | .exit i => match Nat.beq i id with
    | true => Q .normal σ ds w
    | false => Q (.exit i) σ ds w
  | e => Q e σ ds w

def vCode (P : Program) (tb : Tb) (ρ : Option Nat) : Code → Env → List Deferred → World → Post → Prop
  | .skip, σ, ds, w, Q => Q .normal σ ds w
  | .label _, σ, ds, w, Q => Q .normal σ ds w
  | .region id ops draw, σ, ds, w, Q => match draw with
    | false => vOps P tb ops.toList ops.toList σ w fun σ' w' => Q .normal σ' ds w'
    | true => CodeA P tb ρ (.region id ops true) σ ds w Q
  | .seq a b, σ, ds, w, Q => vCode P tb ρ a σ ds w (thenQ (fun σ' ds' w' => vCode P tb ρ b σ' ds' w' Q) Q)
  | .cond c a b, σ, ds, w, Q => evK σ c fun v => match v with
    | .bool t => Br t (vCode P tb ρ a σ ds w Q) (vCode P tb ρ b σ ds w Q)
    | _ => False
  | .block id c, σ, ds, w, Q => vCode P tb ρ c σ ds w (blockQ id Q)
  | .exit id, σ, ds, w, Q => Q (.exit id) σ ds w
  | .goto l, σ, ds, w, Q => Q (.goto l) σ ds w
  | .ret, σ, ds, w, Q => Q .ret σ ds w
  | .loop c, σ, ds, w, Q => CodeA P tb ρ (.loop c) σ ds w Q
  | .rangeFunc f ps as b, σ, ds, w, Q => CodeA P tb ρ (.rangeFunc f ps as b) σ ds w Q
  | .scope c, σ, ds, w, Q => CodeA P tb ρ (.scope c) σ ds w Q
  | .refuse _, _, _, _, _ => False

theorem QA_of {Q : Post} {e : Exit} {σ : Env} {ds : List Deferred} {a : Act} {w : World} (hr : Rel σ ds a) (h : Q e σ ds w) (he : (∀ c, e ≠ .panic c) ∧ e ≠ .outgrown) : QA Q e a w := by
  cases e <;> first | exact ⟨σ, ds, hr, h⟩ | exact absurd rfl (he.1 _) | exact absurd rfl he.2

theorem vCode_sound (hok : TbOk P tb) : ∀ (c : Code) (σ : Env) (ds : List Deferred) (w : World) (Q : Post) (a : Act), Rel σ ds a → vCode P tb ρ c σ ds w Q → c.wpIn (fen ρ) 0 P (QA Q) a w := by
  intro c
  induction c with
  | skip => exact fun σ ds w Q a hr h => wpIn_skip (QA_of hr h ⟨by simp, by simp⟩)
  | label l => exact fun σ ds w Q a hr h => wpIn_label (QA_of hr h ⟨by simp, by simp⟩)
  | exit id => exact fun σ ds w Q a hr h => wpIn_exit (QA_of hr h ⟨by simp, by simp⟩)
  | goto l => exact fun σ ds w Q a hr h => wpIn_goto (QA_of hr h ⟨by simp, by simp⟩)
  | ret => exact fun σ ds w Q a hr h => wpIn_ret (QA_of hr h ⟨by simp, by simp⟩)
  | refuse why => exact fun σ ds w Q a hr h => h.elim
  | loop c _ => exact fun σ ds w Q a hr h => h.out a hr
  | rangeFunc f ps as b _ _ => exact fun σ ds w Q a hr h => h.out a hr
  | scope c _ => exact fun σ ds w Q a hr h => h.out a hr
  | region id ops draw =>
    intro σ ds w Q a hr h
    cases draw with
    | true => exact h.out a hr
    | false =>
      refine wpIn_region ?_
      have := vOps_sound (ρ := ρ) (Q := QA Q) hok (fun σ' a' w' hr' h' => (⟨σ', ds, hr', h'⟩ : QA Q .normal a' w')) ops.toList 0 σ a w (fun j => by simp) hr h
      rwa [List.range_eq_range', ← Array.length_toList]
  | seq x y ihx ihy =>
    intro σ ds w Q a hr h
    refine wpIn_seq (wpIn_mono (ihx σ ds w _ a hr h) ?_)
    intro e a' w' hq
    cases e with
    | normal => obtain ⟨σ', ds', hr', h'⟩ := hq; exact ihy σ' ds' w' Q a' hr' h'
    | panic c => exact hq.elim
    | outgrown => exact hq.elim
    | exit id => exact hq
    | goto l => exact hq
    | ret => exact hq
  | cond c x y ihx ihy =>
    intro σ ds w Q a hr h
    have h := evK_spec hr h
    cases hc : a.eval c <;> rw [hc] at h <;> try exact h.elim
    rename_i t
    cases t with
    | true => exact wpIn_cond_true hc (ihx σ ds w Q a hr (h.t rfl))
    | false => exact wpIn_cond_false hc (ihy σ ds w Q a hr (h.f rfl))
  | block id c ih =>
    intro σ ds w Q a hr h
    refine wpIn_block (wpIn_mono (ih σ ds w _ a hr h) ?_)
    intro e a' w' hq
    cases e with
    | normal => exact hq
    | panic c => exact hq.elim
    | outgrown => exact hq.elim
    | goto l => exact hq
    | ret => exact hq
    | exit i =>
      obtain ⟨σ', ds', hr', h'⟩ := hq
      simp only [blockQ] at h'
      by_cases hi : i = id
      · subst hi
        rw [beq_t] at h'
        simp only [Exit.inBlock, if_true]
        exact ⟨σ', ds', hr', h'⟩
      · rw [beq_f hi] at h'
        simp only [Exit.inBlock, if_neg hi]
        exact ⟨σ', ds', hr', h'⟩

/-! ### functions -/
/-- The block for the calls that are deferred in rounds is closed. -/
structure TakeA (P : Program) (r : Nat) (w : World) (K : World → Prop) : Prop where
  out : ∃ w', (Instr.takeDeferred r).run P w = .ok [] w' ∧ K w'
def leaveK (P : Program) : List Deferred → World → (World → Prop) → Prop
  | [], w, K => K w
  | d :: ds, w, K => match d.target with
    | .collected r => TakeA P r w fun w' => leaveK P ds w' K
    | _ => False
def resK (P : Program) (tb : Tb) (w : World) (σ : Env) : List ResultVar → (List Value → Prop) → Prop
  | [], k => k []
  | .tmp t :: r, k => match Nat.blt t σ.n with
    | true => getK σ t fun v => resK P tb w σ r fun vs => k (v :: vs)
    | false => False
  | .cell t ty :: r, k => match Nat.blt t σ.n with
    | true => getK σ t fun v => match v with
      | .pointer (some a) => tb.getK ty fun ti => match isAggD ti.desc with
        | true => LoadN P w a ti.size fun us => resK P tb w σ r fun vs => k (.agg us.toArray :: vs)
        | false => Load1 w a fun u => resK P tb w σ r fun vs => k (u :: vs)
      | _ => False
    | false => False
def retV : List Value → Value
  | [v] => v
  | vs => .tuple vs.toArray
def retK (vs : List Value) (k : Value → Prop) : Prop := match vs with
  | [v] => k v
  | vs => k (.tuple vs.toArray)
theorem retK_iff {vs : List Value} {k : Value → Prop} : retK vs k ↔ k (retV vs) := by
  cases vs with
  | nil => exact Iff.rfl
  | cons v r => cases r <;> exact Iff.rfl
def fnPost (P : Program) (tb : Tb) (res : List ResultVar) (K : Value → World → Prop) : Post := fun e σ ds w => match e with
  | .normal | .ret => leaveK P ds w fun w' => resK P tb w' σ res fun vs => retK vs fun v => K v w'
  | _ => False

def resOne (tmps : Array Value) (r : ResultVar) : Sem Value := match r with
  | .tmp t => pure (tmps.getD t undef)
  | .cell b t => do loadVar t (← asAddr (tmps.getD b undef))
theorem resMap {tmps : Array Value} {w : World} {r : ResultVar} {rs : List ResultVar} {v : Value} {vs : List Value} (h1 : (resOne tmps r).run P w = .ok v w) (h2 : (rs.mapM (resOne tmps)).run P w = .ok vs w) :
    ((r :: rs).mapM (resOne tmps)).run P w = .ok (v :: vs) w := by
  rw [List.mapM_cons, Sem.run_bind, h1, Result.andThen_ok, Sem.run_bind, h2, Result.andThen_ok, Sem.run_pure]
theorem resK_spec (hok : TbOk P tb) {w : World} {σ : Env} {ds : List Deferred} {a : Act} (hr : Rel σ ds a) : ∀ (res : List ResultVar) {k : List Value → Prop}, resK P tb w σ res k →
    ∃ vs, (res.mapM (resOne a.tmps)).run P w = .ok vs w ∧ k vs := by
  intro res
  induction res with
  | nil => exact fun h => ⟨[], by simp, h⟩
  | cons r rs ih =>
    intro k h
    cases r with
    | tmp t =>
      simp only [resK] at h
      cases hb : Nat.blt t σ.n with
      | false => rw [hb] at h; exact h.elim
      | true =>
        rw [hb] at h
        have h := getK_iff.1 h
        obtain ⟨vs, hvs, hk⟩ := ih h
        refine ⟨look σ t :: vs, resMap ?_ hvs, hk⟩
        have := hr.get t
        rw [if_pos (of_blt hb)] at this
        simp only [resOne, Sem.run_pure, this]
    | cell t ty =>
      simp only [resK] at h
      cases hb : Nat.blt t σ.n with
      | false => rw [hb] at h; exact h.elim
      | true =>
        rw [hb] at h
        have h := getK_iff.1 h
        have ht := hr.get t
        rw [if_pos (of_blt hb)] at ht
        cases hl : look σ t <;> rw [hl] at h ht <;> try exact h.elim
        rename_i p
        cases p with
        | none => exact h.elim
        | some p =>
          obtain ⟨ti, hti, h⟩ := Tb.get_ty hok h
          cases ha : isAggD ti.desc with
          | true =>
            rw [ha] at h
            obtain ⟨us, hus, h⟩ := h.out
            obtain ⟨vs, hvs, hk⟩ := ih h
            refine ⟨.agg us.toArray :: vs, resMap ?_ hvs, hk⟩
            simp [resOne, ht, asAddr, loadVar, run_isAgg' hti, ha, run_sizeOf' hti, hus]
          | false =>
            rw [ha] at h
            obtain ⟨u, hu, h⟩ := h.out
            obtain ⟨vs, hvs, hk⟩ := ih h
            refine ⟨u :: vs, resMap ?_ hvs, hk⟩
            simp [resOne, ht, asAddr, loadVar, run_isAgg' hti, ha, hu]

theorem results_ok (hok : TbOk P tb) {fn : Func} {w : World} {σ : Env} {ds : List Deferred} {a : Act} (hr : Rel σ ds a) {K : Value → Prop} (h : resK P tb w σ fn.results.toList fun vs => retK vs K) :
    ∃ v, (results fn a.tmps).run P w = .ok v w ∧ K v := by
  obtain ⟨vs, hvs, hk⟩ := resK_spec hok hr _ h
  have hk := retK_iff.1 hk
  refine ⟨_, ?_, hk⟩
  have e : results fn a.tmps = (do let vs ← fn.results.mapM (resOne a.tmps); pure (if h : vs.size = 1 then vs[0] else .tuple vs)) := rfl
  rw [e, Array.mapM_eq_mapM_toList]
  simp only [Sem.run_bind, Sem.run_map, hvs, Result.andThen_ok, Sem.run_pure]
  congr 1
  cases vs with
  | nil => rfl
  | cons x r => cases r <;> simp [retV]

def envOf (n : Nat) (args : List Value) : Env := { n := n, fx := [], ov := args.zipIdx.map fun p => (p.2, p.1) }
def idxs : List Nat := [0, 1, 2, 3, 4, 5, 6, 7, 8, 9, 10, 11, 12, 13, 14, 15]
def enterK : List Value → List Nat → (Ov → Prop) → Prop
  | [], _, k => k []
  | _ :: _, [], _ => False
  | v :: r, i :: is, k => enterK r is fun l => k ((i, v) :: l)
theorem enterK_spec (vs : List Value) : ∀ (k m : Nat) (f : Ov → Prop), enterK vs (List.range' k m) f → f ((vs.zipIdx k).map fun p => (p.2, p.1)) := by
  induction vs with
  | nil => exact fun k m f h => h
  | cons v r ih =>
    intro k m f h
    cases m with
    | zero => exact h.elim
    | succ m => exact ih (k + 1) m _ h

theorem lookL_zip (vs : List Value) : ∀ (k i : Nat) (d : Value), lookL ((vs.zipIdx k).map fun p => (p.2, p.1)) (k + i) d = (vs[i]?).getD d := by
  induction vs with
  | nil => intro k i d; rfl
  | cons v r ih =>
    intro k i d
    simp only [List.zipIdx_cons, List.map_cons, lookL]
    cases i with
    | zero => rw [Nat.add_zero, beq_t]; rfl
    | succ i =>
      rw [beq_f (by omega)]
      have := ih (k + 1) i d
      rw [show k + (i + 1) = k + 1 + i from by omega, this]
      simp

theorem rel_env {n : Nat} {args : List Value} (h : args.length ≤ n) : Rel (envOf n args) [] { tmps := args.toArray ++ Array.replicate (n - args.toArray.size) undef, defers := [] } := by
  refine ⟨by simp [envOf]; omega, fun i => ?_, rfl⟩
  have this := lookL_zip args 0 i (lookL [] i undef)
  rw [Nat.zero_add] at this
  have hl : look (envOf n args) i = (args[i]?).getD undef := this
  have hn : (envOf n args).n = n := rfl
  rw [hl]
  simp only [hn, Array.getD_eq_getD_getElem?]
  by_cases hi : i < args.length
  · rw [if_pos (show i < n by omega)]
    rw [Array.getElem?_append_left (by simpa using hi)]
    simp
  · rw [Array.getElem?_append_right (by simpa using Nat.le_of_not_lt hi)]
    simp only [List.size_toArray, Array.getElem?_replicate, List.getElem?_eq_none (Nat.le_of_not_lt hi), Option.getD_none]
    split <;> split <;> rfl

theorem leaveK_sound {fn : Func} {tmps : Array Value} {R : Ending → World → Prop} : ∀ (ds : List Deferred) (w : World) {K : World → Prop}, (∀ w, K w → ∃ v, (results fn tmps).run P w = .ok v w ∧ R (.returned v) w) → leaveK P ds w K →
    LeavesInM Fence.wide 0 P fn tmps R ds .returning w := by
  intro ds
  induction ds with
  | nil => exact fun w K hk h => hk w h
  | cons d ds ih =>
    intro w K hk h
    simp only [leaveK] at h
    refine ⟨by simp, .inl ?_⟩
    cases ht : d.target <;> rw [ht] at h <;> try exact h.elim
    rename_i r
    obtain ⟨w', hw', h⟩ := h.out
    exact ⟨r, w', rfl, hw', ih w' hk h⟩

/-- A FUNCTION. -/
theorem callA_intro (hok : TbOk P tb) {f : FuncId} {fn : Func} {c : Code} {args : List Value} {w : World} {K : Value → World → Prop} {n : Nat} {res : Array ResultVar}
    (hf : P.funcs[f]? = some fn) (hb : fn.body = some c) (hn : fn.ntmps = n) (hres : fn.results = res) (hname : fn.name ≠ "runtime.NumGoroutine") (hl : args.length ≤ n)
    (h : enterK args idxs fun ov => vCode P tb none c ⟨n, [], ov⟩ [] w (fnPost P tb res.toList K)) : CallA P f args w K := by
  have h : vCode P tb none c (envOf n args) [] w (fnPost P tb res.toList K) := enterK_spec args 0 16 _ h
  refine ⟨fun w => ?_, ?_⟩
  · simp [callFunc, program, Sem.run, hf, hb, hname]
  · refine (callsIn_wide (n := 0)).1 (callsIn_of_wp_marks hf hb trivial ?_ rfl)
    have hwp := vCode_sound (ρ := none) hok c _ _ w _ _ (rel_env (n := n) (args := args) hl) h
    rw [hn]
    refine wpIn_mono (Q := QA (fnPost P tb res.toList K)) hwp ?_
    intro e a' w' hq
    subst hres
    cases e with
    | normal =>
      obtain ⟨σ', ds', hr', h'⟩ := hq
      simp only [bodyPostM]
      rw [hr'.defers]
      exact leaveK_sound ds' w' (fun w hk => by obtain ⟨v, hv, hK⟩ := results_ok hok hr' hk; exact ⟨v, hv, v, rfl, hK⟩) h'
    | ret =>
      obtain ⟨σ', ds', hr', h'⟩ := hq
      simp only [bodyPostM]
      rw [hr'.defers]
      exact leaveK_sound ds' w' (fun w hk => by obtain ⟨v, hv, hK⟩ := results_ok hok hr' hk; exact ⟨v, hv, v, rfl, hK⟩) h'
    | panic c => exact hq.elim
    | outgrown => exact hq.elim
    | exit id => obtain ⟨σ', ds', hr', h'⟩ := hq; exact h'.elim
    | goto l => obtain ⟨σ', ds', hr', h'⟩ := hq; exact h'.elim

theorem CallA.mono {f : FuncId} {args : List Value} {w : World} {K K' : Value → World → Prop} (h : CallA P f args w K) (hk : ∀ v w', K v w' → K' v w') : CallA P f args w K' :=
  ⟨h.can, h.out.mono fun _ _ ⟨v, he, hv⟩ => ⟨v, he, hk _ _ hv⟩⟩

/-! ### rules -/
theorem Br.dec {p : Prop} [Decidable p] {A B : Prop} (h : p → A) (h' : ¬ p → B) : Br (decide p) A B := ⟨fun e => h (of_decide_eq_true e), fun e => h' (of_decide_eq_false e)⟩
theorem Br.tt {A B : Prop} (h : A) : Br true A B := ⟨fun _ => h, fun e => by cases e⟩
theorem Br.ff {A B : Prop} (h : B) : Br false A B := ⟨fun e => (by cases e), fun _ => h⟩
theorem Br.not {b : Bool} {A B : Prop} (h : Br b B A) : Br (!b) A B := ⟨fun e => h.f (by simpa using e), fun e => h.t (by simpa using e)⟩
theorem Br.var {b : Bool} {A B : Prop} (h : b = true → A) (h' : b = false → B) : Br b A B := ⟨h, h'⟩
theorem wrap64_in {z : Int} (h : -9223372036854775808 ≤ z ∧ z ≤ 9223372036854775807) : IntKind.i64.wrap z = z := by
  exact IntWalk.i64_in z h
theorem WrA.inr {z : Int} {K : Int → Prop} (h : -9223372036854775808 ≤ z ∧ z ≤ 9223372036854775807) (hk : K z) : WrA z K := ⟨by rw [wrap64_in h]; exact hk⟩
theorem RemA.pos {a b : Int} {K : Int → Prop} (h : b ≠ 0) (hk : K (a.tmod b)) : RemA a b K := ⟨h, hk⟩
theorem RemA.nn {a b : Int} {K : Int → Prop} (ha : 0 ≤ a) (hb : 0 < b) (hk : K (a % b)) : RemA a b K := ⟨by omega, by rw [Int.tmod_eq_emod_of_nonneg ha]; exact hk⟩
theorem RemA.np {a b : Int} {K : Int → Prop} (ha : a ≤ 0) (hb : 0 < b) (hk : K (-((-a) % b))) : RemA a b K := ⟨by omega, by
  rw [show a = -(-a) from by omega, Int.neg_tmod, Int.tmod_eq_emod_of_nonneg (by omega)]; simpa using hk⟩
theorem DivA.nn {a b : Int} {K : Int → Prop} (ha : 0 ≤ a ∧ a ≤ 9223372036854775807) (hb : 0 < b) (hk : K (a / b)) : DivA a b K := by
  refine ⟨by omega, ?_⟩
  have h1 : 0 ≤ a / b := Int.ediv_nonneg ha.1 (by omega)
  have h2 : a / b ≤ a := Int.ediv_le_self b ha.1
  rw [Int.tdiv_eq_ediv_of_nonneg ha.1, wrap64_in (by omega)]
  exact hk
end Go.V
