/-
  V2: the conditions of single operations.
-/
import Derived.Test.YtpeihahmhpamoaaGreatV1
import Derived.WalkKit
set_option linter.all false
namespace Go.V
open Go

/-- What an operation comes to. -/
def OpRes (P : Program) (s : Sem Next) (w : World) (K : Value → World → Prop) : Prop :=
  match s.run P w with
  | .ok (.value v) w' => K v w'
  | .ok .skip w' => K undef w'
  | .ok (.enter f args) w' => Calls P f args w' fun e w'' => ∃ v, e = .returned v ∧ K v w''
  | .ok (.round l f tmps assign body) w' => RoundIn Fence.wide 0 P l f tmps assign body w' fun e w'' => ∃ v, e = .returned v ∧ K v w''
  | _ => False

/-- The fence of a frame (of a round of a loop over a function, or not). -/
def fen (ρ : Option Nat) : Fence := { Fence.wide with round := ρ }

theorem callsIn_fen {ρ : Option Nat} {n : Nat} {P : Program} {f : FuncId} {args : Array Value} {w : World} {R : Ending → World → Prop} :
    CallsIn (fen ρ) n P f args w R ↔ Calls P f args w R := by
  have : CallsIn (fen ρ) n P f args w R ↔ CallsIn Fence.wide n P f args w R := Iff.rfl
  exact this.trans callsIn_wide
theorem roundIn_fen {ρ : Option Nat} {n m : Nat} {P : Program} {l f : Nat} {tmps : Array Value} {as body : Code} {w : World} {R : Ending → World → Prop}
    (h : RoundIn Fence.wide n P l f tmps as body w R) : RoundIn (fen ρ) m P l f tmps as body w R :=
  ⟨trivial, fun c cs _ => h.2 c cs (room_wide _)⟩

theorem opRes_wpIn {P : Program} {ρ : Option Nat} {o : Oper} {a : Act} {w : World} {K : Value → World → Prop} {next : Act → World → Prop} {Q : Exit → Act → World → Prop}
    (hd : ∀ c, o.op ≠ .defer c) (h : OpRes P (execOp a.eval o) w K) (hk : ∀ v w', K v w' → next (a.put o.dst v) w') :
    o.wpIn (fen ρ) 0 P a w next Q := by
  refine ⟨fun _ _ => trivial, ?_⟩
  rw [Oper.semAt_eq _ _ _ hd]
  unfold OpRes at h
  generalize (execOp a.eval o).run P w = r at *
  cases r with
  | halt x w' => exact h.elim
  | ok x w' =>
    cases x <;> simp only [Oper.uponIn] at h ⊢ <;> first | exact h.elim | skip
    case value v => exact hk _ _ h
    case skip => exact hk _ _ h
    case enter f args =>
      refine ⟨fun h => by simp [fen, Fence.wide] at h, callsIn_fen.2 (h.mono ?_)⟩
      rintro e w'' ⟨v, rfl, hv⟩
      exact hk _ _ hv
    case round l f tmps as body =>
      refine ⟨fun h => by simp [fen, Fence.wide] at h, roundIn_fen (h.mono ?_)⟩
      rintro e w'' ⟨v, rfl, hv⟩
      exact hk _ _ hv

theorem opRes_mono {P : Program} {s : Sem Next} {w : World} {K K' : Value → World → Prop} (h : OpRes P s w K) (hk : ∀ v w', K v w' → K' v w') : OpRes P s w K' := by
  unfold OpRes at *
  generalize s.run P w = r at *
  cases r with
  | halt x w' => exact h
  | ok x w' =>
    cases x <;> first | exact h | exact hk _ _ h | skip
    case enter f args => exact Calls.mono h fun e w'' ⟨v, hv, hK⟩ => ⟨v, hv, hk _ _ hK⟩
    case round l f tmps as body => exact RoundIn.mono h fun e w'' ⟨v, hv, hK⟩ => ⟨v, hv, hk _ _ hK⟩

/-! ### what is asked -/
/-- A test. -/
structure Br (b : Bool) (A B : Prop) : Prop where
  t : b = true → A
  f : b = false → B
/-- A number that is wrapped. -/
structure WrA (z : Int) (K : Int → Prop) : Prop where
  out : K (IntKind.i64.wrap z)
/-- Division. -/
structure DivA (a b : Int) (K : Int → Prop) : Prop where
  out : b ≠ 0 ∧ K (IntKind.i64.wrap (a.tdiv b))
structure RemA (a b : Int) (K : Int → Prop) : Prop where
  out : b ≠ 0 ∧ K (a.tmod b)
/-- A load of one cell. -/
structure Load1 (w : World) (a : Addr) (K : Value → Prop) : Prop where
  out : ∃ v, w.cell? a = some v ∧ K v
/-- A load of an aggregate. -/
structure LoadN (P : Program) (w : World) (a : Addr) (n : Nat) (K : List Value → Prop) : Prop where
  out : ∃ vs : List Value, (loadCells a n).run P w = .ok vs.toArray w ∧ K vs
/-- A store of all cells of a variable. -/
structure StoreA (P : Program) (w : World) (a : Addr) (vs : List Value) (n : Nat) (K : World → Prop) : Prop where
  out : vs.length = n ∧ ∃ w', (storeCells a vs).run P w = .ok () w' ∧ K w'
/-- An index. -/
structure IdxA (base : Option Addr) (i : Int) (len size : Nat) (K : Addr → Prop) : Prop where
  out : ∃ a, base = some a ∧ 0 ≤ i ∧ i < len ∧ K (a.add (i.toNat * size))
/-- A new block. -/
structure NewA (w : World) (o : Obj) (K : Value → World → Prop) : Prop where
  out : K (.pointer (some ⟨w.heap.size, 0, none⟩)) (w.alloc o)
/-- A call. -/
structure CallA (P : Program) (f : FuncId) (args : List Value) (w : World) (K : Value → World → Prop) : Prop where
  can : ∀ w, (callFunc f args.toArray).run P w = .ok (.enter f args.toArray) w
  out : Calls P f args.toArray w fun e w' => ∃ v, e = .returned v ∧ K v w'
/-- A call of the body of a loop over a function. -/
structure YieldA (P : Program) (l : Nat) (args : List Value) (w : World) (K : Value → World → Prop) : Prop where
  out : OpRes P (Instr.yield l args.toArray) w K
/-- A new row, as a slice. -/
structure NewS (w : World) (o : Obj) (n : Nat) (K : Value → World → Prop) : Prop where
  out : K (.slice (some ⟨w.heap.size, 0, none⟩) n n) (w.alloc o)
/-- A list of so many. -/
structure LenA (l : List Value) (n : Nat) (A : Prop) : Prop where
  len : l.length = n
  a : A
/-- Whatever else. -/
structure RunV (P : Program) (s : Sem Value) (w : World) (K : Value → World → Prop) : Prop where
  out : ∃ v w', s.run P w = .ok v w' ∧ K v w'
structure RunU (P : Program) (s : Sem Unit) (w : World) (K : World → Prop) : Prop where
  out : ∃ w', s.run P w = .ok () w' ∧ K w'

def isAggD : TypeDesc → Bool
  | .struct _ | .array _ _ => true
  | _ => false
/-- an address, moved on by a number that is known -/
def addK (a : Addr) (n : Nat) (k : Addr → Prop) : Prop :=
  match n with
  | 0 => k a
  | m + 1 => match a with
    | ⟨b, o, _⟩ => k ⟨b, o + (m + 1), none⟩
theorem addK_iff {a : Addr} {n : Nat} {k : Addr → Prop} : addK a n k ↔ k (a.add n) := by
  cases n with
  | zero => simp [addK, Addr.add]
  | succ m => obtain ⟨b, o, s⟩ := a; simp [addK, Addr.add]
def cellsOf : Value → List Value
  | .agg cs => cs.toList
  | v => [v]
theorem cellsOf_eq (v : Value) : v.cells.toList = cellsOf v := by cases v <;> rfl
def nthK {α : Type} : List α → Nat → (α → Prop) → Prop
  | [], _, _ => False
  | x :: _, 0, k => k x
  | _ :: r, n + 1, k => nthK r n k
theorem nthK_spec {α : Type} : ∀ {l : List α} {n : Nat} {k : α → Prop}, nthK l n k → ∃ x, l[n]? = some x ∧ k x
  | x :: _, 0, k, h => ⟨x, rfl, h⟩
  | _ :: r, n + 1, k, h => by obtain ⟨x, hx, hk⟩ := nthK_spec (l := r) h; exact ⟨x, by simpa using hx, hk⟩

def appVK : List Value → List Value → (List Value → Prop) → Prop
  | [], b, k => k b
  | x :: r, b, k => appVK r b fun r' => k (x :: r')
def dropVK : Nat → List Value → (List Value → Prop) → Prop
  | 0, l, k => k l
  | _ + 1, [], _ => False
  | n + 1, _ :: r, k => dropVK n r k
/-- the value of a part, in the place of 'size' cells from 'off' on -/
def segK (cells : List Value) (off size : Nat) (v : Value) (k : List Value → Prop) : Prop :=
  match off, cells with
  | 0, cells => LenA (cellsOf v) size (dropVK size cells fun post => match v with
    | .agg cs => k (cs.toList ++ post)
    | v => k (v :: post))
  | _ + 1, [] => False
  | n + 1, x :: r => segK r n size v fun r' => k (x :: r')
def fillK (place : Nat → (Nat → Nat → Prop) → Prop) : List (Nat × Value) → List Value → (List Value → Prop) → Prop
  | [], cells, k => k cells
  | (i, v) :: r, cells, k => place i fun off size => segK cells off size v fun cells' => fillK place r cells' k
def forceK : List Value → (List Value → Prop) → Prop
  | [], k => k []
  | x :: r, k => forceK r fun r' => k (x :: r')

/-- arithmetic on ints -/
def vBin (op : BinOp) (a b : Int) (w : World) (K : Value → World → Prop) (other : Prop) : Prop :=
  match op with
  | .add => WrA (a + b) fun z => K (.int .i64 z) w
  | .sub => WrA (a - b) fun z => K (.int .i64 z) w
  | .mul => WrA (a * b) fun z => K (.int .i64 z) w
  | .quo => DivA a b fun z => K (.int .i64 z) w
  | .rem => RemA a b fun z => K (.int .i64 z) w
  | .eql => K (.bool (decide (a = b))) w
  | .neq => K (.bool (decide (a ≠ b))) w
  | .lss => K (.bool (decide (a < b))) w
  | .leq => K (.bool (decide (a ≤ b))) w
  | .gtr => K (.bool (decide (b < a))) w
  | .geq => K (.bool (decide (b ≤ a))) w
  | _ => other

def placesK (tb : Tb) : List Field → (List (Nat × Nat) → Prop) → Prop
  | [], k => k []
  | f :: r, k => tb.getK f.type fun tf => placesK tb r fun pl => k ((f.offset, tf.size) :: pl)
def vBuild (tb : Tb) (t : Nat) (ps : List (Nat × Value)) (K : Value → Prop) : Prop :=
  tb.getK t fun ti => match ti.zero, ti.desc with
    | some z, .struct fs => placesK tb fs.toList fun pl => fillK (fun i f => nthK pl i fun p => f p.1 p.2) ps (cellsOf z) fun cells => K (.agg cells.toArray)
    | some z, .array _ e => tb.getK e fun te => fillK (fun i f => f (i * te.size) te.size) ps (cellsOf z) fun cells => K (.agg cells.toArray)
    | _, _ => False
def vBuildS (tb : Tb) (t n : Nat) (ps : List (Nat × Value)) (K : Nat → List Value → Prop) : Prop :=
  tb.getK t fun ti => match ti.desc with
    | .slice e => tb.getK e fun te => match te.zero with
      | some z => n * te.size ≤ 16777216 ∧ forceK ((List.range (n * te.size)).map fun i => ((cellsOf z)[i % (cellsOf z).length]?).getD default) fun cells => fillK (fun i f => f (i * te.size) te.size) ps cells fun cells => K e cells
      | none => False
    | _ => False

def vLen (v : Value) (K : Value → Prop) (other : Prop) : Prop :=
  match v with
  | .slice _ n _ => K (.int .i64 n)
  | _ => other

def optK (σ : Env) (x : Option Operand) (k : Option Value → Prop) : Prop :=
  match x with
  | none => k none
  | some x => evK σ x fun v => k (some v)
def partsK (σ : Env) : List (Nat × Operand) → (List (Nat × Value) → Prop) → Prop
  | [], k => k []
  | (i, x) :: r, k => evK σ x fun v => partsK σ r fun vs => k ((i, v) :: vs)

def vCall (P : Program) (f : Value) (args : List Value) (w : World) (K : Value → World → Prop) : Prop :=
  match f with
  | .func (.func g) first captured => CallA P g (first.toList ++ args ++ captured.toList) w K
  | .func (.yield l) first _ => YieldA P l (first.toList ++ args) w K
  | _ => False

def vOp (P : Program) (tb : Tb) (o : Op) (ty : TypeId) (σ : Env) (w : World) (K : Value → World → Prop) : Prop :=
  match o with
  | .move x | .assign x => evK σ x fun v => K v w
  | .pick c x y => evK σ c fun c => evK σ x fun x => evK σ y fun y => match c with
    | .bool t => Br t (K x w) (K y w)
    | _ => False
  | .binOp op t x y _ => evK σ x fun vx => evK σ y fun vy => match vx, vy with
    | .int .i64 a, .int .i64 b => vBin op a b w K (RunV P (binOp op t (.int .i64 a) (.int .i64 b)) w K)
    | vx, vy => RunV P (do eqGuard op t x y vx vy; binOp op t vx vy) w K
  | .unOp op _ x => evK σ x fun v => match op, v with
    | .not, .bool b => K (.bool (!b)) w
    | .neg, .int .i64 a => WrA (0 - a) fun z => K (.int .i64 z) w
    | op, v => RunV P (Op.unary op v) w K
  | .load t x => evK σ x fun v => match v with
    | .pointer (some a) => tb.getK t fun ti => match isAggD ti.desc with
      | true => LoadN P w a ti.size fun vs => K (.agg vs.toArray) w
      | false => Load1 w a fun v => K v w
    | _ => False
  | .store t x y => evK σ x fun vx => evK σ y fun vy => match vx with
    | .pointer (some a) => tb.getK t fun ti => StoreA P w a (cellsOf vy) ti.size fun w' => K undef w'
    | _ => False
  | .fieldAddr t x f => evK σ x fun v => match v with
    | .pointer (some a) => tb.getK t fun ti => match ti.desc with
      | .struct fs => nthK fs.toList f fun fd => tb.getK fd.type fun tf => match tf.size with
        | 0 => False
        | _ + 1 => addK a fd.offset fun a' => K (.pointer (some a')) w
      | _ => False
    | _ => False
  | .indexAddr t x i => evK σ x fun vx => evK σ i fun vi => match vi with
    | .int _ i => tb.getK t fun ti => match ti.desc, vx with
      | .slice e, .slice base len _ => tb.getK e fun te => IdxA base i len te.size fun a => K (.pointer (some a)) w
      | .array n e, .pointer (some a) => tb.getK e fun te => IdxA (some a) i n te.size fun a => K (.pointer (some a)) w
      | _, _ => False
    | _ => False
  | .nilCheck x => evK σ x fun v => match v with
    | .pointer (some a) => K (.pointer (some a)) w
    | .func (.func f) a b => K (.func (.func f) a b) w
    | _ => False
  | .alloc t => tb.getK t fun ti => match ti.zero with
    | some z => NewA w (.cells (cellsOf z).toArray t) K
    | none => False
  | .box t x => evK σ x fun v => NewA w (.cells (cellsOf v).toArray t) K
  | .extract x i => evK σ x fun v => match v with
    | .tuple vs => nthK vs.toList i fun u => K u w
    | _ => False
  | .makeFunc fn first captured => evsK σ first.toList fun f => evsK σ captured.toList fun c => K (.func fn f.toArray c.toArray) w
  | .makeMap _ none => K (.map (some w.heap.size)) (w.alloc (.map #[] 0))
  | .build t parts => partsK σ parts.toList fun ps => vBuild tb t ps (fun v => K v w)
  | .buildSlice t n parts => partsK σ parts.toList fun ps => vBuildS tb t n ps fun e cells => NewS w (.cells cells.toArray e) n K
  | .slice t x lo hi mx => evK σ x fun v => optK σ lo fun lo => optK σ hi fun hi => optK σ mx fun mx => RunV P (Instr.sliceAt t v lo hi mx) w K
  | .makeSlice t l c => evK σ l fun l => evK σ c fun c => RunV P (Instr.makeSlice t l c) w K
  | .convert s d x => evK σ x fun v => RunV P (convert s d v) w K
  | .field t x f => evK σ x fun v => RunV P (Instr.field t v f) w K
  | .index t x i => evK σ x fun v => evK σ i fun i => RunV P (Instr.index t v i) w K
  | .lookup t x i ok => evK σ x fun v => evK σ i fun i => RunV P (Instr.lookup t v i ok) w K
  | .mapUpdate t m k x | .insert t m k x => evK σ m fun m => evK σ k fun k => evK σ x fun x => RunU P (Instr.mapUpdate t m k x) w fun w' => K undef w'
  | .mapEntry t m k => evK σ m fun m => evK σ k fun k => RunV P (Instr.mapEntry t m k) w K
  | .entryStore t m s x => evK σ m fun m => evK σ s fun s => evK σ x fun x => RunU P (Instr.entryStore t m s x) w fun w' => K undef w'
  | .range t x => evK σ x fun x => RunV P (Instr.range t x) w K
  | .next it s => evK σ it fun it => RunV P (Instr.next it s ty) w K
  | .entry it => evK σ it fun it => RunV P (Instr.entry it) w K
  | .makeInterface t x => evK σ x fun x => RunV P (Instr.makeInterface t x) w K
  | .typeAssert x t u ok => evK σ x fun x => RunV P (Instr.typeAssert x t u ok) w K
  | .sliceToArrayPointer t x => evK σ x fun x => RunV P (Instr.arrayAt t x) w K
  | .call c => evsK σ c.args.toList fun args => match c.callee with
    | .value f => evK σ f fun fv => vCall P fv args w K
    | .builtin .len => match args with
      | [v] => match c.argTypes.toList with
        | t :: _ => tb.getK t fun ti => match ti.desc with
          | .slice _ => vLen v (fun u => K u w) (RunV P (Builtin.len_ c.argTypes ty args.toArray) w K)
          | _ => RunV P (Builtin.len_ c.argTypes ty args.toArray) w K
        | _ => False
      | _ => False
    | .builtin .cap => RunV P (Builtin.cap_ c.argTypes ty args.toArray) w K
    | .builtin .append => RunV P (Builtin.append_ c.argTypes ty args.toArray) w K
    | .builtin .copy => RunV P (Builtin.copy_ c.argTypes ty args.toArray) w K
    | .builtin .clear => RunV P (Builtin.clear_ c.argTypes ty args.toArray) w K
    | .builtin .delete => RunV P (Builtin.delete_ c.argTypes ty args.toArray) w K
    | .builtin .max => RunV P (Builtin.max_ c.argTypes ty args.toArray) w K
    | .builtin .min => RunV P (Builtin.min_ c.argTypes ty args.toArray) w K
    | _ => False
  | _ => False

theorem partsK_spec {σ : Env} {ds : List Deferred} {a : Act} (hr : Rel σ ds a) (xs : List (Nat × Operand)) : ∀ {k : List (Nat × Value) → Prop}, partsK σ xs k → k (xs.map fun p => (p.1, a.eval p.2)) := by
  induction xs with
  | nil => exact fun h => h
  | cons x r ih => obtain ⟨i, x⟩ := x; exact fun h => ih (evK_spec hr h)
theorem optK_spec {σ : Env} {ds : List Deferred} {a : Act} (hr : Rel σ ds a) {x : Option Operand} {k : Option Value → Prop} (h : optK σ x k) : k (x.map a.eval) := by
  cases x with
  | none => exact h
  | some x => exact evK_spec hr h
theorem parts_arr (a : Act) (ps : Array (Nat × Operand)) : (ps.toList.map fun p => (p.1, a.eval p.2)).toArray = ps.map fun p : Nat × Operand => match p with | (i, x) => (i, a.eval x) := by
  apply Array.ext'; simp
end Go.V
