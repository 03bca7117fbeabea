/-
  V9: rows that are held alone: made, appended to, written; and slices of rows.
-/
import Derived.Test.YtpeihahmhpamoaaGreatV8
import Derived.Laws.OwnMore
import Derived.Laws.Slices
import Derived.Maps.AppendAt
import Derived.Laws.StructEq
import Derived.Laws.Cover3
import Derived.Laws.Cover1
set_option linter.all false
namespace Go.V
open Go
open Go.RowKit (Below)

variable {P : Program} {tb : Tb}

/-! ### types, by reflection -/
def Tb.find : Tb → Nat → Option TI
  | .nil, _ => none
  | .node l k v r, t => match Nat.beq t k with
    | true => some v
    | false => match Nat.blt t k with
      | true => l.find t
      | false => r.find t
theorem Tb.find_mem {tb : Tb} {t : Nat} {ti : TI} (h : tb.find t = some ti) : (t, ti) ∈ tb.toList := by
  induction tb with
  | nil => simp [Tb.find] at h
  | node l k v r ihl ihr =>
    simp only [Tb.find] at h
    cases hb : Nat.beq t k with
    | true => rw [hb] at h; simp only [Option.some.injEq] at h; subst h; rw [Nat.eq_of_beq_eq_true hb]; simp [Tb.toList]
    | false =>
      rw [hb] at h
      simp only [] at h
      cases hl : Nat.blt t k with
      | true => rw [hl] at h; simp [Tb.toList, ihl h]
      | false => rw [hl] at h; simp [Tb.toList, ihr h]
theorem Tb.find_ty (hok : TbOk P tb) {t : Nat} {ti : TI} (h : tb.find t = some ti) : TyIs P t ti := tiOf_spec (map_eq_mem hok (t, ti) (Tb.find_mem h))
def elemOf (tb : Tb) (t : Nat) : Option (Nat × Nat × Nat × Option Value) :=
  match tb.find t with
  | some ti => match ti.desc with
    | .slice e => match tb.find e with
      | some te => some (e, te.size, te.bytes, te.zero)
      | none => none
    | _ => none
  | none => none
theorem elemOf_spec (hok : TbOk P tb) {t e sz by_ : Nat} {z : Option Value} (h : elemOf tb t = some (e, sz, by_, z)) :
    P.underlying t = some (.slice e) ∧ ∃ i, P.info? e = some i ∧ i.size = sz ∧ i.bytes = by_ ∧ i.zero = z := by
  unfold elemOf at h
  cases h1 : tb.find t with
  | none => rw [h1] at h; simp at h
  | some ti =>
    rw [h1] at h; simp only [] at h
    have hty := Tb.find_ty hok h1
    obtain ⟨d, sz1, b1, z1⟩ := ti
    cases d <;> simp only [] at h <;> first | (simp at h; done) | skip
    rename_i e'
    cases h2 : tb.find e' with
    | none => rw [h2] at h; simp at h
    | some te =>
      rw [h2] at h
      simp only [Option.some.injEq, Prod.mk.injEq] at h
      have hty2 := Tb.find_ty hok h2
      obtain ⟨rfl, rfl, rfl, rfl⟩ := h
      exact ⟨hty.und, hty2.info⟩
theorem elem_eq {t e : TypeId} (h : P.underlying t = some (.slice e)) : P.elem t = e := by simp [Program.elem, h]

/-! ### owned rows -/
/-- a row that is held alone, in a block from N on (or nil) -/
def Own (w : World) (N : Nat) (T : TypeId) (sz : Nat) (base : Option Addr) (n cap : Nat) (cs : List Value) : Prop := w.ownsRow N T sz (.slice base n cap) n cs
def blkOf (base : Option Addr) : Option Nat := base.map (·.block)
theorem Own.len {w : World} {N T sz : Nat} {base : Option Addr} {n cap : Nat} {cs : List Value} (h : Own w N T sz base n cap cs) : cs.length = n * sz := h.1
theorem Own.le {w : World} {N T sz : Nat} {base : Option Addr} {n cap : Nat} {cs : List Value} (h : Own w N T sz base n cap cs) : n ≤ cap := by
  rcases h.2 with ⟨hv, h0⟩ | ⟨g, cap', cur, hv, _, _, hn, _⟩
  · subst h0; omega
  · injection hv with _ _ h3; subst h3; exact hn
theorem Own.row {w : World} {N T sz : Nat} {base : Option Addr} {n cap : Nat} {cs : List Value} (h : Own w N T sz base n cap cs) : Row w base cs := ownsRow_row h
theorem Own.nil (w : World) (N T sz : Nat) : Own w N T sz none 0 0 [] := ⟨by simp, .inl ⟨rfl, rfl⟩⟩
theorem Own.grown {w w' : World} {N T sz : Nat} {base : Option Addr} {n cap : Nat} {cs : List Value} (h : Own w N T sz base n cap cs) {row : Option Nat} (g : w.grownBy w' row) (hne : base = none ∨ blkOf base ≠ row) : Own w' N T sz base n cap cs := by
  refine ⟨h.1, ?_⟩
  rcases h.2 with hv | ⟨b, cap', cur, hv, hN, hb, hr⟩
  · exact .inl hv
  · refine .inr ⟨b, cap', cur, hv, hN, ?_, hr⟩
    injection hv with h1
    subst h1
    rw [g.block b (Array.getElem?_eq_some_iff.1 hb).1 (by rcases hne with h | h; cases h; exact h)]
    exact hb
theorem grown_ex {w w' : World} (e : Ex w w') : w.grownBy w' none := ⟨e.os, e.tape, e.output, e.size, fun k hk _ => e.block k hk⟩
theorem grown_upd {w w' : World} {b : Nat} (e : Upd w w' b) : w.grownBy w' (some b) := ⟨e.os, e.tape, e.output, by rw [e.size]; exact Nat.le_refl _, fun k _ hk => e.other k (fun h => hk (by rw [h]))⟩
theorem ex_grown {w w' : World} {N : Nat} {row : Option Nat} (g : w.grownBy w' row) (h : ∀ b, row = some b → N ≤ b) (hN : N ≤ w.heap.size) : Below N w w' := ⟨g.os, g.tape, g.output, g.size, fun k hk => g.block k (by omega) (fun e => by have := h k e.symm; omega)⟩
theorem Own.ex {w w' : World} {N T sz : Nat} {base : Option Addr} {n cap : Nat} {cs : List Value} (h : Own w N T sz base n cap cs) (e : Ex w w') : Own w' N T sz base n cap cs := by
  cases base with
  | none => exact h.grown (grown_ex e) (.inl rfl)
  | some a => exact h.grown (grown_ex e) (.inr (by simp [blkOf]))
theorem Own.upd {w w' : World} {N T sz : Nat} {base : Option Addr} {n cap : Nat} {cs : List Value} (h : Own w N T sz base n cap cs) {b : Nat} (e : Upd w w' b) (hne : blkOf base ≠ some b) : Own w' N T sz base n cap cs :=
  h.grown (grown_upd e) (.inr hne)
theorem Own.mono {w : World} {N N' T sz : Nat} {base : Option Addr} {n cap : Nat} {cs : List Value} (h : Own w N T sz base n cap cs) (hN : N' ≤ N) : Own w N' T sz base n cap cs := by
  refine ⟨h.1, ?_⟩
  rcases h.2 with hv | ⟨b, cap', cur, hv, hb, hr⟩
  · exact .inl hv
  · exact .inr ⟨b, cap', cur, hv, by omega, hr⟩
/-- where it stands -/
theorem Own.at_ {w : World} {N T sz : Nat} {base : Option Addr} {n cap : Nat} {cs : List Value} (h : Own w N T sz base n cap cs) {a : Addr} (ha : base = some a) : N ≤ a.block ∧ a.block < w.heap.size := by
  rcases h.2 with ⟨hv, _⟩ | ⟨b, cap', cur, hv, hb, hh, hr⟩
  · injection hv with h1; rw [ha] at h1; cases h1
  · injection hv with h1; rw [ha] at h1; cases h1; exact ⟨hb, (Array.getElem?_eq_some_iff.1 hh).1⟩
theorem Own.blk_ge {w : World} {N T sz : Nat} {base : Option Addr} {n cap : Nat} {cs : List Value} (h : Own w N T sz base n cap cs) : ∀ b, blkOf base = some b → N ≤ b ∧ b < w.heap.size := by
  intro b hb
  cases base with
  | none => simp [blkOf] at hb
  | some a => simp [blkOf] at hb; subst hb; exact h.at_ rfl
theorem Blk.own {w : World} {b N T sz n : Nat} {cs : List Value} (h : Blk w b cs T) (hN : N ≤ b) (hl : cs.length = n * sz) (hm : n ≤ 9223372036854775807) : Own w N T sz (some ⟨b, 0, none⟩) n n cs :=
  ⟨hl, .inr ⟨b, n, cs.toArray, rfl, hN, h, Nat.le_refl _, by simp only [maxLen]; omega, by simpa using hl, by rw [List.take_of_length_le (by simp [hl])]⟩⟩
theorem Blk.row {w : World} {b T : Nat} {cs : List Value} (h : Blk w b cs T) : Row w (some ⟨b, 0, none⟩) cs := ⟨fun _ => ⟨b, 0, rfl, fun j u hj => by rw [Nat.zero_add]; exact h.cell' hj⟩⟩

/-! ### make -/
def reps (n : Nat) (l : List Value) : List Value := (List.replicate n l).flatten
theorem reps_one (n : Nat) (v : Value) : reps n [v] = List.replicate n v := by
  unfold reps
  induction n with
  | zero => rfl
  | succ n ih => rw [List.replicate_succ, List.flatten_cons, ih, List.replicate_succ]; rfl
theorem reps_get {l : List Value} {sz : Nat} (hl : l.length = sz) (hs : 0 < sz) : ∀ (n i : Nat), (reps n l)[i]? = if i < n * sz then l[i % sz]? else none := by
  intro n
  induction n with
  | zero => intro i; simp [reps]
  | succ n ih =>
    intro i
    have e : reps (n + 1) l = l ++ reps n l := by simp [reps, List.replicate_succ]
    rw [e, List.getElem?_append, hl]
    by_cases h : i < sz
    · rw [if_pos h, Nat.mod_eq_of_lt h, if_pos (by rw [Nat.add_mul]; omega)]
    · rw [if_neg h, ih (i - sz)]
      have : (i - sz) % sz = i % sz := by
        conv => rhs; rw [show i = i - sz + sz by omega, Nat.add_mod_right]
      rw [this]
      by_cases h2 : i - sz < n * sz
      · rw [if_pos h2, if_pos (by rw [Nat.add_mul]; omega)]
      · rw [if_neg h2, if_neg (by rw [Nat.add_mul]; omega)]
theorem made_take {z : Value} {sz n cap : Nat} (hl : (cellsOf z).length = sz) (hs : 0 < sz) (hn : n ≤ cap) : ((madeCells z.cells (cap * sz)).toList.take (n * sz)) = reps n (cellsOf z) := by
  apply List.ext_getElem?
  intro j
  rw [reps_get hl hs, List.getElem?_take]
  have hle : n * sz ≤ cap * sz := Nat.mul_le_mul_right _ hn
  by_cases h : j < n * sz
  · rw [if_pos h, if_pos h]
    have hsz : z.cells.size = sz := by rw [← hl, ← cellsOf_eq]; simp
    have hz : j % sz < (cellsOf z).length := by rw [hl]; exact Nat.mod_lt _ hs
    have h2 : j < cap * sz := by omega
    rw [List.getElem?_eq_getElem hz]
    simp only [madeCells, Array.getElem?_toList, Array.getElem?_map, Array.getElem?_range, h2, if_true, Option.map_some, hsz, Option.some.injEq]
    have hz' : j % sz < z.cells.size := by rw [hsz]; exact Nat.mod_lt _ hs
    rw [getElem!_pos z.cells (j % sz) hz']
    simp [← cellsOf_eq]
  · rw [if_neg h, if_neg h]
theorem RunV.make (hok : TbOk P tb) {w : World} {t e sz by_ : Nat} {z : Value} {l c : Int} {K : Value → World → Prop} (N : Nat) (n cap : Nat) (he : elemOf tb t = some (e, sz, by_, some z)) (hl : l = (n : Int)) (hc : c = (cap : Int)) (hn : n ≤ cap)
    (hb : by_ * cap ≤ 140737488355328) (h63 : cap ≤ 9223372036854775807) (hsz : (cellsOf z).length = sz) (h0 : 0 < sz) (hN : N ≤ w.heap.size)
    (h : ∀ w' b, b = w.heap.size → w'.heap.size = b + 1 → Ex w w' → Own w' N e sz (some ⟨b, 0, none⟩) n cap (reps n (cellsOf z)) → K (.slice (some ⟨b, 0, none⟩) n cap) w') : RunV P (Instr.makeSlice t (.int .i64 l) (.int .i64 c)) w K := by
  obtain ⟨hu, i, hi, h1, h2, h3⟩ := elemOf_spec hok he
  subst hl hc
  have hb' : (i.bytes : Int) * (cap : Int) ≤ 281474976710656 := by
    have h5 : ((by_ * cap : Nat) : Int) ≤ 281474976710656 := by omega
    rw [Int.natCast_mul] at h5
    rw [h2]; exact h5
  have hr := run_make (P := P) w t e i z hu hi h3 .i64 .i64 n cap (by omega) (by omega) hb' (by omega)
  simp only [Int.toNat_natCast] at hr
  refine ⟨_, _, hr, h _ _ rfl (by simp) (new_alloc w _).ex ⟨?_, .inr ⟨_, _, _, rfl, hN, (new_alloc w _).at_, hn, by simp only [maxLen]; omega, by rw [size_madeCells, h1], ?_⟩⟩⟩
  · simp [reps, hsz]
  · rw [h1, made_take hsz h0 hn]

/-! ### append -/
theorem one_eq (v : Value) : one v = v.oneCell' := by cases v <;> rfl
theorem RunV.append (hok : TbOk P tb) {w : World} {t ty e sz by_ : Nat} {z : Value} {base bx : Option Addr} {cap cx : Nat} {K : Value → World → Prop} (N : Nat) {n m : Nat} {cs news : List Value}
    (hown : Own w N e sz base n cap cs) (hrow : Row w bx news) (he : elemOf tb t = some (e, sz, by_, some z)) (hl : news.length = m * sz) (h1 : ∀ u ∈ news, one u = true)
    (hb : by_ * (n + m) ≤ 140737488355328) (h63 : n + m ≤ 9223372036854775807) (hsz : (cellsOf z).length = sz) (h0 : 0 < sz) (hN : N ≤ w.heap.size)
    (h : ∀ w' base' cap', Own w' N e sz base' (n + m) cap' (cs ++ news) → w.grownBy w' (blkOf base) → (blkOf base' = blkOf base ∨ blkOf base' = some w.heap.size) → K (.slice base' (n + m) cap') w') :
    RunV P (Builtin.append_ #[t, t] ty #[.slice base n cap, .slice bx m cx]) w K := by
  obtain ⟨hu, i, hi, e1, e2, e3⟩ := elemOf_spec hok he
  have hm : news = [] ↔ m = 0 := by
    constructor
    · intro h; rw [h] at hl; simp only [List.length_nil] at hl; rcases Nat.eq_zero_or_pos m with h | h; exact h; have := Nat.mul_pos h h0; omega
    · intro h; rw [h, Nat.zero_mul] at hl; exact List.length_eq_zero_iff.1 hl
  have hzs : z.cells.size = sz := by rw [← hsz, ← cellsOf_eq]; simp
  have key : ∀ a : Addr, bx = some a → (∀ j u, news[j]? = some u → w.cell? (a.add j) = some u) → RunV P (Builtin.append_ #[t, t] ty #[.slice base n cap, .slice bx m cx]) w K := by
    intro a ha hc
    subst ha
    obtain ⟨v', w', hr, ho, hg, _, hbl⟩ := run_append_own_at (P := P) w N t ty e i z sz by_ hu hi e3 e1 e2 hzs h0 (.slice base n cap) n cs hown a m cx news hl hc (fun u hu => by rw [← one_eq]; exact h1 u hu) (by simp only [maxLen]; omega) (by rw [Nat.mul_comm]; exact hb) hN
    have hv : ∃ base' cap', v' = .slice base' (n + m) cap' := by
      rcases ho.2 with ⟨hv, h0⟩ | ⟨g, cap', cur, hv, _⟩
      · exact ⟨none, 0, by rw [hv, h0]⟩
      · exact ⟨_, _, hv⟩
    obtain ⟨base', cap', rfl⟩ := hv
    have eb : ∀ (b : Option Addr) (x y : Nat), (Value.slice b x y).ownBlock = blkOf b := by intro b x y; cases b <;> rfl
    rw [eb] at hg hbl
    rw [eb] at hbl
    exact ⟨_, _, hr, h _ _ _ ho hg hbl⟩
  by_cases hne : news = []
  · have hm0 := hm.1 hne
    subst hm0 hne
    cases bx with
    | some a => exact key a rfl (by simp)
    | none =>
      -- nothing is appended
      have hr : (Builtin.append_ #[t, t] ty #[.slice base n cap, .slice none 0 cx]).run P w = .ok (.slice base n cap) w := by
        have hle := hown.le
        simp [Builtin.append_, run_underlying hu, sizeOf, typeInfo, hi, Builtin.lenOf, Builtin.firstCells]
        rcases hown.2 with ⟨hv, h0⟩ | ⟨g, cap', cur, hv, _⟩
        · cases hv; simp
        · cases hv; simp [hle, storeCells]
      refine ⟨_, _, hr, h w base cap (by simpa using hown) ⟨rfl, rfl, rfl, Nat.le_refl _, fun _ _ _ => rfl⟩ (.inl rfl)⟩
  · obtain ⟨b, o, hb, hc⟩ := hrow.at_ hne
    exact key _ hb (fun j u hj => by rw [addr_add]; exact hc j u hj)

/-! ### stores -/
theorem StoreA.own {w : World} {N T sz : Nat} {base : Option Addr} {n cap : Nat} {cs vs : List Value} {K : World → Prop} {b o : Nat} (h : Own w N T sz base n cap cs) (hbase : base = some ⟨b, 0, none⟩) (ho : o + vs.length ≤ n * sz) {m : Nat} (hm : vs.length = m) (hv : ∀ v ∈ vs, V.one v = true)
    (hk : ∀ w', Upd w w' b → Own w' N T sz base n cap (cs.take o ++ vs ++ cs.drop (o + vs.length)) → K w') : StoreA P w ⟨b, o, none⟩ vs m K := by
  rcases h.2 with ⟨hv0, _⟩ | ⟨g, cap', cur, hv0, hN, hh, hn, hmx, hcs, htake⟩
  · injection hv0 with h1; rw [hbase] at h1; cases h1
  · injection hv0 with h1 h2 h3
    rw [hbase] at h1; cases h1; subst h3
    have hle : n * sz ≤ cap * sz := Nat.mul_le_mul_right _ hn
    have hcl : cur.toList.length = cap * sz := by simpa using hcs
    refine StoreA.part (T := T) (cs := cur.toList) (by unfold Blk; simpa using hh) hm (by rw [hcl]; omega) hv fun w' hu hb => hk w' hu ⟨?_, .inr ⟨b, cap, _, by rw [hbase], hN, hb, hn, hmx, ?_, ?_⟩⟩
    · simp only [List.length_append, List.length_take, List.length_drop, h.1]; omega
    · simp only [List.size_toArray, List.length_append, List.length_take, List.length_drop, hcl]; omega
    · rw [← htake]
      apply List.ext_getElem?
      intro i
      simp only [List.getElem?_append, List.getElem?_take, List.getElem?_drop, List.length_append, List.length_take, List.length_drop, hcl]
      repeat' split
      all_goals first | rfl | (exfalso; omega) | (congr 1; omega)
/-- a store of one element of single cells -/
theorem StoreA.own1 {w : World} {N T : Nat} {base : Option Addr} {n cap : Nat} {cs : List Value} {v : Value} {K : World → Prop} {b o : Nat} (h : Own w N T 1 base n cap cs) (hbase : base = some ⟨b, 0, none⟩) (ho : o < n) (hv : V.one v = true)
    (hk : ∀ w', Upd w w' b → Own w' N T 1 base n cap (cs.set o v) → K w') : StoreA P w ⟨b, o, none⟩ [v] 1 K := by
  have hl := h.1
  refine StoreA.own (vs := [v]) h hbase (by simp; omega) rfl (by simpa using hv) fun w' hu ho' => hk w' hu ?_
  have : cs.take o ++ [v] ++ cs.drop (o + [v].length) = cs.set o v := by
    rw [List.set_eq_take_append_cons_drop, if_pos (by omega)]; simp
  rw [← this]; exact ho'
/-- an index of an owned row -/
theorem IdxA.own {w : World} {N T sz : Nat} {base : Option Addr} {n cap : Nat} {cs : List Value} {i : Int} {K : Addr → Prop} (h : Own w N T sz base n cap cs) (k : Nat) (hi : i = (k : Int)) (hk : k < n) (h0 : 0 < sz)
    (f : ∀ b, base = some ⟨b, 0, none⟩ → N ≤ b → K ⟨b, k * sz, none⟩) : IdxA base i n sz K := by
  rcases h.2 with ⟨_, hn⟩ | ⟨g, cap', cur, hv, hN, _⟩
  · omega
  · injection hv with h1
    refine ⟨⟨g, 0, none⟩, h1, by omega, by omega, ?_⟩
    rw [addr_add, hi, Int.toNat_natCast, Nat.zero_add]
    exact f g h1 hN

/-! ### slices of rows -/
def baseAt (base : Option Addr) (l m s : Nat) : Option Addr := if m = l then base else base.map (·.add (l * s))
theorem Row.sub {w : World} {base : Option Addr} {cs : List Value} (h : Row w base cs) {l hh m sz : Nat} (h1 : l ≤ hh) (h2 : hh ≤ m) : Row w (baseAt base l m sz) ((cs.drop (l * sz)).take ((hh - l) * sz)) := by
  by_cases hm : m = l
  · have : (hh - l) = 0 := by omega
    rw [this]; simp; exact Row.nil _ _
  · unfold baseAt
    rw [if_neg hm]
    refine ⟨fun hne => ?_⟩
    have : cs ≠ [] := by intro e; subst e; simp at hne
    obtain ⟨b, o, hb, hc⟩ := h.at_ this
    refine ⟨b, o + l * sz, by rw [hb]; simp [addr_add], fun j u hj => ?_⟩
    rw [List.getElem?_take] at hj
    split at hj
    · rw [List.getElem?_drop] at hj
      rw [show o + l * sz + j = o + (l * sz + j) by omega]
      exact hc _ u hj
    · cases hj
theorem RunV.slice (hok : TbOk P tb) {w : World} {t e sz by_ : Nat} {z : Option Value} (he : elemOf tb t = some (e, sz, by_, z)) {base : Option Addr} {n cap : Nat} {lo hi mx : Option Value} {K : Value → World → Prop} (l hh m : Nat)
    (h1 : lo = some (.int .i64 (l : Int)) ∨ (lo = none ∧ l = 0)) (h2 : hi = some (.int .i64 (hh : Int)) ∨ (hi = none ∧ hh = n)) (h3 : mx = some (.int .i64 (m : Int)) ∨ (mx = none ∧ m = cap)) (h4 : hi = none → mx = none)
    (hlh : l ≤ hh) (hm : hh ≤ m) (hc : m ≤ cap) (hk : K (.slice (baseAt base l m sz) (hh - l) (m - l)) w) : RunV P (Instr.sliceAt t (.slice base n cap) lo hi mx) w K := by
  obtain ⟨hu, i, hi', e1, e2, e3⟩ := elemOf_spec hok he
  have hel := elem_eq hu
  have ht : P.underlying t = some (.slice (P.elem t)) := by rw [hel]; exact hu
  have hsz : (sizeOf (P.elem t)).run P w = .ok sz w := by rw [hel]; simp [sizeOf, typeInfo, hi', e1]
  refine ⟨_, w, ?_, hk⟩
  rw [run_sliceAt_slice (P := P) w t _ _ _ _ ht, run_slice_any (P := P) w t base n cap ht]
  have hb : (Instr.sliceBounds true n cap lo hi mx).run P w = .ok (l, hh, m) w := by
    have a1 : (l : Int) ≤ hh := by omega
    have a2 : (hh : Int) ≤ m := by omega
    have a3 : (m : Int) ≤ cap := by omega
    have a4 : (hh : Int) ≤ cap := by omega
    have a5 : (0 : Int) ≤ l := by omega
    have a6 : (0 : Int) ≤ hh := by omega
    have a7 : (0 : Int) ≤ m := by omega
    rcases h1 with rfl | ⟨rfl, h1⟩ <;> rcases h2 with rfl | ⟨rfl, h2⟩ <;> rcases h3 with rfl | ⟨rfl, h3⟩ <;> (try subst h1) <;> (try subst h2) <;> (try subst h3) <;>
      simp_all [Instr.sliceBounds, run_sliceBound]
  rw [hb]
  simp only [Result.andThen_ok, hsz]
  unfold sliced baseAt
  rfl
/-- a part of a row -/
theorem RunV.sliceRow (hok : TbOk P tb) {w : World} {t e sz by_ : Nat} {z : Option Value} (he : elemOf tb t = some (e, sz, by_, z)) {base : Option Addr} {n cap : Nat} {lo hi mx : Option Value} {K : Value → World → Prop} {cs : List Value} (hr : Row w base cs) (l hh m k : Nat)
    (h1 : lo = some (.int .i64 (l : Int)) ∨ (lo = none ∧ l = 0)) (h2 : hi = some (.int .i64 (hh : Int)) ∨ (hi = none ∧ hh = n)) (h3 : mx = some (.int .i64 (m : Int)) ∨ (mx = none ∧ m = cap)) (h4 : hi = none → mx = none)
    (hlh : l + k = hh) (hm : hh ≤ m) (hc : m ≤ cap) (hk : ∀ b' c', k ≤ c' → blkOf b' = blkOf base → Row w b' ((cs.drop (l * sz)).take (k * sz)) → K (.slice b' k c') w) : RunV P (Instr.sliceAt t (.slice base n cap) lo hi mx) w K := by
  subst hlh
  have hs := hr.sub (l := l) (hh := l + k) (m := m) (sz := sz) (by omega) hm
  rw [show l + k - l = k by omega] at hs
  refine RunV.slice hok he l (l + k) m h1 h2 h3 h4 (by omega) hm hc ?_
  rw [show l + k - l = k by omega]
  refine hk _ _ (by omega) ?_ hs
  unfold baseAt
  split
  · rfl
  · cases base with
    | none => rfl
    | some a => obtain ⟨b, o, s⟩ := a; simp [blkOf, Addr.add]; split <;> rfl
end Go.V
namespace Go.V
open Go
theorem YieldA.mono {P : Program} {l : Nat} {args : List Value} {w : World} {K K' : Value → World → Prop} (h : YieldA P l args w K) (hk : ∀ v w', K v w' → K' v w') : YieldA P l args w K' := ⟨opRes_mono h.out hk⟩
end Go.V
namespace Go.V
open Go
open Go.RowKit (Below)
theorem Ex.upd {w w1 w2 : World} {b : Nat} (h : Ex w w1) (u : Upd w1 w2 b) (hb : w.heap.size ≤ b) : Ex w w2 := Below.trans h (u.below hb)
theorem Ex.grow {w w1 w2 : World} {row : Option Nat} (h : Ex w w1) (g : w1.grownBy w2 row) (hb : ∀ b, row = some b → w.heap.size ≤ b) : Ex w w2 := Below.trans h (ex_grown g hb h.size)
theorem Ex.st {w w1 w2 : World} {N : Nat} (h : Ex w w1) (s : St N w1 w2) (hN : w.heap.size ≤ N) : Ex w w2 := Below.trans h (Below.mono s.below hN)
theorem St.size {w w1 : World} {N : Nat} (s : St N w w1) : w.heap.size ≤ w1.heap.size := s.below.size
end Go.V
namespace Go.V
open Go
theorem TakeA.mk' {P : Program} {r : Nat} {w : World} {K : World → Prop} {N : Nat} (h : w.heap[r]? = some (.deferred (some []))) (hN : N ≤ r) (hk : ∀ w', St N w w' → K w') : TakeA P r w K :=
  ⟨_, run_takeDeferred h, hk _ (St.put h rfl hN)⟩
end Go.V
namespace Go.V
open Go
/-- a row of things, each so many cells -/
def rowC {α : Type} (c : α → List Value) (xs : List α) : List Value := xs.flatMap c
theorem rowC_length {α : Type} {c : α → List Value} {sz : Nat} (hc : ∀ x, (c x).length = sz) (xs : List α) : (rowC c xs).length = xs.length * sz := by
  induction xs with
  | nil => simp [rowC]
  | cons x r ih => simp only [rowC, List.flatMap_cons, List.length_append, List.length_cons, Nat.add_mul, hc, Nat.one_mul] at *; omega
theorem rowC_get {α : Type} {c : α → List Value} {sz : Nat} (hc : ∀ x, (c x).length = sz) : ∀ (xs : List α) (k j : Nat) (hk : k < xs.length), j < sz → (rowC c xs)[k * sz + j]? = (c xs[k])[j]? := by
  intro xs
  induction xs with
  | nil => intro k j hk; simp at hk
  | cons x r ih =>
    intro k j hk hj
    simp only [rowC, List.flatMap_cons]
    cases k with
    | zero => rw [List.getElem?_append_left (by rw [hc]; omega)]; simp
    | succ k =>
      rw [List.getElem?_append_right (by rw [hc, Nat.add_mul]; omega), hc, show (k + 1) * sz + j - sz = k * sz + j by rw [Nat.add_mul]; omega]
      exact ih k j (by simpa using hk) hj
theorem rowC_take {α : Type} {c : α → List Value} {sz : Nat} (hc : ∀ x, (c x).length = sz) (xs : List α) : ∀ k, (rowC c xs).take (k * sz) = rowC c (xs.take k) := by
  induction xs with
  | nil => intro k; simp [rowC]
  | cons x r ih =>
    intro k
    cases k with
    | zero => simp [rowC]
    | succ k =>
      have := ih k
      simp only [rowC, List.flatMap_cons, List.take_succ_cons] at *
      rw [List.take_append, hc, show (k + 1) * sz - sz = k * sz by rw [Nat.add_mul]; omega, this, List.take_of_length_le (by rw [hc, Nat.add_mul]; omega)]
theorem rowC_drop {α : Type} {c : α → List Value} {sz : Nat} (hc : ∀ x, (c x).length = sz) (xs : List α) : ∀ k, (rowC c xs).drop (k * sz) = rowC c (xs.drop k) := by
  induction xs with
  | nil => intro k; simp [rowC]
  | cons x r ih =>
    intro k
    cases k with
    | zero => simp [rowC]
    | succ k =>
      have := ih k
      simp only [rowC, List.flatMap_cons, List.drop_succ_cons] at *
      rw [List.drop_append, hc, show (k + 1) * sz - sz = k * sz by rw [Nat.add_mul]; omega, this, List.drop_of_length_le (by rw [hc, Nat.add_mul]; omega), List.nil_append]
theorem rowC_append {α : Type} {c : α → List Value} (xs ys : List α) : rowC c (xs ++ ys) = rowC c xs ++ rowC c ys := by simp [rowC]
theorem rowC_set {α : Type} {c : α → List Value} {sz : Nat} (hc : ∀ x, (c x).length = sz) (xs : List α) (k : Nat) (y : α) (hk : k < xs.length) : (rowC c xs).take (k * sz) ++ c y ++ (rowC c xs).drop (k * sz + (c y).length) = rowC c (xs.set k y) := by
  rw [rowC_take hc, hc, show k * sz + sz = (k + 1) * sz by rw [Nat.add_mul]; omega, rowC_drop hc, List.set_eq_take_append_cons_drop, if_pos hk, rowC_append]
  simp [rowC]
theorem ints_eq (xs : List Int) : ints xs = rowC (fun x => [.int .i64 x]) xs := by rw [ints, rowC, List.map_eq_flatMap]
theorem ints_append (xs ys : List Int) : ints (xs ++ ys) = ints xs ++ ints ys := by simp [ints]
theorem ints_set (xs : List Int) (k : Nat) (y : Int) : (ints xs).set k (.int .i64 y) = ints (xs.set k y) := by simp [ints, List.map_set]
theorem ints_take (xs : List Int) (k : Nat) : (ints xs).take k = ints (xs.take k) := by simp [ints]
theorem ints_drop (xs : List Int) (k : Nat) : (ints xs).drop k = ints (xs.drop k) := by simp [ints]
theorem ints_rep (n : Nat) (x : Int) : reps n [.int .i64 x] = ints (List.replicate n x) := by rw [reps_one]; simp [ints]
theorem rowC_rep {α : Type} {c : α → List Value} (n : Nat) (x : α) {l : List Value} (h : l = c x) : reps n l = rowC c (List.replicate n x) := by subst h; simp [reps, rowC, List.flatMap_replicate]
theorem ints_one (xs : List Int) : ∀ v ∈ ints xs, one v = true := by
  intro v hv
  simp only [ints, List.mem_map] at hv
  obtain ⟨x, _, rfl⟩ := hv; rfl
theorem rowC_one {α : Type} {c : α → List Value} (h : ∀ x, ∀ v ∈ c x, one v = true) (xs : List α) : ∀ v ∈ rowC c xs, one v = true := by
  intro v hv
  simp only [rowC, List.mem_flatMap] at hv
  obtain ⟨x, _, hx⟩ := hv; exact h x v hx
/-- an index of a row of things: where its cells are -/
theorem IdxA.elem {α : Type} {c : α → List Value} {sz : Nat} {w : World} {base : Option Addr} {i : Int} {n : Nat} {xs : List α} {K : Addr → Prop} (h : Row w base (rowC c xs)) (hc : ∀ x, (c x).length = sz) (h0 : 0 < sz) (hl : n = xs.length) (k : Nat) (hi : i = (k : Int)) (hk : k < xs.length)
    (f : ∀ b o, base = some ⟨b, o, none⟩ → (∀ j u, (c xs[k])[j]? = some u → w.cell? ⟨b, o + k * sz + j, none⟩ = some u) → K ⟨b, o + k * sz, none⟩) : IdxA base i n sz K := by
  subst hl
  refine IdxA.row h (rowC_length hc xs) k hi hk h0 fun b o hb hcell => f b o hb fun j u hu => ?_
  have hj : j < sz := by rw [← hc xs[k]]; exact (List.getElem?_eq_some_iff.1 hu).1
  exact hcell j u hj (by rw [rowC_get hc xs k j hk hj]; exact hu)
/-! ### slices as things -/
/-- a slice of numbers: where it is, and what it holds -/
structure Sl where
  base : Option Addr
  cap : Nat
  xs : List Int
def Sl.val (s : Sl) : Value := .slice s.base s.xs.length s.cap
def slC (s : Sl) : List Value := [s.val]
def slInts (w : World) (s : Sl) : Prop := Row w s.base (ints s.xs) ∧ s.xs.length < 140737488355328
end Go.V
namespace Go.V
open Go
theorem rep_one (v : Value) (n : Nat) : ∀ u ∈ reps n [v], u = v := by
  intro u hu; rw [reps_one] at hu; exact (List.mem_replicate.1 hu).2
theorem zeroCells_len (z : Array Value) (n : Nat) : (Builtin.zeroCells z n).size = n * z.size := size_zeroCells z n
/-- nil, grown by so many zero elements -/
theorem RunV.appendZeros {P : Program} {tb : Tb} (hok : TbOk P tb) {w : World} {t ti ty e sz by_ : Nat} {z : Value} {x : Int} {K : Value → World → Prop} (N n : Nat) {tin : TI} {kd : IntKind} (he : elemOf tb t = some (e, sz, by_, some z)) (hti : tb.find ti = some tin) (hin : tin.desc = .int kd)
    (hx : x = (n : Int)) (h0 : 0 < n) (hb : by_ * n ≤ 140737488355328) (h63 : n ≤ 9223372036854775807) (hsz : (cellsOf z).length = sz) (hN : N ≤ w.heap.size)
    (h : ∀ w' b cap cs, b = w.heap.size → Ex w w' → n ≤ cap → Own w' N e sz (some ⟨b, 0, none⟩) n cap cs → K (.slice (some ⟨b, 0, none⟩) n cap) w') :
    RunV P (Builtin.append_ #[t, ti] ty #[.slice none 0 0, .int .i64 x]) w K := by
  obtain ⟨hu, i, hi, e1, e2, e3⟩ := elemOf_spec hok he
  have hui := (Tb.find_ty hok hti).und
  rw [hin] at hui
  subst hx
  have hzs : z.cells.size = sz := by rw [← hsz, ← cellsOf_eq]; simp
  have hn : n ≠ 0 := by omega
  have wl : IntKind.i64.wrap (n : Int) = n := by rw [IntKind.wrap_i64]; omega
  have n1 : ¬ ((n : Int) < 0) := by omega
  have hbi : (i.bytes : Int) * (n : Int) ≤ 140737488355328 := by
    rw [e2]
    have : ((by_ * n : Nat) : Int) ≤ 140737488355328 := by omega
    rwa [Int.natCast_mul] at this
  have n2 : ¬ (281474976710656 < (n : Int) * (i.bytes : Int)) := by rw [Int.mul_comm]; omega
  have n3 : ¬ (9223372036854775807 < (n : Int)) := by omega
  have hnb : n * i.bytes ≤ 140737488355328 := by rw [e2, Nat.mul_comm]; exact hb
  have n4 : ¬ (281474976710656 < Builtin.nextslicecap n 0 * i.bytes) := by
    have : Builtin.nextslicecap n 0 = n := by unfold Builtin.nextslicecap; simp; omega
    rw [this]; omega
  let cap := grownCap w n 0 e
  have hge := grownCap_ge w n 0 e
  have hmx : cap ≤ maxLen := grownCap_le_maxLen w n 0 e (by simp only [maxLen]; omega)
  have key : ∃ cs : Array Value, cs.size = cap * sz ∧ (Builtin.append_ #[t, ti] ty #[.slice none 0 0, .int .i64 (n : Int)]).run P w = .ok (.slice (some ⟨w.heap.size, 0, none⟩) n cap) (w.drew.alloc (.cells cs e)) := by
    by_cases hz : n * i.size = 0
    · refine ⟨#[] ++ Builtin.zeroCells z.cells (cap - n), ?_, ?_⟩
      · have : sz = 0 := by rw [e1] at hz; rcases Nat.mul_eq_zero.1 hz with h | h; omega; exact h
        simp [size_zeroCells, hzs, this]
      · simp [Builtin.append_, run_underlying hu, run_underlying hui, sizeOf, typeInfo, zeroValue, hi, e3, hn, wl, n1, n2, n3, n4, hz, Question.forced, asInt, asIntOf, newRow, grownCap, cap, Builtin.firstCells, loadCells, loadCellsFrom]
    · refine ⟨Builtin.zeroCells z.cells n ++ Builtin.zeroCells z.cells (cap - n), ?_, ?_⟩
      · rw [Array.size_append, size_zeroCells, size_zeroCells, hzs, ← Nat.add_mul]
        congr 1; omega
      · simp [Builtin.append_, run_underlying hu, run_underlying hui, sizeOf, typeInfo, zeroValue, hi, e3, hn, wl, n1, n2, n3, n4, hz, Question.forced, asInt, asIntOf, newRow, grownCap, cap, Builtin.firstCells, loadCells, loadCellsFrom]
  obtain ⟨cs, hcs, hr⟩ := key
  refine ⟨_, _, hr, h _ _ cap (cs.toList.take (n * sz)) rfl ?_ hge ⟨?_, .inr ⟨w.heap.size, cap, cs, rfl, hN, heap_alloc_new w.drew _, hge, hmx, hcs, rfl⟩⟩⟩
  · exact ⟨rfl, rfl, rfl, by simp, fun k hk => (World.grownBy_alloc w.drew _ none).block k (by simpa using hk) (by simp)⟩
  · have : n * sz ≤ cap * sz := Nat.mul_le_mul_right _ hge
    simp only [List.length_take, Array.length_toList]; omega
end Go.V
namespace Go.V
open Go
/-! ### small built-ins -/
theorem RunV.cap {P : Program} {tb : Tb} (hok : TbOk P tb) {w : World} {t ty e sz by_ : Nat} {z : Option Value} {base : Option Addr} {n c : Nat} {K : Value → World → Prop} (he : elemOf tb t = some (e, sz, by_, z)) (hk : K (.int .i64 c) w) :
    RunV P (Builtin.cap_ #[t] ty #[.slice base n c]) w K := by
  obtain ⟨hu, _⟩ := elemOf_spec hok he
  exact ⟨_, _, run_cap_slice (P := P) w t ty base n c (by rw [elem_eq hu]; exact hu), hk⟩
theorem RunV.min {P : Program} {w : World} {ts : Array TypeId} {t : TypeId} {x y : Int} {K : Value → World → Prop} (hk : K (.int .i64 (if y < x then y else x)) w) : RunV P (Builtin.min_ ts t #[.int .i64 x, .int .i64 y]) w K :=
  ⟨_, _, run_min_int2 (P := P) w ts t .i64 .i64 x y, hk⟩
theorem RunV.max {P : Program} {w : World} {ts : Array TypeId} {t : TypeId} {x y : Int} {K : Value → World → Prop} (hk : K (.int .i64 (if y > x then y else x)) w) : RunV P (Builtin.max_ ts t #[.int .i64 x, .int .i64 y]) w K :=
  ⟨_, _, run_max_int2 (P := P) w ts t .i64 .i64 x y, hk⟩
theorem RunV.nilEq {P : Program} {tb : Tb} (hok : TbOk P tb) {w : World} {t e sz by_ : Nat} {z : Option Value} {x y : Operand} {base : Option Addr} {n c : Nat} {K : Value → World → Prop} (he : elemOf tb t = some (e, sz, by_, z)) (hk : K (.bool base.isNone) w) :
    RunV P (do eqGuard .eql t x y (.slice base n c) (.slice none 0 0); binOp .eql t (.slice base n c) (.slice none 0 0)) w K := by
  obtain ⟨hu, _⟩ := elemOf_spec hok he
  refine ⟨_, _, ?_, hk⟩
  simp only [eqGuard_at_slice, binOp]
  simp [run_equal_slice_nil w t e base n c hu]
/-- fields that are all whole numbers, one behind the other -/
def flatFs (tb : Tb) : List Field → Nat → Bool
  | [], _ => true
  | f :: r, i => (match tb.find f.type with
    | some ti => (match ti.desc with | .int _ => true | _ => false) && Nat.beq ti.size 1
    | none => false) && (f.name != "_") && Nat.beq f.offset i && flatFs tb r (i + 1)
theorem run_eqFlat {P : Program} {tb : Tb} (hok : TbOk P tb) {w : World} (d : Nat) (as bs : List Int) (hl : as.length = bs.length) : ∀ (fs : List Field) (i : Nat), flatFs tb fs i = true → i + fs.length = as.length →
    (Op.eqFields (d + 1) (ints as).toArray (ints bs).toArray fs).run P w = .ok (decide (as.drop i = bs.drop i)) w := by
  intro fs
  induction fs with
  | nil =>
    intro i _ hi
    simp only [List.length_nil, Nat.add_zero] at hi
    rw [List.drop_of_length_le (by omega), List.drop_of_length_le (by omega)]
    simp [Op.eqFields]
  | cons f r ih =>
    intro i hf hi
    simp only [List.length_cons] at hi
    simp only [flatFs, Bool.and_eq_true] at hf
    obtain ⟨⟨⟨h1, h2⟩, h3⟩, h4⟩ := hf
    have h3 := Nat.eq_of_beq_eq_true h3
    cases ht : tb.find f.type with
    | none => rw [ht] at h1; simp at h1
    | some ti =>
      rw [ht] at h1
      simp only [Bool.and_eq_true] at h1
      have hty := Tb.find_ty hok ht
      cases hd : ti.desc <;> rw [hd] at h1 <;> simp only [Bool.false_eq_true, false_and] at h1
      rename_i k
      have hu := hty.und
      rw [hd] at hu
      have hia : i < as.length := by omega
      have hib : i < bs.length := by omega
      have hpa : (part f.type (ints as).toArray f.offset).run P w = .ok (.int .i64 as[i]) w := by
        simp [part, isAgg, run_underlying hu, h3, ints, hia]
      have hpb : (part f.type (ints bs).toArray f.offset).run P w = .ok (.int .i64 bs[i]) w := by
        simp [part, isAgg, run_underlying hu, h3, ints, hib]
      have hne : f.name ≠ "_" := by simpa using h2
      simp only [Op.eqFields, if_pos hne, Sem.run_bind, hpa, hpb, Result.andThen_ok, run_equalIn_int w d f.type .i64 k as[i] bs[i] hu]
      have e1 := List.drop_eq_getElem_cons hia
      have e2 := List.drop_eq_getElem_cons hib
      by_cases he : as[i] = bs[i]
      · have : (as.drop i = bs.drop i) ↔ (as.drop (i + 1) = bs.drop (i + 1)) := by rw [e1, e2, he]; simp only [List.cons.injEq, true_and]
        rw [if_neg (by simp [he]), ih (i + 1) h4 (by omega), decide_eq_decide.2 this]
      · have : ¬ (as.drop i = bs.drop i) := by rw [e1, e2]; simp only [List.cons.injEq, he, false_and, not_false_eq_true]
        rw [decide_eq_false this]
        simp [he]
/-- equality of structs of whole numbers -/
theorem RunV.structEq {P : Program} {tb : Tb} (hok : TbOk P tb) {w : World} {t : Nat} {ti : TI} {fs : Array Field} {x y : Operand} {as bs : List Int} {K : Value → World → Prop} (ht : tb.find t = some ti) (hd : ti.desc = .struct fs) (hf : flatFs tb fs.toList 0 = true)
    (ha : fs.toList.length = as.length) (hl : as.length = bs.length) (hs : P.stoodInHeld t = false) (hg : P.eqGuardType P.depth t = false) (hk : K (.bool (decide (as = bs))) w) :
    RunV P (do eqGuard .eql t x y (.agg (ints as).toArray) (.agg (ints bs).toArray); binOp .eql t (.agg (ints as).toArray) (.agg (ints bs).toArray)) w K := by
  have hu := (Tb.find_ty hok ht).und
  rw [hd] at hu
  have hfo : P.fieldsOf t = fs := by simp [Program.fieldsOf, hu]
  refine ⟨_, _, ?_, hk⟩
  simp only [Sem.run_bind, run_eqGuard_agg w .eql t x y _ _ hg, Result.andThen_ok, run_eql_struct]
  rw [show (10000 : Nat) = 9998 + 1 + 1 from rfl, run_equalIn_struct w (9998 + 1) t _ _ (by rw [hfo]; exact hu) hs, hfo, run_eqFlat hok 9998 as bs hl fs.toList 0 hf (by omega)]
  simp
theorem RunV.structNe {P : Program} {tb : Tb} (hok : TbOk P tb) {w : World} {t : Nat} {ti : TI} {fs : Array Field} {x y : Operand} {as bs : List Int} {K : Value → World → Prop} (ht : tb.find t = some ti) (hd : ti.desc = .struct fs) (hf : flatFs tb fs.toList 0 = true)
    (ha : fs.toList.length = as.length) (hl : as.length = bs.length) (hs : P.stoodInHeld t = false) (hg : P.eqGuardType P.depth t = false) (hk : K (.bool (!decide (as = bs))) w) :
    RunV P (do eqGuard .neq t x y (.agg (ints as).toArray) (.agg (ints bs).toArray); binOp .neq t (.agg (ints as).toArray) (.agg (ints bs).toArray)) w K := by
  have hu := (Tb.find_ty hok ht).und
  rw [hd] at hu
  have hfo : P.fieldsOf t = fs := by simp [Program.fieldsOf, hu]
  refine ⟨_, _, ?_, hk⟩
  simp only [Sem.run_bind, run_eqGuard_agg w .neq t x y _ _ hg, Result.andThen_ok, run_neq_struct]
  rw [show (10000 : Nat) = 9998 + 1 + 1 from rfl, run_equalIn_struct w (9998 + 1) t _ _ (by rw [hfo]; exact hu) hs, hfo, run_eqFlat hok 9998 as bs hl fs.toList 0 hf (by omega)]
  simp
/-- the head of an owned row -/
theorem RunV.sliceOwn {P : Program} {tb : Tb} (hok : TbOk P tb) {w : World} {t e sz by_ N T : Nat} {z : Option Value} (he : elemOf tb t = some (e, sz, by_, z)) {base : Option Addr} {n cap : Nat} {lo hi mx : Option Value} {K : Value → World → Prop} {cs : List Value} (h : Own w N T sz base n cap cs) (k : Nat)
    (h1 : lo = some (.int .i64 0) ∨ lo = none) (h2 : hi = some (.int .i64 (k : Int)) ∨ (hi = none ∧ k = n)) (h3 : mx = none) (hk : k ≤ n) (hK : Own w N T sz base k cap (cs.take (k * sz)) → K (.slice base k cap) w) : RunV P (Instr.sliceAt t (.slice base n cap) lo hi mx) w K := by
  have hle := h.le
  refine RunV.slice hok he 0 k cap (h1.elim .inl (fun h => .inr ⟨h, rfl⟩)) h2 (.inr ⟨h3, rfl⟩) (fun _ => h3) (by omega) (by omega) (by omega) ?_
  have hb : baseAt base 0 cap sz = base := by
    unfold baseAt; split
    · rfl
    · cases base with
      | none => rfl
      | some a => simp [Addr.add]
  rw [hb, Nat.sub_zero, Nat.sub_zero]
  refine hK ⟨?_, ?_⟩
  · have hks : k * sz ≤ n * sz := Nat.mul_le_mul_right _ hk
    rw [List.length_take, h.1]; omega
  · rcases h.2 with ⟨hv, h0⟩ | ⟨g, cap', cur, hv, hN, hh, hn, hmx, hcs, htake⟩
    · injection hv with e1 e2 e3; subst e1; subst e3
      have : k = 0 := by omega
      subst this; exact .inl ⟨rfl, rfl⟩
    · injection hv with e1 e2 e3; subst e1; subst e3
      refine .inr ⟨g, cap, cur, rfl, hN, hh, by omega, hmx, hcs, ?_⟩
      rw [← htake, List.take_take]
      congr 1
      have hks : k * sz ≤ n * sz := Nat.mul_le_mul_right _ hk
      omega
end Go.V
namespace Go.V
open Go
/-- an index of a row of numbers, what stands there being known -/
theorem IdxA.at_ {w : World} {base : Option Addr} {i : Int} {n : Nat} {xs : List Int} {K : Addr → Prop} (h : Row w base (V.ints xs)) (hl : n = xs.length) (k : Nat) {x : Int} (hx : xs[k]? = some x) (hi : i = (k : Int))
    (f : ∀ b o, base = some ⟨b, o, none⟩ → w.cell? ⟨b, o + k, none⟩ = some (.int .i64 x) → K ⟨b, o + k, none⟩) : IdxA base i n 1 K := by
  obtain ⟨hk, hx⟩ := List.getElem?_eq_some_iff.1 hx
  subst hx
  exact IdxA.ints (xs := xs) h hl k hi hk f
/-- an index of an owned row of single cells -/
theorem IdxA.own1 {w : World} {N T : Nat} {base : Option Addr} {n cap : Nat} {cs : List Value} {i : Int} {K : Addr → Prop} (h : Own w N T 1 base n cap cs) (k : Nat) (hi : i = (k : Int)) (hk : k < n)
    (f : ∀ b, base = some ⟨b, 0, none⟩ → N ≤ b → K ⟨b, k, none⟩) : IdxA base i n 1 K :=
  IdxA.own h k hi hk (by decide) fun b hb hN => by rw [Nat.mul_one]; exact f b hb hN
end Go.V
namespace Go.V
open Go
/-- slices of numbers, in a row -/
def Sls (w : World) (base : Option Addr) (ss : List Sl) : Prop := Row w base (rowC slC ss) ∧ ss.length < 140737488355328 ∧ ∀ s ∈ ss, slInts w s
theorem slInts.ex {w w' : World} {s : Sl} (h : slInts w s) (e : Ex w w') : slInts w' s := ⟨h.1.ex e, h.2⟩
theorem Sls.ex {w w' : World} {base : Option Addr} {ss : List Sl} (h : Sls w base ss) (e : Ex w w') : Sls w' base ss := ⟨h.1.ex e, h.2.1, fun s hs => (h.2.2 s hs).ex e⟩
def rowsOf (ss : List Sl) : List (List Int) := ss.map Sl.xs
end Go.V
namespace Go.V
open Go
theorem all_one {vs : List Value} (h : vs.all one = true) : ∀ v ∈ vs, one v = true := List.all_eq_true.1 h
/-- a whole variable is written -/
theorem StoreA.var {P : Program} {w : World} {b n : Nat} {cs vs : List Value} {T : TypeId} {K : World → Prop} (h : Blk w b cs T) (hn : vs.length = n) (hc : cs.length = n) (hv : vs.all V.one = true)
    (hk : ∀ w', Upd w w' b → Blk w' b vs T → K w') : StoreA P w ⟨b, 0, none⟩ vs n K := StoreA.all h hn hc (all_one hv) hk
end Go.V
namespace Go.V
open Go
theorem Hold1.blk {w : World} {b j : Nat} {cs : List Value} {T : TypeId} {S : World → Prop} {K : Value → Prop} {v : Value} (h : Blk w b cs T) (hj : cs[j]? = some v) (hS : ∀ u, S u → Ex w u) (hk : K v) : Hold1 S ⟨b, j, none⟩ K := ⟨v, fun u hu => (hS u hu).cell (h.cell' hj), hk⟩
end Go.V
namespace Go.V
open Go
theorem Row.upd {w w' : World} {base : Option Addr} {cs : List Value} {b : Nat} (h : Row w base cs) (u : Upd w w' b) (hne : ∀ a, base = some a → a.block ≠ b) : Row w' base cs :=
  ⟨fun hn => by
    obtain ⟨c, o, hb, hc⟩ := h.at_ hn
    refine ⟨c, o, hb, fun j v hj => ?_⟩
    have hcb : c ≠ b := hne _ hb
    rw [World.cell?_of_block (a := ⟨c, o + j, none⟩) (u.other c hcb)]
    exact hc j v hj⟩
theorem mid_get {α : Type} (A : List α) (a : α) (B : List α) (k : Nat) (v : α) (hA : A.length = k) : (A ++ a :: B)[k]? = some a ∧ (A ++ a :: B).set k v = (A ++ [v]) ++ B := by
  subst hA; simp
end Go.V
namespace Go.V
open Go
theorem HoldV.structEq {P : Program} {tb : Tb} (hok : TbOk P tb) {S : World → Prop} {t : Nat} {ti : TI} {fs : Array Field} {x y : Operand} {as bs : List Int} {K : Value → Prop} (ht : tb.find t = some ti) (hd : ti.desc = .struct fs) (hf : flatFs tb fs.toList 0 = true)
    (ha : fs.toList.length = as.length) (hl : as.length = bs.length) (hs : P.stoodInHeld t = false) (hg : P.eqGuardType P.depth t = false) (hk : K (.bool (decide (as = bs)))) :
    HoldV P S (do eqGuard .eql t x y (.agg (ints as).toArray) (.agg (ints bs).toArray); binOp .eql t (.agg (ints as).toArray) (.agg (ints bs).toArray)) K := by
  refine ⟨_, fun w _ => ?_, hk⟩
  obtain ⟨v, w', h1, h2, h3⟩ := (RunV.structEq (P := P) hok (w := w) (x := x) (y := y) (K := fun v w' => v = .bool (decide (as = bs)) ∧ w' = w) ht hd hf ha hl hs hg ⟨rfl, rfl⟩).out
  rw [h1, h2, h3]
theorem HoldV.structNe {P : Program} {tb : Tb} (hok : TbOk P tb) {S : World → Prop} {t : Nat} {ti : TI} {fs : Array Field} {x y : Operand} {as bs : List Int} {K : Value → Prop} (ht : tb.find t = some ti) (hd : ti.desc = .struct fs) (hf : flatFs tb fs.toList 0 = true)
    (ha : fs.toList.length = as.length) (hl : as.length = bs.length) (hs : P.stoodInHeld t = false) (hg : P.eqGuardType P.depth t = false) (hk : K (.bool (!decide (as = bs)))) :
    HoldV P S (do eqGuard .neq t x y (.agg (ints as).toArray) (.agg (ints bs).toArray); binOp .neq t (.agg (ints as).toArray) (.agg (ints bs).toArray)) K := by
  refine ⟨_, fun w _ => ?_, hk⟩
  obtain ⟨v, w', h1, h2, h3⟩ := (RunV.structNe (P := P) hok (w := w) (x := x) (y := y) (K := fun v w' => v = .bool (!decide (as = bs)) ∧ w' = w) ht hd hf ha hl hs hg ⟨rfl, rfl⟩).out
  rw [h1, h2, h3]
end Go.V
namespace Go.V
open Go
theorem Hold1.but {w : World} {b c j : Nat} {cs : List Value} {T : TypeId} {K : Value → Prop} {v : Value} (h : Blk w c cs T) (hj : cs[j]? = some v) (hne : c ≠ b) (hk : K v) : Hold1 (fun u => w.grownBy u (some b)) ⟨c, j, none⟩ K :=
  ⟨v, fun u hu => by
    have hlt := h.lt
    rw [World.cell?_of_block (a := ⟨c, j, none⟩) (hu.block c hlt (by simpa using hne))]
    exact h.cell' hj, hk⟩
theorem Hold1.butc {w : World} {b : Nat} {a : Addr} {K : Value → Prop} {v : Value} (h : w.cell? a = some v) (hne : a.block ≠ b) (hk : K v) : Hold1 (fun u => w.grownBy u (some b)) a K :=
  ⟨v, fun u hu => by
    rw [World.cell?_of_block (hu.block a.block (World.block_lt_of_cell? _ _ h) (by simpa using hne))]
    exact h, hk⟩
theorem Ex.grown {w w' : World} (e : Ex w w') (row : Option Nat) : w.grownBy w' row := ⟨e.os, e.tape, e.output, e.size, fun k hk _ => e.block k hk⟩
theorem Upd.grown {w w' : World} {b : Nat} (e : Upd w w' b) : w.grownBy w' (some b) := grown_upd e
end Go.V
namespace Go.V
open Go
theorem Own.some_ {w : World} {N T sz : Nat} {base : Option Addr} {n cap : Nat} {cs : List Value} (h : Own w N T sz base n cap cs) (hn : 0 < n) : ∃ b, base = some ⟨b, 0, none⟩ ∧ N ≤ b ∧ b < w.heap.size := by
  rcases h.2 with ⟨_, h0⟩ | ⟨g, cap', cur, hv, hN, hh, _⟩
  · omega
  · injection hv with h1; exact ⟨g, h1, hN, (Array.getElem?_eq_some_iff.1 hh).1⟩
theorem Own.cm {w : World} {N T sz : Nat} {base : Option Addr} {n cap : Nat} {cs : List Value} (h : Own w N T sz base n cap cs) {b : Nat} (hb : base = some ⟨b, 0, none⟩) : ∃ o, w.heap[b]? = some o ∧ isCM o = true := by
  rcases h.2 with ⟨hv, _⟩ | ⟨g, cap', cur, hv, hN, hh, _⟩
  · injection hv with h1; rw [hb] at h1; cases h1
  · injection hv with h1; rw [hb] at h1; cases h1; exact ⟨_, hh, rfl⟩
theorem Blk.cm {w : World} {b T : Nat} {cs : List Value} (h : Blk w b cs T) : ∃ o, w.heap[b]? = some o ∧ isCM o = true := ⟨_, h, rfl⟩
theorem KO.put {u u' : World} {b : Nat} (e : Upd u u' b) (h : ∃ o, u.heap[b]? = some o ∧ isCM o = true) : KO u u' := KO.grown e.grown (by rintro k ⟨⟩; exact h)
end Go.V
namespace Go.V
open Go
theorem zeroCells_reps {z : Value} {sz m : Nat} (hl : (cellsOf z).length = sz) (hs : 0 < sz) : (Builtin.zeroCells z.cells m).toList = reps m (cellsOf z) := by
  have hzs : z.cells.size = sz := by rw [← hl, ← cellsOf_eq]; simp
  have h := made_take (n := m) (cap := m) hl hs (Nat.le_refl _)
  rw [List.take_of_length_le (by simp [madeCells])] at h
  rw [← h]
  unfold Builtin.zeroCells madeCells
  rw [hzs]
theorem reps_len {l : List Value} {sz : Nat} (hl : l.length = sz) (m : Nat) : (reps m l).length = m * sz := by simp [reps, hl]
/-- so many zero elements are appended to an owned row -/
theorem RunV.appendZ {P : Program} {tb : Tb} (hok : TbOk P tb) {w : World} {t ti ty e sz by_ : Nat} {z : Value} {x : Int} {base : Option Addr} {n cap : Nat} {cs : List Value} {K : Value → World → Prop} (N m : Nat) {tin : TI} {kd : IntKind}
    (hown : Own w N e sz base n cap cs) (he : elemOf tb t = some (e, sz, by_, some z)) (hti : tb.find ti = some tin) (hin : tin.desc = .int kd)
    (hx : x = (m : Int)) (hb : by_ * (n + m) ≤ 140737488355328) (h63 : n + m ≤ 9223372036854775807) (hsz : (cellsOf z).length = sz) (h0 : 0 < sz) (hz1 : (cellsOf z).all one = true) (hN : N ≤ w.heap.size)
    (h : ∀ w' base' cap', Own w' N e sz base' (n + m) cap' (cs ++ reps m (cellsOf z)) → w.grownBy w' (blkOf base) → (blkOf base' = blkOf base ∨ blkOf base' = some w.heap.size) → K (.slice base' (n + m) cap') w') :
    RunV P (Builtin.append_ #[t, ti] ty #[.slice base n cap, .int .i64 x]) w K := by
  obtain ⟨hu, i, hi, e1, e2, e3⟩ := elemOf_spec hok he
  have hui := (Tb.find_ty hok hti).und
  rw [hin] at hui
  subst hx
  have hzs : z.cells.size = sz := by rw [← hsz, ← cellsOf_eq]; simp
  have wl : IntKind.i64.wrap (m : Int) = m := by rw [IntKind.wrap_i64]; omega
  have n1 : ¬ ((m : Int) < 0) := by omega
  have hbi : (i.bytes : Int) * (m : Int) ≤ 140737488355328 := by
    rw [e2]
    have h1 : by_ * m ≤ by_ * (n + m) := Nat.mul_le_mul_left _ (by omega)
    have : ((by_ * m : Nat) : Int) ≤ 140737488355328 := by omega
    rwa [Int.natCast_mul] at this
  have n2 : ¬ (281474976710656 < (m : Int) * (i.bytes : Int)) := by rw [Int.mul_comm]; omega
  have n3 : ¬ (9223372036854775807 < (n : Int) + (m : Int)) := by omega
  have hnb : (n + m) * i.bytes ≤ 140737488355328 := by rw [e2, Nat.mul_comm]; exact hb
  have happ : (if m * i.size = 0 then (pure #[] : Sem (Array Value)) else (do pure (Builtin.zeroCells (← zeroValue e).cells m))).run P w = .ok (Builtin.zeroCells z.cells m) w := by
    by_cases hz : m * i.size = 0
    · have : m = 0 := by rw [e1] at hz; rcases Nat.mul_eq_zero.1 hz with h | h; exact h; omega
      subst this
      simp [Builtin.zeroCells]
    · simp [hz, zeroValue, typeInfo, hi, e3]
  have happD : (if m * i.size = 0 then (pure #[] : Sem (Array Value)) else (do pure (Builtin.zeroCells (← zeroValue e).cells m))).run P w.drew = .ok (Builtin.zeroCells z.cells m) w.drew := by
    by_cases hz : m * i.size = 0
    · have : m = 0 := by rw [e1] at hz; rcases Nat.mul_eq_zero.1 hz with h | h; exact h; omega
      subst this
      simp [Builtin.zeroCells]
    · simp [hz, zeroValue, typeInfo, hi, e3]
  have hlen := hown.len
  rcases Nat.lt_or_ge cap (n + m) with hc | hc
  · -- it grows
    let cap' := grownCap w (n + m) cap e
    have hge := grownCap_ge w (n + m) cap e
    have hmx : cap' ≤ maxLen := grownCap_le_maxLen w (n + m) cap e (by simp only [maxLen]; omega)
    have n4 : ¬ (281474976710656 < Builtin.nextslicecap (n + m) cap * i.bytes) := by
      have := growslice_fits (need := n + m) (old := cap) (bytes := i.bytes) hc hnb
      omega
    have hold : (Builtin.firstCells i.size n (.slice base n cap)).run P w.drew = .ok cs.toArray w.drew := by
      rcases hown.2 with ⟨hv, hn0⟩ | ⟨g, c2, cur, hv, hNg, hg, hnc, hcm, hcs, htake⟩
      · rw [hv]; subst hn0
        have : cs = [] := List.eq_nil_of_length_eq_zero (by simpa using hlen)
        subst this
        simp [Builtin.firstCells, loadCells, loadCellsFrom]
      · injection hv with h1 h2 h3
        subst h1
        exact run_firstCells_some (P := P) w.drew i.size n _ n cap cs (by rw [e1]; exact hlen) (fun j u hj => by
          have hr := hown.row
          obtain ⟨b', o', hb', hcell⟩ := hr.at_ (by intro e; subst e; simp at hj)
          obtain ⟨rfl, rfl⟩ : g = b' ∧ 0 = o' := by simpa using hb'
          have := hcell j u hj
          rw [Nat.zero_add] at this
          simpa [Addr.add_lit] using this)
    have hr : (Builtin.append_ #[t, ti] ty #[.slice base n cap, .int .i64 (m : Int)]).run P w = .ok (.slice (some ⟨w.heap.size, 0, none⟩) (n + m) cap')
        (w.drew.alloc (.cells (cs.toArray ++ Builtin.zeroCells z.cells m ++ Builtin.zeroCells z.cells (cap' - (n + m))) e)) := by
      have hnc : ¬ (n + m ≤ cap) := by omega
      by_cases hz : m * i.size = 0
      · have : m = 0 := by rw [e1] at hz; rcases Nat.mul_eq_zero.1 hz with h | h; exact h; omega
        have := hown.le; omega
      · simp [Builtin.append_, run_underlying hu, run_underlying hui, sizeOf, typeInfo, zeroValue, hi, e3, hnc, wl, n1, n2, n3, n4, hz, Question.forced, asInt, asIntOf, newRow, grownCap, cap', hold]
    refine ⟨_, _, hr, h _ _ cap' ⟨?_, .inr ⟨w.heap.size, cap', _, rfl, hN, heap_alloc_new w.drew _, hge, hmx, ?_, ?_⟩⟩ ?_ (.inr rfl)⟩
    · rw [List.length_append, reps_len hsz, hlen, Nat.add_mul]
    · simp only [Array.size_append, List.size_toArray, size_zeroCells, hzs, hlen, ← Nat.add_mul]
      congr 1
      have : n + m ≤ cap' := hge
      omega
    · simp only [Array.toList_append, zeroCells_reps hsz h0, List.append_assoc]
      rw [← List.append_assoc, List.take_append_of_le_length (by rw [List.length_append, reps_len hsz, hlen, Nat.add_mul]; exact Nat.le_refl _), List.take_of_length_le (by rw [List.length_append, reps_len hsz, hlen, Nat.add_mul]; exact Nat.le_refl _)]
    · exact ⟨rfl, rfl, rfl, by simp, fun k hk _ => (World.grownBy_alloc w.drew _ none).block k (by simpa using hk) (by simp)⟩
  · -- it fits
    rcases hown.2 with ⟨hv, hn0⟩ | ⟨g, c2, cur, hv, hNg, hg, hnc, hcm, hcs, htake⟩
    · injection hv with h1 h2 h3
      have : m = 0 := by omega
      subst this hn0 h1 h3
      have hcs0 : cs = [] := List.eq_nil_of_length_eq_zero (by simpa using hlen)
      have hr : (Builtin.append_ #[t, ti] ty #[.slice none 0 0, .int .i64 ((0 : Nat) : Int)]).run P w = .ok (.slice none 0 0) w := by
        have wl0 : IntKind.i64.wrap 0 = 0 := rfl
        simp [Builtin.append_, run_underlying hu, run_underlying hui, sizeOf, typeInfo, hi, wl0, asInt, asIntOf]
      refine ⟨_, _, hr, h w none 0 ?_ ⟨rfl, rfl, rfl, Nat.le_refl _, fun _ _ _ => rfl⟩ (.inl rfl)⟩
      simpa [reps, hcs0] using hown
    · injection hv with h1 h2 h3
      subst h1; subst h3
      have hle : n * sz + m * sz ≤ cap * sz := by rw [← Nat.add_mul]; exact Nat.mul_le_mul_right _ hc
      have hcl : cur.toList.length = cap * sz := by simpa using hcs
      have hblk : Blk w g cur.toList e := by unfold Blk; simpa using hg
      obtain ⟨w', hst, hb', hup⟩ := run_storeCells (P := P) (b := g) (T := e) (reps m (cellsOf z)) (n * sz) 0 w cur.toList hblk (by rw [reps_len hsz, hcl]; omega) (by
        intro v hv
        simp only [reps, List.mem_flatten, List.mem_replicate] at hv
        obtain ⟨l, ⟨_, rfl⟩, hv⟩ := hv
        exact all_one hz1 v hv)
      have hr : (Builtin.append_ #[t, ti] ty #[.slice (some ⟨g, 0, none⟩) n cap, .int .i64 (m : Int)]).run P w = .ok (.slice (some ⟨g, 0, none⟩) (n + m) cap) w' := by
        by_cases hz : m * i.size = 0
        · have hm0 : m = 0 := by rw [e1] at hz; rcases Nat.mul_eq_zero.1 hz with h | h; exact h; omega
          subst hm0
          simp [reps, storeCells] at hst
          subst hst
          have wl0 : IntKind.i64.wrap 0 = 0 := rfl
          simp [Builtin.append_, run_underlying hu, run_underlying hui, sizeOf, typeInfo, hi, wl0, asInt, asIntOf, hnc, storeCells]
        · have hst' : (storeCells ((⟨g, 0, none⟩ : Addr).add (n * i.size)) (Builtin.zeroCells z.cells m).toList).run P w = .ok () w' := by
            rw [zeroCells_reps hsz h0, addr_add, Nat.zero_add, e1]; exact hst
          simp [Builtin.append_, run_underlying hu, run_underlying hui, sizeOf, typeInfo, zeroValue, hi, e3, hc, wl, n1, n2, hz, asInt, asIntOf, hst']
      refine ⟨_, _, hr, h w' _ cap ⟨?_, .inr ⟨g, cap, _, rfl, hNg, hb', hc, hcm, ?_, ?_⟩⟩ ?_ (.inl rfl)⟩
      · rw [List.length_append, reps_len hsz, hlen, Nat.add_mul]
      · simp only [List.size_toArray, List.length_append, List.length_take, List.length_drop, reps_len hsz, hcl]; omega
      · simp only [Nat.add_zero]
        rw [htake, Nat.add_mul]
        rw [List.take_append_of_le_length (by rw [List.length_append, reps_len hsz, hlen]; exact Nat.le_refl _), List.take_of_length_le (by rw [List.length_append, reps_len hsz, hlen]; exact Nat.le_refl _)]
      · exact hup.grown
end Go.V
namespace Go.V
open Go
/-- a place of an array that is known -/
theorem IdxA.lit {b o m n sz : Nat} {K : Addr → Prop} (h : m < n) (k : K ⟨b, o + m * sz, none⟩) : IdxA (some ⟨b, o, none⟩) (@OfNat.ofNat Int m instOfNat) n sz K :=
  ⟨⟨b, o, none⟩, rfl, Int.natCast_nonneg m, show ((m : Nat) : Int) < n from Int.ofNat_lt.2 h, by
    have : (@OfNat.ofNat Int m instOfNat).toNat = m := rfl
    rw [this, addr_add]; exact k⟩
end Go.V
namespace Go.V
open Go
/-- a slice of a whole array -/
theorem RunV.sliceArr {P : Program} {tb : Tb} (hok : TbOk P tb) {w : World} {t e n : Nat} {ti te : TI} (ht : tb.find t = some ti) (hd : ti.desc = .array n e) (hte : tb.find e = some te) {b o : Nat} {K : Value → World → Prop}
    (hk : K (.slice (some ⟨b, o, none⟩) n n) w) : RunV P (Instr.sliceAt t (.pointer (some ⟨b, o, none⟩)) none none none) w K := by
  have hu := (Tb.find_ty hok ht).und
  rw [hd] at hu
  obtain ⟨i, hi, e1, _⟩ := (Tb.find_ty hok hte).info
  have hel : P.elem t = e := by simp [Program.elem, hu]
  have hal : P.arrayLen t = n := by simp [Program.arrayLen, hu]
  refine ⟨_, w, ?_, hk⟩
  have hsz : (sizeOf (P.elem t)).run P w = .ok te.size w := by rw [hel]; simp [sizeOf, typeInfo, hi, e1]
  rw [run_sliceAt_array_all (P := P) w t ⟨b, o, none⟩ (by rw [hel, hal]; exact hu), hsz]
  simp [slicedAt, hal, Addr.add]
end Go.V
namespace Go.V
open Go
theorem Row.grown {w w' : World} {base : Option Addr} {cs : List Value} {row : Option Nat} (h : Row w base cs) (g : w.grownBy w' row) (hne : ∀ a, base = some a → some a.block ≠ row) : Row w' base cs :=
  ⟨fun hn => by
    obtain ⟨c, o, hb, hc⟩ := h.at_ hn
    refine ⟨c, o, hb, fun j v hj => ?_⟩
    have hcj := hc j v hj
    rw [World.cell?_of_block (a := ⟨c, o + j, none⟩) (g.block c (World.block_lt_of_cell? _ _ hcj) (hne _ hb))]
    exact hcj⟩
theorem slInts.grown {w w' : World} {s : Sl} {row : Option Nat} (h : slInts w s) (g : w.grownBy w' row) (hne : ∀ a, s.base = some a → some a.block ≠ row) : slInts w' s := ⟨h.1.grown g hne, h.2⟩
end Go.V
namespace Go.V
open Go
theorem HoldV.ofRun {P : Program} {S : World → Prop} {s : Sem Value} {v : Value} {K : Value → Prop} (h : ∀ w, RunV P s w fun v' w' => v' = v ∧ w' = w) (hk : K v) : HoldV P S s K := ⟨v, fun w _ => runV_det (h w), hk⟩
theorem HoldV.slice {P : Program} {tb : Tb} (hok : TbOk P tb) {S : World → Prop} {t e sz by_ : Nat} {z : Option Value} (he : elemOf tb t = some (e, sz, by_, z)) {base : Option Addr} {n cap : Nat} {lo hi mx : Option Value} {K : Value → Prop} (l hh m : Nat)
    (h1 : lo = some (.int .i64 (l : Int)) ∨ (lo = none ∧ l = 0)) (h2 : hi = some (.int .i64 (hh : Int)) ∨ (hi = none ∧ hh = n)) (h3 : mx = some (.int .i64 (m : Int)) ∨ (mx = none ∧ m = cap)) (h4 : hi = none → mx = none)
    (hlh : l ≤ hh) (hm : hh ≤ m) (hc : m ≤ cap) (hk : K (.slice (baseAt base l m sz) (hh - l) (m - l))) : HoldV P S (Instr.sliceAt t (.slice base n cap) lo hi mx) K :=
  HoldV.ofRun (fun _ => RunV.slice hok he l hh m h1 h2 h3 h4 hlh hm hc ⟨rfl, rfl⟩) hk
theorem HoldV.min {P : Program} {S : World → Prop} {ts : Array TypeId} {t : TypeId} {x y : Int} {K : Value → Prop} (hk : K (.int .i64 (if y < x then y else x))) : HoldV P S (Builtin.min_ ts t #[.int .i64 x, .int .i64 y]) K := HoldV.ofRun (fun _ => RunV.min ⟨rfl, rfl⟩) hk
theorem HoldV.max {P : Program} {S : World → Prop} {ts : Array TypeId} {t : TypeId} {x y : Int} {K : Value → Prop} (hk : K (.int .i64 (if y > x then y else x))) : HoldV P S (Builtin.max_ ts t #[.int .i64 x, .int .i64 y]) K := HoldV.ofRun (fun _ => RunV.max ⟨rfl, rfl⟩) hk
theorem RunV.arrayAt {P : Program} {tb : Tb} (hok : TbOk P tb) {w : World} {t e n : Nat} {ti : TI} (ht : tb.find t = some ti) (hd : ti.desc = .array n e) {a : Option Addr} {len cap : Nat} {K : Value → World → Prop} (hn : n ≤ len) (hk : K (.pointer a) w) : RunV P (Instr.arrayAt t (.slice a len cap)) w K := by
  have hu := (Tb.find_ty hok ht).und
  rw [hd] at hu
  exact ⟨_, _, run_arrayAt (P := P) w t e n a len cap hu hn, hk⟩
theorem HoldV.arrayAt {P : Program} {tb : Tb} (hok : TbOk P tb) {S : World → Prop} {t e n : Nat} {ti : TI} (ht : tb.find t = some ti) (hd : ti.desc = .array n e) {a : Option Addr} {len cap : Nat} {K : Value → Prop} (hn : n ≤ len) (hk : K (.pointer a)) : HoldV P S (Instr.arrayAt t (.slice a len cap)) K :=
  HoldV.ofRun (fun _ => RunV.arrayAt hok ht hd hn ⟨rfl, rfl⟩) hk
end Go.V
namespace Go.V
open Go
theorem Hold1.butR {w : World} {row : Option Nat} {c j : Nat} {cs : List Value} {T : TypeId} {K : Value → Prop} {v : Value} (h : Blk w c cs T) (hj : cs[j]? = some v) (hne : some c ≠ row) (hk : K v) : Hold1 (fun u => w.grownBy u row) ⟨c, j, none⟩ K :=
  ⟨v, fun u hu => by
    rw [World.cell?_of_block (a := ⟨c, j, none⟩) (hu.block c h.lt hne)]
    exact h.cell' hj, hk⟩
theorem Hold1.butRc {w : World} {row : Option Nat} {a : Addr} {K : Value → Prop} {v : Value} (h : w.cell? a = some v) (hne : some a.block ≠ row) (hk : K v) : Hold1 (fun u => w.grownBy u row) a K :=
  ⟨v, fun u hu => by
    rw [World.cell?_of_block (hu.block a.block (World.block_lt_of_cell? _ _ h) hne)]
    exact h, hk⟩
theorem HoldN.butR {P : Program} {w : World} {row : Option Nat} {b o n : Nat} {vs : List Value} {K : List Value → Prop} (hl : vs.length = n) (h : ∀ j x, vs[j]? = some x → w.cell? ⟨b, o + j, none⟩ = some x) (hne : some b ≠ row) (hk : K vs) : HoldN P (fun u => w.grownBy u row) ⟨b, o, none⟩ n K :=
  HoldN.any hl (fun u hu j x hj => by
    have hc := h j x hj
    rw [World.cell?_of_block (a := ⟨b, o + j, none⟩) (hu.block b (World.block_lt_of_cell? _ _ hc) hne)]
    exact hc) hk
end Go.V
namespace Go.V
theorem St.own {N M T sz : Nat} {u u' : Go.World} {base : Option Go.Addr} {n cap : Nat} {cs : List Go.Value} (s : St N u u') (h : Own u M T sz base n cap cs) : Own u' M T sz base n cap cs := s.owns h
end Go.V
namespace Go.V
open Go
theorem Own.cms {w : World} {N T sz : Nat} {base : Option Addr} {n cap : Nat} {cs : List Value} (h : Own w N T sz base n cap cs) : ∀ k, blkOf base = some k → ∃ o, w.heap[k]? = some o ∧ isCM o = true := by
  intro k hk
  rcases h.2 with ⟨hv, _⟩ | ⟨g, cap', cur, hv, hN, hh, _⟩
  · injection hv with h1; rw [h1] at hk; simp [blkOf] at hk
  · injection hv with h1; rw [h1] at hk; simp [blkOf] at hk; subst hk; exact ⟨_, hh, rfl⟩
theorem Blk.grown {w w' : World} {b T : Nat} {cs : List Value} {row : Option Nat} (h : Blk w b cs T) (g : w.grownBy w' row) (hne : some b ≠ row) : Blk w' b cs T := by
  have hlt := h.lt
  unfold Blk at *
  rw [g.block b hlt hne]; exact h
end Go.V
namespace Go.V
open Go
/-- the tail of an owned row is cleared -/
theorem RunV.clearTail {P : Program} {tb : Tb} (hok : TbOk P tb) {w : World} {t ty e sz by_ N : Nat} {z : Value} {base : Option Addr} {n cap m c : Nat} {cs : List Value} {K : Value → World → Prop} (l : Nat) (he : elemOf tb t = some (e, sz, by_, some z)) (hown : Own w N e sz base n cap cs) (hl : l ≤ n) (hm : n ≤ m)
    (hsz : (cellsOf z).length = sz) (h0 : 0 < sz) (hz1 : (cellsOf z).all one = true)
    (h : ∀ w', Own w' N e sz base n cap (cs.take (l * sz) ++ reps (n - l) (cellsOf z)) → w.grownBy w' (blkOf base) → K (.tuple #[]) w') :
    RunV P (Builtin.clear_ #[t] ty #[.slice (baseAt base l m sz) (n - l) c]) w K := by
  obtain ⟨hu, i, hi, e1, e2, e3⟩ := elemOf_spec hok he
  by_cases hn : n - l = 0
  · have hr : ∀ a : Option Addr, (Builtin.clear_ #[t] ty #[.slice a (n - l) c]).run P w = .ok (.tuple #[]) w := by
      intro a
      rw [hn]
      cases a <;> simp [Builtin.clear_, run_underlying hu]
    refine ⟨_, _, hr _, h w ?_ ⟨rfl, rfl, rfl, Nat.le_refl _, fun _ _ _ => rfl⟩⟩
    have : cs.take (l * sz) ++ reps (n - l) (cellsOf z) = cs := by
      rw [hn, List.take_of_length_le (by rw [hown.len]; exact Nat.mul_le_mul_right _ (by omega))]; simp [reps]
    rw [this]; exact hown
  · rcases hown.2 with ⟨hv, hn0⟩ | ⟨g, c2, cur, hv, hNg, hg, hnc, hcm, hcs, htake⟩
    · omega
    · injection hv with h1 h2 h3
      subst h1; subst h3
      have hlen := hown.len
      have hb : baseAt (some ⟨g, 0, none⟩) l m sz = some ⟨g, l * sz, none⟩ := by
        unfold baseAt; rw [if_neg (by omega)]; simp [addr_add]
      rw [hb]
      have hcl : cur.toList.length = cap * sz := by simpa using hcs
      have hle : n * sz ≤ cap * sz := Nat.mul_le_mul_right _ hnc
      have hls : l * sz + (n - l) * sz = n * sz := by rw [← Nat.add_mul]; congr 1; omega
      have hblk : Blk w g cur.toList e := by unfold Blk; simpa using hg
      obtain ⟨w', hst, hb', hup⟩ := run_storeCells (P := P) (b := g) (T := e) (reps (n - l) (cellsOf z)) (l * sz) 0 w cur.toList hblk (by rw [reps_len hsz, hcl]; omega) (by
        intro v hv
        simp only [reps, List.mem_flatten, List.mem_replicate] at hv
        obtain ⟨q, ⟨_, rfl⟩, hv⟩ := hv
        exact all_one hz1 v hv)
      have hr : (Builtin.clear_ #[t] ty #[.slice (some ⟨g, l * sz, none⟩) (n - l) c]).run P w = .ok (.tuple #[]) w' := by
        obtain ⟨q, hq⟩ : ∃ q, n - l = q + 1 := ⟨n - l - 1, by omega⟩
        have hst' : (storeCells ⟨g, l * sz, none⟩ (Builtin.zeroCells z.cells (n - l)).toList).run P w = .ok () w' := by
          rw [zeroCells_reps hsz h0]; exact hst
        rw [hq] at hst' ⊢
        simp [Builtin.clear_, run_underlying hu, zeroValue, typeInfo, hi, e3, hst']
      refine ⟨_, _, hr, h w' ⟨?_, .inr ⟨g, cap, _, rfl, hNg, hb', hnc, hcm, ?_, ?_⟩⟩ hup.grown⟩
      · rw [List.length_append, List.length_take, reps_len hsz, hlen]; omega
      · simp only [List.size_toArray, List.length_append, List.length_take, List.length_drop, reps_len hsz, hcl]; omega
      · simp only [Nat.add_zero]
        have hck : cur.toList.take (l * sz) = cs.take (l * sz) := by rw [← htake, List.take_take, Nat.min_eq_left (by omega)]
        rw [hck, List.take_append_of_le_length (by rw [List.length_append, List.length_take, reps_len hsz, hlen]; omega), List.take_of_length_le (by rw [List.length_append, List.length_take, reps_len hsz, hlen]; omega)]
end Go.V
namespace Go.V
open Go
/-- a contract of the kit's, as one of mine -/
theorem CallA.of {P : Program} {f : FuncId} {fn : Func} {c : Code} {args : List Value} {w : World} {K : Value → World → Prop} (hf : P.funcs[f]? = some fn) (hb : fn.body = some c) (hname : fn.name ≠ "runtime.NumGoroutine")
    (h : Calls P f args.toArray w fun e w' => ∃ v, e = .returned v ∧ K v w') : CallA P f args w K :=
  ⟨fun w => by simp [callFunc, program, Sem.run, hf, hb, hname], h⟩
end Go.V
