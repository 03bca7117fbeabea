/-
  L54: a part of the proof. By an AI agent.
-/
import Derived.Test.YtpeihahmhpamoaaGreatL50
set_option linter.all false
namespace Go.Proofs
/-! ### words as a field: 65521 is a prime number -/
/-- equal but for a multiple of the prime number -/
def E (a b : Int) : Prop := (65521 : Int) ∣ a - b
theorem E.refl (a : Int) : E a a := by unfold E; omega
theorem E.of_eq {a b : Int} (h : a = b) : E a b := h ▸ E.refl a
theorem E.symm {a b : Int} (h : E a b) : E b a := by unfold E at *; omega
theorem E.trans {a b c : Int} (h : E a b) (k : E b c) : E a c := by unfold E at *; omega
theorem E.add {a b c d : Int} (h : E a b) (k : E c d) : E (a + c) (b + d) := by unfold E at *; omega
theorem E.sub {a b c d : Int} (h : E a b) (k : E c d) : E (a - c) (b - d) := by unfold E at *; omega
theorem E.neg {a b : Int} (h : E a b) : E (-a) (-b) := by unfold E at *; omega
theorem E.mul {a b c d : Int} (h : E a b) (k : E c d) : E (a * c) (b * d) := by
  obtain ⟨x, hx⟩ := h
  obtain ⟨y, hy⟩ := k
  exact ⟨x * c + b * y, by grind⟩
theorem E.mod (a : Int) : E (a % 65521) a := by unfold E; omega
theorem E.pow {a b : Int} (h : E a b) : ∀ n : Nat, E (a ^ n) (b ^ n)
  | 0 => by rw [Int.pow_zero, Int.pow_zero]; exact E.refl _
  | n + 1 => by rw [Int.pow_succ, Int.pow_succ]; exact (E.pow h n).mul h
theorem E.word {a b : Int} (h : E a b) (ha : 0 ≤ a ∧ a ≤ 65520) (hb : 0 ≤ b ∧ b ≤ 65520) : a = b := by unfold E at h; omega
theorem E.modEq {a b : Int} (h : E a b) (hb : 0 ≤ b ∧ b ≤ 65520) : a % 65521 = b := ((E.mod a).trans h).word (by omega) hb
theorem powG_E : ∀ (f : Nat) (out base n : Int), n.toNat ≤ f → E (powG f out base n) (out * base ^ n.toNat)
  | 0, out, base, n, h => by
    have : n.toNat = 0 := by omega
    rw [this]; simp only [powG, Int.pow_zero, Int.mul_one]; exact E.refl _
  | f + 1, out, base, n, h => by
    rw [powG]
    by_cases hn : n ≤ 0
    · rw [if_pos hn]
      have : n.toNat = 0 := by omega
      rw [this, Int.pow_zero, Int.mul_one]; exact E.refl _
    · rw [if_neg hn]
      refine (powG_E f _ _ _ (by omega)).trans ?_
      have h1 : E ((base * base % 65521) ^ (n / 2).toNat) ((base * base) ^ (n / 2).toNat) := (E.mod _).pow _
      by_cases ho : n % 2 = 1
      · rw [if_pos ho]
        have h2 : n.toNat = (n / 2).toNat + (n / 2).toNat + 1 := by omega
        rw [h2]
        refine ((E.mod _).mul h1).trans (E.of_eq ?_)
        rw [Int.mul_pow, Int.pow_succ, Int.pow_add]; grind
      · rw [if_neg ho]
        have h2 : n.toNat = (n / 2).toNat + (n / 2).toNat := by omega
        rw [h2]
        refine ((E.refl _).mul h1).trans (E.of_eq ?_)
        rw [Int.mul_pow, Int.pow_add]
theorem powM_E (x : Int) (n : Nat) : E (powM x (n : Int)) (x ^ n) := by
  have := powG_E n 1 x (n : Int) (by omega)
  unfold powM
  rw [Int.toNat_natCast] at *
  rw [Int.one_mul] at this; exact this
theorem noDiv : ∀ d : Fin 257, 1 < d.val → 65521 % d.val ≠ 0 := by decide +kernel
theorem smallPow : ∀ d : Fin 257, 0 < d.val → powM (d.val : Int) 65520 = 1 := by decide +kernel
theorem fermat (a : Nat) (h0 : 0 < a) (h1 : a < 65521) : E ((a : Int) ^ 65520) 1 := by
  induction a using Nat.strongRecOn with
  | ind a ih =>
    by_cases hs : a ≤ 256
    · have h2 := smallPow ⟨a, by omega⟩ h0
      have h3 := powM_E (a : Int) 65520
      have h4 : powM (a : Int) ((65520 : Nat) : Int) = 1 := h2
      rw [h4] at h3; exact h3.symm
    · obtain ⟨q, hq⟩ : ∃ q, q = 65521 / a := ⟨_, rfl⟩
      obtain ⟨r, hr⟩ : ∃ r, r = 65521 % a := ⟨_, rfl⟩
      have hd := Nat.div_add_mod 65521 a
      rw [← hq, ← hr] at hd
      have hra : r < a := by rw [hr]; exact Nat.mod_lt _ (by omega)
      have hq255 : q ≤ 255 := by rw [hq]; exact Nat.lt_succ_iff.1 ((Nat.div_lt_iff_lt_mul (by omega)).2 (by omega))
      have hq1 : 1 ≤ q := by rw [hq]; exact (Nat.le_div_iff_mul_le (by omega)).2 (by omega)
      have hr0 : r ≠ 0 := by
        intro hr0
        rw [hr0, Nat.add_zero] at hd
        have hq2 : 1 < q := by
          rcases Nat.lt_or_ge 1 q with h | h
          · exact h
          · have : q = 1 := by omega
            rw [this, Nat.mul_one] at hd; omega
        have := noDiv ⟨q, by omega⟩ hq2
        exact this (by simp only []; rw [← hd]; exact Nat.mul_mod_left _ _)
      have hqp := ih q (by omega) hq1 (by omega)
      have hrp := ih r hra (by omega) (by omega)
      have h2 : E ((a : Int) * q) (-(r : Int)) := by
        refine ⟨1, ?_⟩
        have : ((a * q + r : Nat) : Int) = 65521 := by rw [hd]; rfl
        rw [Int.natCast_add, Int.natCast_mul] at this
        omega
      have h3 := h2.pow 65520
      rw [Int.mul_pow] at h3
      have h4 : (-(r : Int)) ^ 65520 = (r : Int) ^ 65520 := by
        have e : ∀ x : Int, x ^ 65520 = (x ^ 2) ^ 32760 := fun x => by rw [← Int.pow_mul]
        rw [e, e (r : Int)]
        congr 1
        grind
      rw [h4] at h3
      have h5 : E ((a : Int) ^ 65520 * (q : Int) ^ 65520) ((a : Int) ^ 65520 * 1) := (E.refl _).mul hqp
      rw [Int.mul_one] at h5
      exact h5.symm.trans (h3.trans hrp)
/-- the inverse of a number -/
theorem inv_E {a : Int} (h0 : ¬ E a 0) : E (a * powM a 65519) 1 := by
  have hw : 0 < a % 65521 ∧ a % 65521 < 65521 := by unfold E at h0; omega
  obtain ⟨n, hn⟩ : ∃ n : Nat, (n : Int) = a % 65521 := ⟨(a % 65521).toNat, by omega⟩
  have hf := fermat n (by omega) (by omega)
  rw [hn] at hf
  have h1 : E (a ^ 65520) 1 := ((E.mod a).symm.pow _).trans hf
  have h2 := powM_E a 65519
  have h3 : E (a * powM a ((65519 : Nat) : Int)) (a * a ^ 65519) := (E.refl a).mul h2
  refine h3.trans (E.trans (E.of_eq ?_) h1)
  rw [Int.mul_comm]; exact (Int.pow_succ a 65519).symm
theorem E.cancel {a b : Int} (h : E (a * b) 0) (ha : ¬ E a 0) : E b 0 := by
  have h1 := inv_E ha
  have h2 : E (powM a 65519 * (a * b)) 0 := by have := (E.refl (powM a 65519)).mul h; rwa [Int.mul_zero] at this
  have h3 : E (a * powM a 65519 * b) (1 * b) := h1.mul (E.refl b)
  rw [Int.one_mul] at h3
  exact h3.symm.trans ((E.of_eq (by grind)).trans h2)
end Go.Proofs
namespace Go.Proofs
/-! ### sums -/
def S : Nat → (Nat → Int) → Int
  | 0, _ => 0
  | n + 1, f => S n f + f n
theorem S_congr {f g : Nat → Int} : ∀ {n : Nat}, (∀ j, j < n → f j = g j) → S n f = S n g
  | 0, _ => rfl
  | n + 1, h => by rw [S, S, S_congr fun j hj => h j (by omega), h n (by omega)]
theorem S_E {f g : Nat → Int} : ∀ {n : Nat}, (∀ j, j < n → E (f j) (g j)) → E (S n f) (S n g)
  | 0, _ => E.refl _
  | n + 1, h => by rw [S, S]; exact (S_E fun j hj => h j (by omega)).add (h n (by omega))
theorem S_zero {f : Nat → Int} {n : Nat} (h : ∀ j, j < n → E (f j) 0) : E (S n f) 0 := by
  have : ∀ n, S n (fun _ => 0) = 0 := by intro n; induction n with
    | zero => rfl
    | succ n ih => rw [S, ih]; rfl
  have h2 := S_E (g := fun _ => 0) h
  rw [this] at h2; exact h2
theorem S_one {f : Nat → Int} : ∀ {n : Nat} {k : Nat}, k < n → (∀ j, j < n → j ≠ k → E (f j) 0) → E (S n f) (f k)
  | 0, _, hk, _ => absurd hk (Nat.not_lt_zero _)
  | n + 1, k, hk, h => by
    rw [S]
    by_cases hn : k = n
    · subst hn
      have := (S_zero (n := k) (f := f) fun j hj => h j (by omega) (by omega)).add (E.refl (f k))
      rw [Int.zero_add] at this; exact this
    · have := (S_one (n := n) (by omega) fun j hj hne => h j (by omega) hne).add (h n (by omega) (Ne.symm hn))
      rw [Int.add_zero] at this; exact this
theorem S_mul (c : Int) (f : Nat → Int) : ∀ n, S n (fun j => c * f j) = c * S n f
  | 0 => by rw [S, S, Int.mul_zero]
  | n + 1 => by rw [S, S, S_mul c f n, Int.mul_add]
theorem S_add (f g : Nat → Int) : ∀ n, S n (fun j => f j + g j) = S n f + S n g
  | 0 => rfl
  | n + 1 => by rw [S, S, S, S_add f g n]; omega
theorem S_sub (f g : Nat → Int) : ∀ n, S n (fun j => f j - g j) = S n f - S n g
  | 0 => rfl
  | n + 1 => by rw [S, S, S, S_sub f g n]; omega
/-! ### linear equations -/
def Mx (rows : List (List Int)) (i j : Nat) : Int := (rows.getD i []).getD j 0
def Lx (many : Nat) (rows : List (List Int)) (i : Nat) (y : Nat → Int) : Int := S many (fun j => Mx rows i j * y j) - Mx rows i many
def Sol (many : Nat) (rows : List (List Int)) (y : Nat → Int) : Prop := ∀ i, i < rows.length → E (Lx many rows i y) 0
theorem getDW {r : List Int} (h : isW r) (j : Nat) : 0 ≤ r.getD j 0 ∧ r.getD j 0 ≤ 65520 := by
  rw [List.getD_eq_getElem?_getD]
  cases hj : r[j]? with
  | none => simp
  | some x => exact h x (List.mem_of_getElem? hj)
theorem Mx_word {n : Nat} {rows : List (List Int)} (h : RowsW n rows) (i j : Nat) : 0 ≤ Mx rows i j ∧ Mx rows i j ≤ 65520 := by
  unfold Mx
  by_cases hi : i < rows.length
  · rw [show rows.getD i [] = rows[i] from getD_get hi _]; exact getDW (h _ (List.getElem_mem hi)).2 j
  · have : rows.getD i [] = [] := by rw [List.getD_eq_getElem?_getD, List.getElem?_eq_none (by omega)]; rfl
    rw [this]; simp
theorem scale_get (b : Int) (r : List Int) (j : Nat) : (scaleM b r).getD j 0 = r.getD j 0 * b % 65521 := by
  unfold scaleM
  rw [List.getD_eq_getElem?_getD, List.getD_eq_getElem?_getD, List.getElem?_map]
  cases r[j]? <;> simp
theorem elim_get (f : Int) {r p : List Int} (h : r.length = p.length) (j : Nat) : (elimM f r p).getD j 0 = (r.getD j 0 - f * p.getD j 0) % 65521 := by
  unfold elimM
  rw [List.getD_eq_getElem?_getD, List.getD_eq_getElem?_getD, List.getD_eq_getElem?_getD, List.getElem?_zipWith]
  by_cases hj : j < r.length
  · rw [List.getElem?_eq_getElem hj, List.getElem?_eq_getElem (by omega)]; simp
  · rw [List.getElem?_eq_none (by omega), List.getElem?_eq_none (by omega)]; simp
theorem swp_lt {n used p i : Nat} (hu : used < n) (hp : p < n) (hi : i < n) : swp used p i < n := by
  unfold swp
  split
  · exact hu
  · split
    · exact hp
    · exact hi
theorem row_swap {rows : List (List Int)} {used p i : Nat} (hu : used < rows.length) (hp : p < rows.length) (hi : i < rows.length) : (swapL rows used p).getD i [] = rows.getD (swp used p i) [] := by
  have hl : (swapL rows used p).length = rows.length := swapL_length _ _ _
  have hs := swp_lt hu hp hi
  rw [getD_get (by omega), swapL_get hu hp, getD_get hs]
theorem step_row {used p c i : Nat} {rows : List (List Int)} (hu : used < rows.length) (hp : p < rows.length) (hi : i < rows.length) :
    (stepRows rows used p c).getD i [] = if i = used then scaleM (powM (Mx rows p c) 65519) (rows.getD p []) else
      if Mx rows (swp used p i) c = 0 then rows.getD (swp used p i) [] else elimM (Mx rows (swp used p i) c) (rows.getD (swp used p i) []) (scaleM (powM (Mx rows p c) 65519) (rows.getD p [])) := by
  have hl : (swapL rows used p).length = rows.length := swapL_length _ _ _
  have hsu : swp used p used = p := by
    unfold swp
    by_cases h : used = p
    · rw [if_pos h, h]
    · rw [if_neg h, if_pos rfl]
  have hsc : scaledM (swapL rows used p) used c = scaleM (powM (Mx rows p c) 65519) (rows.getD p []) := by
    unfold scaledM; rw [row_swap hu hp hu, hsu]; rfl
  unfold stepRows
  simp only []
  rw [hsc]
  have hl2 : ((swapL rows used p).set used (scaleM (powM (Mx rows p c) 65519) (rows.getD p []))).length = rows.length := by rw [List.length_set, hl]
  rw [getD_get (by rw [elimAt_length, hl2]; exact hi), elimAt_get _ _ _ _ _ (by rw [hl2]; exact hi)]
  by_cases hiu : i = used
  · subst hiu
    rw [if_pos rfl, if_neg (by rintro ⟨_, h⟩; exact h (.inl rfl)), List.getElem_set_self]
  · rw [if_neg hiu, List.getElem_set_ne (Ne.symm hiu)]
    have hg : (swapL rows used p)[i]'(by omega) = rows.getD (swp used p i) [] := by rw [← row_swap hu hp hi, getD_get (by omega)]
    rw [hg]
    by_cases hz : Mx rows (swp used p i) c = 0
    · rw [if_pos hz, if_neg (by rintro ⟨_, h⟩; exact h (.inr hz))]
    · rw [if_neg hz, if_pos ⟨hi, fun h => h.elim hiu hz⟩]; rfl
theorem step_used {used p c : Nat} {rows : List (List Int)} (hu : used < rows.length) (hp : p < rows.length) (j : Nat) :
    Mx (stepRows rows used p c) used j = Mx rows p j * powM (Mx rows p c) 65519 % 65521 := by
  unfold Mx
  rw [step_row hu hp hu, if_pos rfl, scale_get]; rfl
theorem step_other {n used p c i : Nat} {rows : List (List Int)} (hW : RowsW n rows) (hu : used < rows.length) (hp : p < rows.length) (hi : i < rows.length) (hne : i ≠ used) (j : Nat) :
    Mx (stepRows rows used p c) i j = (Mx rows (swp used p i) j - Mx rows (swp used p i) c * Mx (stepRows rows used p c) used j) % 65521 := by
  have hs := swp_lt hu hp hi
  rw [step_used hu hp]
  have h0 : Mx (stepRows rows used p c) i j = ((stepRows rows used p c).getD i []).getD j 0 := rfl
  rw [h0, step_row hu hp hi, if_neg hne]
  have hw := Mx_word hW (swp used p i) j
  by_cases hz : Mx rows (swp used p i) c = 0
  · rw [if_pos hz, hz]
    show Mx rows (swp used p i) j = _
    omega
  · rw [if_neg hz, elim_get, scale_get]
    · rfl
    · rw [show (scaleM (powM (Mx rows p c) 65519) (rows.getD p [])).length = (rows.getD p []).length from by simp [scaleM]]
      rw [getD_get hs, getD_get hp, (hW _ (List.getElem_mem hs)).1, (hW _ (List.getElem_mem hp)).1]
end Go.Proofs
namespace Go.Proofs
/-! ### a step keeps the solutions -/
theorem Lx_lin {many : Nat} {A B C : Nat → Int} {f : Int} {y : Nat → Int} (h : ∀ j, E (C j) (A j - f * B j)) :
    E (S many (fun j => C j * y j) - C many) ((S many (fun j => A j * y j) - A many) - f * (S many (fun j => B j * y j) - B many)) := by
  have h1 : E (S many fun j => C j * y j) (S many fun j => (A j * y j) - f * (B j * y j)) :=
    S_E fun j _ => ((h j).mul (E.refl (y j))).trans (E.of_eq (by grind))
  rw [S_sub, S_mul] at h1
  refine (h1.sub (h many)).trans (E.of_eq (by grind))
theorem Lx_scale {many : Nat} {A C : Nat → Int} {f : Int} {y : Nat → Int} (h : ∀ j, E (C j) (f * A j)) :
    E (S many (fun j => C j * y j) - C many) (f * (S many (fun j => A j * y j) - A many)) := by
  have h1 : E (S many fun j => C j * y j) (S many fun j => f * (A j * y j)) :=
    S_E fun j _ => ((h j).mul (E.refl (y j))).trans (E.of_eq (by grind))
  rw [S_mul] at h1
  refine (h1.sub (h many)).trans (E.of_eq (by grind))
theorem swp_swp (i j k : Nat) : swp i j (swp i j k) = k := by
  unfold swp
  by_cases h1 : k = j
  · subst h1
    by_cases h2 : i = k
    · subst h2; simp
    · simp [h2]
  · by_cases h2 : k = i
    · subst h2; simp [h1]
    · simp [h1, h2]
theorem notE_word {a : Int} (h : 0 ≤ a ∧ a ≤ 65520) (h0 : a ≠ 0) : ¬ E a 0 := by unfold E; omega
theorem Sol_step {n many used p c : Nat} {rows : List (List Int)} (hW : RowsW n rows) (hu : used < rows.length) (hp : p < rows.length) (hpc : Mx rows p c ≠ 0) (y : Nat → Int) :
    Sol many (stepRows rows used p c) y ↔ Sol many rows y := by
  have hinv := inv_E (notE_word (Mx_word hW p c) hpc)
  have hU : E (Lx many (stepRows rows used p c) used y) (powM (Mx rows p c) 65519 * Lx many rows p y) :=
    Lx_scale fun j => by rw [step_used hu hp]; exact (E.mod _).trans (E.of_eq (Int.mul_comm _ _))
  have hO : ∀ i, i < rows.length → i ≠ used → E (Lx many (stepRows rows used p c) i y) (Lx many rows (swp used p i) y - Mx rows (swp used p i) c * Lx many (stepRows rows used p c) used y) :=
    fun i hi hne => Lx_lin fun j => by rw [step_other hW hu hp hi hne]; exact E.mod _
  constructor
  · intro h
    have hnu := h used (by rw [stepRows_length]; exact hu)
    have hLp : E (Lx many rows p y) 0 := by
      have h1 : E (Mx rows p c * Lx many (stepRows rows used p c) used y) (Mx rows p c * (powM (Mx rows p c) 65519 * Lx many rows p y)) := (E.refl _).mul hU
      have h2 : E (Mx rows p c * Lx many (stepRows rows used p c) used y) 0 := by have := (E.refl (Mx rows p c)).mul hnu; rwa [Int.mul_zero] at this
      have h3 : E (Mx rows p c * powM (Mx rows p c) 65519 * Lx many rows p y) (1 * Lx many rows p y) := hinv.mul (E.refl _)
      rw [Int.one_mul] at h3
      exact h3.symm.trans ((E.of_eq (by grind)).trans (h1.symm.trans h2))
    intro k hk
    by_cases hkp : k = p
    · rw [hkp]; exact hLp
    · have hsk : swp used p (swp used p k) = k := swp_swp _ _ _
      have hi : swp used p k < rows.length := swp_lt hu hp hk
      have hne : swp used p k ≠ used := by
        intro e
        rw [e] at hsk
        unfold swp at hsk
        split at hsk
        · omega
        · rw [if_pos rfl] at hsk; exact hkp hsk.symm
      have h1 := hO _ hi hne
      rw [hsk] at h1
      have h2 := h (swp used p k) (by rw [stepRows_length]; exact hi)
      have h3 : E (Mx rows k c * Lx many (stepRows rows used p c) used y) 0 := by have := (E.refl (Mx rows k c)).mul hnu; rwa [Int.mul_zero] at this
      unfold E at *; omega
  · intro h
    have hnu : E (Lx many (stepRows rows used p c) used y) 0 := by
      refine hU.trans ?_
      have := (E.refl (powM (Mx rows p c) 65519)).mul (h p hp); rwa [Int.mul_zero] at this
    intro k hk
    rw [stepRows_length] at hk
    by_cases hku : k = used
    · rw [hku]; exact hnu
    · refine (hO k hk hku).trans ?_
      have h3 : E (Mx rows (swp used p k) c * Lx many (stepRows rows used p c) used y) 0 := by have := (E.refl (Mx rows (swp used p k) c)).mul hnu; rwa [Int.mul_zero] at this
      have h4 := h _ (swp_lt hu hp hk)
      unfold E at *; omega
/-! ### the rows behind the columns that were seen -/
structure GI (many c used : Nat) (rows : List (List Int)) (at_ : List Int) : Prop where
  le : used ≤ rows.length
  len : at_.length = many
  piv : ∀ j, j < many → at_.getD j 0 = 0 ∨ (j < c ∧ ∃ k, k < used ∧ at_.getD j 0 = (k : Int) + 1 ∧ ∀ i, i < rows.length → Mx rows i j = if i = k then 1 else 0)
  all : ∀ k, k < used → ∃ j, j < many ∧ at_.getD j 0 = (k : Int) + 1
  one : ∀ j j', j < many → j' < many → at_.getD j 0 = at_.getD j' 0 → at_.getD j 0 ≠ 0 → j = j'
  low : ∀ i, used ≤ i → i < rows.length → ∀ j, j < c → Mx rows i j = 0
theorem GI.skip {many c used : Nat} {rows : List (List Int)} {at_ : List Int} (h : GI many c used rows at_) (hz : ∀ i, used ≤ i → i < rows.length → Mx rows i c = 0) : GI many (c + 1) used rows at_ :=
  ⟨h.le, h.len, fun j hj => (h.piv j hj).imp_right fun ⟨h1, h2⟩ => ⟨by omega, h2⟩, h.all, h.one, fun i hi hi2 j hj => by
    by_cases hjc : j = c
    · rw [hjc]; exact hz i hi hi2
    · exact h.low i hi hi2 j (by omega)⟩
theorem getD_set (l : List Int) (c : Nat) (v : Int) (j : Nat) (hc : c < l.length) : (l.set c v).getD j 0 = if j = c then v else l.getD j 0 := by
  rw [List.getD_eq_getElem?_getD, List.getD_eq_getElem?_getD, List.getElem?_set]
  by_cases h : c = j
  · subst h; simp [hc]
  · rw [if_neg h, if_neg (Ne.symm h)]
theorem GI.step {n many c used p : Nat} {rows : List (List Int)} {at_ : List Int} (h : GI many c used rows at_) (hW : RowsW n rows) (hc : c < many) (hup : used ≤ p) (hp : p < rows.length) (hpc : Mx rows p c ≠ 0) :
    GI many (c + 1) (used + 1) (stepRows rows used p c) (at_.set c ((used : Int) + 1)) := by
  have hu : used < rows.length := by omega
  have hinv := inv_E (notE_word (Mx_word hW p c) hpc)
  have hl := stepRows_length rows used p c
  have hgs : ∀ j, (at_.set c ((used : Int) + 1)).getD j 0 = if j = c then (used : Int) + 1 else at_.getD j 0 := fun j => getD_set _ _ _ _ (by rw [h.len]; exact hc)
  have hac : at_.getD c 0 = 0 := by
    rcases h.piv c hc with h1 | ⟨h1, _⟩
    · exact h1
    · omega
  have hlt : ∀ j, j < many → at_.getD j 0 ≠ (used : Int) + 1 := by
    intro j hj e
    rcases h.piv j hj with h1 | ⟨_, k, h2, h3, _⟩
    · omega
    · omega
  -- the pivot's row at c, and the others there
  have hcu : Mx (stepRows rows used p c) used c = 1 := by rw [step_used hu hp]; exact hinv.modEq (by omega)
  have hco : ∀ i, i < rows.length → i ≠ used → Mx (stepRows rows used p c) i c = 0 := by
    intro i hi hne; rw [step_other hW hu hp hi hne, hcu]; simp
  -- a column that was seen, in which the rows from used on are 0
  have hold : ∀ j, (∀ i, used ≤ i → i < rows.length → Mx rows i j = 0) → Mx (stepRows rows used p c) used j = 0 ∧ ∀ i, i < rows.length → i ≠ used → Mx (stepRows rows used p c) i j = Mx rows (swp used p i) j := by
    intro j hz
    have h0 : Mx (stepRows rows used p c) used j = 0 := by rw [step_used hu hp, hz p hup hp]; simp
    refine ⟨h0, fun i hi hne => ?_⟩
    rw [step_other hW hu hp hi hne, h0]
    have := Mx_word hW (swp used p i) j
    rw [Int.mul_zero, Int.sub_zero]; omega
  have hsw : ∀ i, used ≤ i → i < rows.length → used ≤ swp used p i ∧ swp used p i < rows.length := by
    intro i h1 h2
    refine ⟨?_, swp_lt hu hp h2⟩
    unfold swp; split
    · omega
    · split <;> omega
  have hss : ∀ i, i < used → swp used p i = i := by
    intro i hi; unfold swp; rw [if_neg (by omega), if_neg (by omega)]
  refine ⟨by rw [hl]; omega, by rw [List.length_set]; exact h.len, ?_, ?_, ?_, ?_⟩
  · intro j hj
    rw [hgs]
    by_cases hjc : j = c
    · rw [if_pos hjc]
      right
      refine ⟨by omega, used, by omega, rfl, fun i hi => ?_⟩
      rw [hl] at hi
      rw [hjc]
      by_cases hiu : i = used
      · rw [if_pos hiu, hiu]; exact hcu
      · rw [if_neg hiu]; exact hco i hi hiu
    · rw [if_neg hjc]
      refine (h.piv j hj).imp_right fun ⟨h1, k, h2, h3, h4⟩ => ⟨by omega, k, by omega, h3, fun i hi => ?_⟩
      rw [hl] at hi
      obtain ⟨h5, h6⟩ := hold j fun i hi1 hi2 => by rw [h4 i hi2, if_neg (by omega)]
      by_cases hiu : i = used
      · rw [hiu, h5, if_neg (by omega)]
      · rw [h6 i hi hiu]
        by_cases hiu2 : i < used
        · rw [hss i hiu2]; exact h4 i hi
        · obtain ⟨h7, h8⟩ := hsw i (by omega) hi
          rw [h4 _ h8, if_neg (by omega), if_neg (by omega)]
  · intro k hk
    by_cases hku : k = used
    · exact ⟨c, hc, by rw [hgs, if_pos rfl, hku]⟩
    · obtain ⟨j, hj, hjk⟩ := h.all k (by omega)
      refine ⟨j, hj, ?_⟩
      rw [hgs, if_neg (by intro e; rw [e, hac] at hjk; omega)]; exact hjk
  · intro j j' hj hj' he h0
    rw [hgs] at he h0
    rw [hgs] at he
    by_cases h1 : j = c
    · rw [if_pos h1] at he
      by_cases h2 : j' = c
      · rw [h1, h2]
      · rw [if_neg h2] at he; exact absurd he.symm (hlt j' hj')
    · rw [if_neg h1] at he h0
      by_cases h2 : j' = c
      · rw [if_pos h2] at he; exact absurd he (hlt j hj)
      · rw [if_neg h2] at he; exact h.one j j' hj hj' he h0
  · intro i hi hi2 j hj
    rw [hl] at hi2
    by_cases hjc : j = c
    · rw [hjc]; exact hco i hi2 (by omega)
    · obtain ⟨h5, h6⟩ := hold j fun i hi1 hi2 => h.low i hi1 hi2 j (by omega)
      rw [h6 i hi2 (by omega)]
      obtain ⟨h7, h8⟩ := hsw i (by omega) hi2
      exact h.low _ h7 h8 j (by omega)
end Go.Proofs
namespace Go.Proofs
theorem findP_at {rows : List (List Int)} {used c p : Nat} (h : findP rows used c = some p) : used ≤ p ∧ p < rows.length ∧ Mx rows p c ≠ 0 := by
  unfold findP at h
  rw [Option.map_eq_some_iff] at h
  obtain ⟨k, hk, rfl⟩ := h
  rw [List.findIdx?_eq_some_iff_getElem] at hk
  obtain ⟨h1, h2, _⟩ := hk
  rw [List.length_drop] at h1
  refine ⟨by omega, by omega, ?_⟩
  rw [List.getElem_drop] at h2
  unfold Mx
  rw [show rows.getD (k + used) [] = rows[k + used]'(by omega) from getD_get (by omega) _]
  have e : used + k = k + used := by omega
  simp only [decide_eq_true_eq, e] at h2
  exact h2
theorem findP_not {rows : List (List Int)} {used c : Nat} (h : findP rows used c = none) : ∀ i, used ≤ i → i < rows.length → Mx rows i c = 0 := by
  intro i h1 h2
  unfold findP at h
  rw [Option.map_eq_none_iff, List.findIdx?_eq_none_iff] at h
  have h3 := h (rows[i]) (by
    rw [List.mem_drop_iff_getElem]
    exact ⟨i - used, by omega, by congr 1; omega⟩)
  unfold Mx
  rw [show rows.getD i [] = rows[i] from getD_get h2 _]
  simpa using h3
theorem solveG_spec {many : Nat} : ∀ (n c used : Nat) (rows : List (List Int)) (at_ : List Int), GI many c used rows at_ → RowsW (many + 1) rows → c + n = many →
    GI many many (solveG n c used rows at_).1 (solveG n c used rows at_).2.1 (solveG n c used rows at_).2.2 ∧ RowsW (many + 1) (solveG n c used rows at_).2.1 ∧ (solveG n c used rows at_).2.1.length = rows.length ∧ ∀ y, Sol many (solveG n c used rows at_).2.1 y ↔ Sol many rows y
  | 0, c, used, rows, at_, h, hW, hc => by
    have : c = many := by omega
    subst this
    exact ⟨h, hW, rfl, fun y => Iff.rfl⟩
  | n + 1, c, used, rows, at_, h, hW, hc => by
    rw [solveG]
    cases hf : findP rows used c with
    | none =>
      simp only []
      exact solveG_spec n (c + 1) used rows at_ (h.skip (findP_not hf)) hW (by omega)
    | some p =>
      obtain ⟨h1, h2, h3⟩ := findP_at hf
      simp only []
      obtain ⟨r1, r2, r3, r4⟩ := solveG_spec n (c + 1) (used + 1) (stepRows rows used p c) (at_.set c ((used : Int) + 1)) (h.step hW (by omega) h1 h2 h3) (stepRows_ok hW hf) (by omega)
      refine ⟨r1, r2, by rw [r3, stepRows_length], fun y => (r4 y).trans (Sol_step hW (by omega) h2 h3 y)⟩
theorem solveM_spec {many : Nat} {rows : List (List Int)} (hW : RowsW (many + 1) rows) :
    (∀ x, solveM rows many = some x → x.length = many ∧ isW x ∧ Sol many rows fun j => x.getD j 0) ∧ (solveM rows many = none → ∀ y, ¬ Sol many rows y) := by
  have hG0 : GI many 0 0 rows (List.replicate many 0) := by
    have hz : ∀ j, (List.replicate many (0 : Int)).getD j 0 = 0 := by
      intro j; rw [List.getD_eq_getElem?_getD, List.getElem?_replicate]; split <;> rfl
    exact ⟨by omega, by simp, fun j _ => .inl (hz j), fun k hk => by omega, fun j j' _ _ _ h => absurd (hz j) h, fun i _ _ j hj => by omega⟩
  obtain ⟨hG, hW', hlen, hsol⟩ := solveG_spec many 0 0 rows _ hG0 hW (by omega)
  unfold solveM
  generalize solveG many 0 0 rows (List.replicate many 0) = r at *
  obtain ⟨used, rw_, at_⟩ := r
  simp only [] at *
  by_cases hany : ((rw_.drop used).any fun x => decide (x.getD many 0 ≠ 0)) = true
  · rw [if_pos hany]
    refine ⟨fun x h => (by cases h), fun _ y hy => ?_⟩
    have hy' := (hsol y).2 hy
    obtain ⟨row, hrow, hne⟩ := List.any_eq_true.1 hany
    rw [List.mem_drop_iff_getElem] at hrow
    obtain ⟨k, hk, rfl⟩ := hrow
    have hne : rw_[k + used].getD many 0 ≠ 0 := by
      have e : k + used = used + k := Nat.add_comm _ _
      simp only [e]; simpa using hne
    have h1 := hy' (k + used) hk
    have hM : Mx rw_ (k + used) many = rw_[k + used].getD many 0 := by unfold Mx; rw [show rw_.getD (k + used) [] = rw_[k + used] from getD_get hk _]
    have hs : E (S many fun j => Mx rw_ (k + used) j * y j) 0 := S_zero fun j hj => by rw [hG.low (k + used) (by omega) hk j hj, Int.zero_mul]; exact E.refl _
    have hw := Mx_word hW' (k + used) many
    rw [← hM] at hne
    unfold Lx at h1
    unfold E at *
    omega
  · rw [if_neg hany]
    refine ⟨fun x h => ?_, fun h => (by cases h)⟩
    injection h with h
    have hx : ∀ j, j < many → x.getD j 0 = if 0 < at_.getD j 0 then Mx rw_ (at_.getD j 0 - 1).toNat many else 0 := by
      intro j hj
      rw [← h, List.getD_eq_getElem?_getD, List.getElem?_map, List.getElem?_eq_getElem (by rw [hG.len]; exact hj)]
      rw [show at_.getD j 0 = at_[j]'(by rw [hG.len]; exact hj) from getD_get _ _]
      rfl
    refine ⟨by rw [← h, List.length_map, hG.len], ?_, ?_⟩
    · intro v hv
      rw [← h] at hv
      obtain ⟨k, _, rfl⟩ := List.mem_map.1 hv
      split
      · exact Mx_word hW' _ _
      · omega
    · rw [← hsol]
      intro i hi
      show E (S many (fun j => Mx rw_ i j * x.getD j 0) - Mx rw_ i many) 0
      by_cases hiu : i < used
      · obtain ⟨j, hj, hji⟩ := hG.all i hiu
        have hp := hG.piv j hj
        rcases hp with hp | ⟨_, k, hk, hjk, hcol⟩
        · omega
        · have hki : k = i := by omega
          subst hki
          have hone : E (S many fun j' => Mx rw_ k j' * x.getD j' 0) (Mx rw_ k j * x.getD j 0) := by
            refine S_one hj fun j' hj' hne => ?_
            rcases hG.piv j' hj' with h0 | ⟨_, k', hk', hjk', hcol'⟩
            · rw [hx j' hj', h0, if_neg (by omega), Int.mul_zero]; exact E.refl _
            · rw [hcol' k hi]
              rw [if_neg (by
                intro e
                exact hne (hG.one j' j hj' hj (by omega) (by omega)))]
              rw [Int.zero_mul]; exact E.refl _
          rw [hcol k hi, if_pos rfl, Int.one_mul, hx j hj, hji, if_pos (by omega)] at hone
          rw [show ((k : Int) + 1 - 1).toNat = k by omega] at hone
          unfold E at *; omega
      · have hs : E (S many fun j => Mx rw_ i j * x.getD j 0) 0 := S_zero fun j hj => by rw [hG.low i (by omega) hi j hj, Int.zero_mul]; exact E.refl _
        have hz : Mx rw_ i many = 0 := by
          unfold Mx
          rw [show rw_.getD i [] = rw_[i] from getD_get hi _]
          apply Decidable.byContradiction
          intro hne
          apply hany
          rw [List.any_eq_true]
          refine ⟨rw_[i], ?_, by simpa using hne⟩
          rw [List.mem_drop_iff_getElem]
          exact ⟨i - used, by omega, by congr 1; omega⟩
        rw [hz]
        unfold E at *; omega
end Go.Proofs
namespace Go.Proofs
/-! ### polynomials -/
theorem S_head (f : Nat → Int) : ∀ n, S (n + 1) f = f 0 + S n fun j => f (j + 1)
  | 0 => by simp [S]
  | n + 1 => by rw [S, S_head f n, S]; omega
theorem S_split (f : Nat → Int) (a : Nat) : ∀ b, S (a + b) f = S a f + S b fun j => f (a + j)
  | 0 => by simp [S]
  | b + 1 => by rw [← Nat.add_assoc, S, S_split f a b, S]; omega
def ev : List Int → Int → Int
  | [], _ => 0
  | a :: t, x => a + x * ev t x
theorem ev_S (x : Int) : ∀ c : List Int, ev c x = S c.length fun j => c.getD j 0 * x ^ j
  | [] => rfl
  | a :: t => by
    rw [ev, List.length_cons, S_head, ev_S x t, ← S_mul]
    simp only [List.getD_cons_zero, Int.pow_zero, Int.mul_one, List.getD_cons_succ]
    congr 1
    refine S_congr fun j _ => ?_
    rw [Int.pow_succ]; grind
theorem valM_E (x : Int) : ∀ c : List Int, E (valM c x) (ev c x)
  | [] => E.refl _
  | a :: t => by
    show E ((valM t x * x + a) % 65521) _
    refine (E.mod _).trans ?_
    rw [ev]
    exact (((valM_E x t).mul (E.refl x)).add (E.refl a)).trans (E.of_eq (by grind))
/-- divided by a root's factor -/
def quo (r : Int) : List Int → List Int
  | [] => []
  | [_] => []
  | _ :: b :: t => ev (b :: t) r :: quo r (b :: t)
theorem quo_length (r : Int) : ∀ c : List Int, (quo r c).length = c.length - 1
  | [] => rfl
  | [_] => rfl
  | _ :: b :: t => by rw [quo, List.length_cons, quo_length r (b :: t)]; simp
theorem quo_ev (r x : Int) : ∀ c : List Int, ev c x - ev c r = (x - r) * ev (quo r c) x
  | [] => by simp [ev, quo]
  | [a] => by simp [ev, quo]
  | a :: b :: t => by
    have h := quo_ev r x (b :: t)
    have e1 : ∀ (a : Int) (l : List Int) (y : Int), ev (a :: l) y = a + y * ev l y := fun _ _ _ => rfl
    rw [quo, e1 a (b :: t) x, e1 a (b :: t) r, e1 (ev (b :: t) r)]
    generalize ev (b :: t) x = u at *
    generalize ev (b :: t) r = v at *
    generalize ev (quo r (b :: t)) x = q at *
    grind
theorem quo_zero (r : Int) : ∀ c : List Int, (∀ j, E ((quo r c).getD j 0) 0) → E (ev c r) 0 → ∀ j, E (c.getD j 0) 0
  | [], _, _ => fun j => by simp; exact E.refl _
  | [a], _, h => fun j => by
    cases j with
    | zero => simp [ev] at h; simpa using h
    | succ j => simp; exact E.refl _
  | a :: b :: t, hq, h => fun j => by
    have h0 : E (ev (b :: t) r) 0 := by have := hq 0; simpa [quo] using this
    have hr := quo_zero r (b :: t) (fun j => by have := hq (j + 1); simpa [quo] using this) h0
    cases j with
    | zero =>
      rw [ev] at h
      have h1 : E (r * ev (b :: t) r) 0 := by have := (E.refl r).mul h0; rwa [Int.mul_zero] at this
      simp only [List.getD_cons_zero]
      unfold E at *; omega
    | succ j => rw [List.getD_cons_succ]; exact hr j
/-- a polynomial that is 0 at more points than it has powers is 0 -/
theorem ev_roots : ∀ (n : Nat) (c xs : List Int), c.length = n → xs.Pairwise (fun x y => ¬ E x y) → n ≤ xs.length → (∀ x ∈ xs, E (ev c x) 0) → ∀ j, E (c.getD j 0) 0
  | 0, c, _, hc, _, _, _ => fun j => by rw [List.length_eq_zero_iff.1 hc]; simp; exact E.refl _
  | n + 1, c, [], _, _, h, _ => by simp at h
  | n + 1, c, r :: xs, hc, hp, hl, h => by
    obtain ⟨hp1, hp2⟩ := List.pairwise_cons.1 hp
    have hr := h r (List.mem_cons_self ..)
    refine quo_zero r c (ev_roots n (quo r c) xs (by rw [quo_length, hc]; rfl) hp2 (by simpa using hl) fun x hx => ?_) hr
    have hx0 := h x (List.mem_cons_of_mem _ hx)
    have h1 := quo_ev r x c
    have h2 : E ((x - r) * ev (quo r c) x) 0 := by rw [← h1]; have := hx0.sub hr; rwa [Int.sub_zero] at this
    refine h2.cancel fun h3 => hp1 x hx ?_
    unfold E at *; omega
end Go.Proofs
namespace Go.Proofs
/-! ### a product, and the division of it -/
def C (P : Nat → Int) (b : List Int) (n j : Nat) : Int := S n fun k => if k ≤ j then P k * b.getD (j - k) 0 else 0
theorem getD_over {b : List Int} {j : Nat} (h : b.length ≤ j) : b.getD j 0 = 0 := by
  rw [List.getD_eq_getElem?_getD, List.getElem?_eq_none h]; rfl
theorem S_none {f : Nat → Int} : ∀ {n : Nat}, (∀ j, j < n → f j = 0) → S n f = 0
  | 0, _ => rfl
  | n + 1, h => by rw [S, S_none fun j hj => h j (by omega), h n (by omega)]; rfl
theorem C_over (P : Nat → Int) (b : List Int) {n j : Nat} (h : n + b.length ≤ j + 1) : C P b n j = 0 :=
  S_none fun k hk => by
    split
    · rw [getD_over (by omega), Int.mul_zero]
    · rfl
theorem C_ev (P : Nat → Int) (b : List Int) (x : Int) : ∀ n, S (n + b.length) (fun j => C P b n j * x ^ j) = (S n fun k => P k * x ^ k) * ev b x
  | 0 => by
    rw [S, Int.zero_mul]
    exact S_none fun j _ => by simp [C, S]
  | n + 1 => by
    have h1 : ∀ j, C P b (n + 1) j = C P b n j + if n ≤ j then P n * b.getD (j - n) 0 else 0 := fun j => rfl
    have h2 : S (n + b.length + 1) (fun j => C P b n j * x ^ j) = (S n fun k => P k * x ^ k) * ev b x := by
      rw [S, C_ev P b x n, C_over P b (by omega)]; simp
    have h3 : S (n + b.length + 1) (fun j => (if n ≤ j then P n * b.getD (j - n) 0 else 0) * x ^ j) = P n * x ^ n * ev b x := by
      rw [Nat.add_assoc, S_split, S_none (fun j hj => by rw [if_neg (by omega), Int.zero_mul]), Int.zero_add, ev_S, ← S_mul, S]
      rw [getD_over (b := b) (by omega)]
      simp only [Int.mul_zero, ite_self, Int.zero_mul, Int.add_zero]
      refine S_congr fun j _ => ?_
      rw [if_pos (by omega), show n + j - n = j by omega, Int.pow_add]; grind
    rw [show n + 1 + b.length = n + b.length + 1 by omega, S_congr (g := fun j => C P b n j * x ^ j + (if n ≤ j then P n * b.getD (j - n) 0 else 0) * x ^ j) (fun j _ => by rw [h1, Int.add_mul]), S_add, h2, h3, S]
    grind
theorem sub_get {a b : List Int} {i : Nat} {f : Int} (h : i + b.length ≤ a.length) (j : Nat) : (subAt a i f b).getD j 0 = if i ≤ j ∧ j < i + b.length then (a.getD j 0 - f * b.getD (j - i) 0) % 65521 else a.getD j 0 := by
  have hl1 : (a.take i).length = i := by rw [List.length_take]; omega
  have hl3 : ((a.drop i).take b.length).length = b.length := by rw [List.length_take, List.length_drop]; omega
  have hl2 : (elimM f ((a.drop i).take b.length) b).length = b.length := by unfold elimM; rw [List.length_zipWith, hl3]; omega
  unfold subAt
  rw [List.getD_eq_getElem?_getD]
  by_cases h1 : i ≤ j
  · by_cases h2 : j < i + b.length
    · rw [if_pos ⟨h1, h2⟩, List.getElem?_append_left (by rw [List.length_append, hl1, hl2]; exact h2), List.getElem?_append_right (by omega), hl1, ← List.getD_eq_getElem?_getD, elim_get f hl3]
      have e : ((a.drop i).take b.length).getD (j - i) 0 = a.getD j 0 := by
        rw [List.getD_eq_getElem?_getD, List.getD_eq_getElem?_getD, List.getElem?_take_of_lt (by omega), List.getElem?_drop, show i + (j - i) = j by omega]
      rw [e]
    · rw [if_neg (by omega), List.getElem?_append_right (by rw [List.length_append, hl1, hl2]; omega), List.length_append, hl1, hl2, List.getElem?_drop, List.getD_eq_getElem?_getD]
      congr 2; omega
  · rw [if_neg (by omega), List.append_assoc, List.getElem?_append_left (by omega), List.getElem?_take_of_lt (by omega), List.getD_eq_getElem?_getD]
theorem overG_spec {P : Nat → Int} {b : List Int} (hP : ∀ k, 0 ≤ P k ∧ P k ≤ 65520) (hb : 0 < b.length) (hm : b.getD (b.length - 1) 0 = 1) : ∀ (n : Nat) (a out : List Int), (∀ j, E (a.getD j 0) (C P b n j)) → (∀ j, 0 ≤ a.getD j 0 ∧ a.getD j 0 ≤ 65520) → n + b.length ≤ a.length + 1 →
    (overG b n a out).1 = (List.range n).map P ++ out ∧ ∀ j, (overG b n a out).2.getD j 0 = 0
  | 0, a, out, h, hw, _ => by
    refine ⟨rfl, fun j => ?_⟩
    have h1 := h j
    have h2 := hw j
    show a.getD j 0 = 0
    rw [show C P b 0 j = 0 from rfl] at h1
    exact h1.word h2 (by omega)
  | i + 1, a, out, h, hw, hl => by
    rw [overG]
    have h1 : ∀ j, C P b (i + 1) j = C P b i j + if i ≤ j then P i * b.getD (j - i) 0 else 0 := fun j => rfl
    have hf : a.getD (i + b.length - 1) 0 = P i := by
      refine E.word ((h _).trans (E.of_eq ?_)) (hw _) (hP i)
      rw [h1, C_over P b (by omega), if_pos (by omega), show i + b.length - 1 - i = b.length - 1 by omega, hm]; omega
    rw [hf]
    have hs := sub_get (a := a) (b := b) (i := i) (f := P i) (by omega)
    obtain ⟨r1, r2⟩ := overG_spec hP hb hm i (subAt a i (P i) b) (P i :: out) (fun j => by
      rw [hs]
      have h2 := h j
      rw [h1] at h2
      split
      · rename_i hc
        rw [if_pos hc.1] at h2
        refine (E.mod _).trans ?_
        unfold E at *; omega
      · rename_i hc
        by_cases hij : i ≤ j
        · rw [if_pos hij, getD_over (b := b) (by omega), Int.mul_zero, Int.add_zero] at h2; exact h2
        · rw [if_neg hij, Int.add_zero] at h2; exact h2) (fun j => by
      rw [hs]
      split
      · omega
      · exact hw j) (by
      have : (subAt a i (P i) b).length = a.length := by
        unfold subAt elimM
        simp only [List.length_append, List.length_take, List.length_zipWith, List.length_drop]; omega
      omega)
    refine ⟨?_, r2⟩
    rw [r1, List.range_succ, List.map_append, List.append_assoc]; rfl
/-- what was multiplied is divided -/
theorem overM_spec {p b q : List Int} (hp : isW p) (hb : 0 < b.length) (hm : b.getD (b.length - 1) 0 = 1) (hq : isW q) (hl : q.length + 1 = p.length + b.length) (h : ∀ j, E (q.getD j 0) (C (fun k => p.getD k 0) b p.length j)) : overM q b = (p, true) := by
  unfold overM
  simp only []
  rw [show q.length + 1 - b.length = p.length by omega]
  obtain ⟨h1, h2⟩ := overG_spec (P := fun k => p.getD k 0) (b := b) (fun k => getDW hp k) hb hm p.length q [] h (fun j => getDW hq j) (by omega)
  refine Prod.ext ?_ ?_
  · simp only []
    rw [h1, List.append_nil]
    apply List.ext_getElem (by simp)
    intro i h3 h4
    rw [List.getElem_map, List.getElem_range, getD_get h4]
  · simp only []
    rw [List.all_eq_true]
    intro x hx
    obtain ⟨i, hi, rfl⟩ := List.mem_iff_getElem.1 hx
    have := h2 i
    rw [getD_get hi] at this
    simpa using this
end Go.Proofs
namespace Go.Proofs
/-! ### decoding -/
theorem lastM_get : ∀ (c : List Int) (p : Int), lastM p c = (p :: c).getD c.length 0
  | [], p => rfl
  | n :: t, p => by rw [lastM, lastM_get t n]; rfl
theorem times_ev (r x : Int) : ∀ (c : List Int) (p : Int), E (ev (initM r p c ++ [lastM p c]) x) (p + (x - r) * ev c x)
  | [], p => E.of_eq (by simp [initM, lastM, ev])
  | n :: t, p => by
    have h := times_ev r x t n
    show E ((p - r * n) % 65521 + x * ev (initM r n t ++ [lastM n t]) x) _
    refine ((E.mod _).add ((E.refl x).mul h)).trans (E.of_eq ?_)
    rw [show ev (n :: t) x = n + x * ev t x from rfl]
    grind
theorem timesM_ev (r x : Int) (c : List Int) : E (ev (timesM c r) x) ((x - r) * ev c x) := by
  have := times_ev r x c 0
  rwa [Int.zero_add] at this
/-- a polynomial with these zeros, whose greatest coefficient is 1 -/
def rootsM : List Int → List Int
  | [] => [1]
  | r :: t => timesM (rootsM t) r
theorem rootsM_spec : ∀ rs : List Int, (rootsM rs).length = rs.length + 1 ∧ (rootsM rs).getD rs.length 0 = 1 ∧ ∀ x ∈ rs, E (ev (rootsM rs) x) 0
  | [] => ⟨rfl, rfl, by simp⟩
  | r :: t => by
    obtain ⟨h1, h2, h3⟩ := rootsM_spec t
    have hl : (rootsM (r :: t)).length = t.length + 1 + 1 := by rw [rootsM, timesM, List.length_append, initM_length, h1]; rfl
    refine ⟨by rw [hl]; rfl, ?_, ?_⟩
    · rw [rootsM, timesM, List.getD_eq_getElem?_getD, List.getElem?_append_right (by rw [initM_length, h1]; simp), initM_length, h1, List.length_cons, Nat.sub_self]
      simp only [List.getElem?_cons_zero, Option.getD_some]
      rw [lastM_get, h1, List.getD_cons_succ]; exact h2
    · intro x hx
      rw [rootsM]
      refine (timesM_ev r x _).trans ?_
      rcases List.mem_cons.1 hx with rfl | hx
      · rw [Int.sub_self, Int.zero_mul]; exact E.refl _
      · have := (E.refl (x - r)).mul (h3 x hx); rwa [Int.mul_zero] at this
theorem eqn_a (many few : Nat) (d : Int × Int) {j : Nat} (h : j < many + few) : (eqnM many few d).getD j 0 = powM d.1 (j : Int) := by
  unfold eqnM
  rw [List.getD_eq_getElem?_getD, List.append_assoc, List.getElem?_append_left (by simp [powsM]; omega)]
  unfold powsM
  rw [List.getElem?_map, List.getElem?_range h]; rfl
theorem eqn_b (many few : Nat) (d : Int × Int) {i : Nat} (h : i < few) : (eqnM many few d).getD (many + few + i) 0 = (0 - d.2) * powM d.1 (i : Int) % 65521 := by
  unfold eqnM
  rw [List.getD_eq_getElem?_getD, List.append_assoc, List.getElem?_append_right (by simp [powsM]), List.getElem?_append_left (by simp [powsM, negsM]; omega)]
  unfold negsM
  rw [show (many + few + i - (powsM d.1 (many + few)).length) = i by simp [powsM], List.getElem?_map, List.getElem?_range h]; rfl
theorem eqn_c (many few : Nat) (d : Int × Int) : (eqnM many few d).getD (many + 2 * few) 0 = d.2 * powM d.1 (few : Int) % 65521 := by
  unfold eqnM
  have : (powsM d.1 (many + few) ++ negsM d few).length = many + 2 * few := by simp [powsM, negsM]; omega
  rw [List.getD_eq_getElem?_getD, List.getElem?_append_right (by omega), this, Nat.sub_self]; rfl
theorem eqn_E (many few : Nat) (d : Int × Int) (y : Nat → Int) :
    E (S (many + 2 * few) (fun j => (eqnM many few d).getD j 0 * y j) - (eqnM many few d).getD (many + 2 * few) 0) (S (many + few) (fun j => y j * d.1 ^ j) - d.2 * (S few (fun i => y (many + few + i) * d.1 ^ i) + d.1 ^ few)) := by
  rw [show many + 2 * few = many + few + few by omega, S_split]
  rw [← show many + 2 * few = many + few + few by omega, eqn_c]
  have h1 : E (S (many + few) fun j => (eqnM many few d).getD j 0 * y j) (S (many + few) fun j => y j * d.1 ^ j) :=
    S_E fun j hj => by
      rw [eqn_a many few d hj]
      exact ((powM_E d.1 j).mul (E.refl (y j))).trans (E.of_eq (Int.mul_comm _ _))
  have h2 : E (S few fun i => (eqnM many few d).getD (many + few + i) 0 * y (many + few + i)) (S few fun i => (0 - d.2) * (y (many + few + i) * d.1 ^ i)) :=
    S_E fun i hi => by
      rw [eqn_b many few d hi]
      refine (((E.mod _).trans ((E.refl _).mul (powM_E d.1 i))).mul (E.refl _)).trans (E.of_eq (by grind))
  rw [S_mul] at h2
  have h3 : E (d.2 * powM d.1 (few : Int) % 65521) (d.2 * d.1 ^ few) := (E.mod _).trans ((E.refl _).mul (powM_E d.1 few))
  exact ((h1.add h2).sub h3).trans (E.of_eq (by grind))
theorem eqn_rows (many few : Nat) (l : List (Int × Int)) : RowsW (many + 2 * few + 1) (l.map (eqnM many few)) := by
  intro r hr
  obtain ⟨d, hd, rfl⟩ := List.mem_map.1 hr
  refine ⟨by simp [eqnM, powsM, negsM]; omega, ?_⟩
  unfold eqnM powsM negsM
  intro n hn
  rcases List.mem_append.1 hn with hn | hn
  · rcases List.mem_append.1 hn with hn | hn
    · obtain ⟨i, _, rfl⟩ := List.mem_map.1 hn
      have := powM_range d.1 (i : Int); omega
    · obtain ⟨i, _, rfl⟩ := List.mem_map.1 hn
      omega
  · rw [List.mem_singleton.1 hn]; omega
theorem Sol_eqn (many few : Nat) (l : List (Int × Int)) (y : Nat → Int) :
    Sol (many + 2 * few) (l.map (eqnM many few)) y ↔ ∀ d ∈ l, E (S (many + few) (fun j => y j * d.1 ^ j) - d.2 * (S few (fun i => y (many + few + i) * d.1 ^ i) + d.1 ^ few)) 0 := by
  have hrow : ∀ i (hi : i < l.length), (l.map (eqnM many few)).getD i [] = eqnM many few l[i] := fun i hi => by
    rw [getD_get (by simpa using hi), List.getElem_map]
  have hL : ∀ i (hi : i < l.length), Lx (many + 2 * few) (l.map (eqnM many few)) i y = S (many + 2 * few) (fun j => (eqnM many few l[i]).getD j 0 * y j) - (eqnM many few l[i]).getD (many + 2 * few) 0 := fun i hi => by
    unfold Lx Mx; rw [hrow i hi]
  constructor
  · intro h d hd
    obtain ⟨i, hi, rfl⟩ := List.mem_iff_getElem.1 hd
    have h1 := h i (by simpa using hi)
    rw [hL i hi] at h1
    exact (eqn_E many few _ y).symm.trans h1
  · intro h i hi
    have hi : i < l.length := by simpa using hi
    rw [hL i hi]
    exact (eqn_E many few _ y).trans (h _ (List.getElem_mem hi))
end Go.Proofs
namespace Go.Proofs
theorem C_ev' {p b : List Int} (x : Int) {m : Nat} (hm : p.length + b.length ≤ m + 1) : S m (fun j => C (fun k => p.getD k 0) b p.length j * x ^ j) = ev p x * ev b x := by
  rw [ev_S x p, ← C_ev]
  have hz : ∀ n, S (m + n) (fun j => C (fun k => p.getD k 0) b p.length j * x ^ j) = S m (fun j => C (fun k => p.getD k 0) b p.length j * x ^ j) := by
    intro n
    rw [S_split, S_none (n := n) fun j _ => by rw [C_over _ _ (by omega), Int.zero_mul], Int.add_zero]
  rw [← hz (p.length + b.length - m)]
  rcases Nat.le_total (p.length + b.length) m with h | h
  · have h2 : p.length + b.length - m = 0 := by omega
    rw [h2, Nat.add_zero]
    have h3 : ∀ n, S (p.length + b.length + n) (fun j => C (fun k => p.getD k 0) b p.length j * x ^ j) = S (p.length + b.length) (fun j => C (fun k => p.getD k 0) b p.length j * x ^ j) := by
      intro n
      rw [S_split, S_none (n := n) fun j _ => by rw [C_over _ _ (by omega), Int.zero_mul], Int.add_zero]
    rw [← h3 (m - (p.length + b.length)), show p.length + b.length + (m - (p.length + b.length)) = m by omega]
  · rw [show m + (p.length + b.length - m) = p.length + b.length by omega]
theorem pair_filter {l : List (Int × Int)} (h : l.Pairwise fun a b => ¬ E a.1 b.1) (f : Int × Int → Bool) : ((l.filter f).map (·.1)).Pairwise fun x y => ¬ E x y := by
  rw [List.pairwise_map]; exact h.filter f
theorem decoded_ok {l : List (Int × Int)} {many few : Nat} {p : List Int} (hp : isW p) (hpl : p.length = many) (hX : l.Pairwise fun a b => ¬ E a.1 b.1) (hY : ∀ d ∈ l, 0 ≤ d.2 ∧ d.2 ≤ 65520) (hlen : many + 2 * few ≤ l.length)
    (herr : (l.filter fun d => !decide (valM p d.1 = d.2)).length ≤ few) : decodedM l many few = some p := by
  obtain ⟨hs1, hs2⟩ := solveM_spec (eqn_rows many few l)
  obtain ⟨bad, hbad⟩ : ∃ b, b = l.filter fun d => !decide (valM p d.1 = d.2) := ⟨_, rfl⟩
  have hgood : ∀ d : Int × Int, valM p d.1 = d.2 → E (ev p d.1) d.2 := fun d h => h ▸ (valM_E d.1 p).symm
  rw [← hbad] at herr
  unfold decodedM
  cases hsv : solveM (l.map (eqnM many few)) (many + 2 * few) with
  | none =>
    exfalso
    obtain ⟨rs, hrs⟩ : ∃ rs, rs = bad.map (·.1) ++ List.replicate (few - bad.length) 0 := ⟨_, rfl⟩
    have hrl : rs.length = few := by rw [hrs]; simp; omega
    obtain ⟨e1, e2, e3⟩ := rootsM_spec rs
    obtain ⟨b, hb⟩ : ∃ b, b = rootsM rs := ⟨_, rfl⟩
    rw [← hb, hrl] at e1 e2
    rw [← hb] at e3
    refine hs2 hsv (fun j => if j < many + few then C (fun k => p.getD k 0) b p.length j else b.getD (j - (many + few)) 0) ((Sol_eqn many few l _).2 fun d hd => ?_)
    have h1 : S (many + few) (fun j => (if j < many + few then C (fun k => p.getD k 0) b p.length j else b.getD (j - (many + few)) 0) * d.1 ^ j) = ev p d.1 * ev b d.1 := by
      rw [← C_ev' d.1 (m := many + few) (by omega)]
      exact S_congr fun j hj => by rw [if_pos hj]
    have h2 : S few (fun i => (if many + few + i < many + few then C (fun k => p.getD k 0) b p.length (many + few + i) else b.getD (many + few + i - (many + few)) 0) * d.1 ^ i) + d.1 ^ few = ev b d.1 := by
      rw [ev_S d.1 b, e1, S, e2, Int.one_mul]
      congr 1
      exact S_congr fun i hi => by rw [if_neg (by omega), show many + few + i - (many + few) = i by omega]
    rw [h1, h2]
    by_cases hv : valM p d.1 = d.2
    · have h3 := hgood d hv
      refine (((h3.mul (E.refl _))).sub (E.refl _)).trans (E.of_eq (by omega))
    · have h3 : d.1 ∈ rs := by
        rw [hrs]
        exact List.mem_append_left _ (List.mem_map.2 ⟨d, by rw [hbad, List.mem_filter]; exact ⟨hd, by simpa using hv⟩, rfl⟩)
      have h4 := e3 _ h3
      have h5 := ((E.refl (ev p d.1)).mul h4).sub ((E.refl d.2).mul h4)
      rw [Int.mul_zero, Int.mul_zero, Int.sub_zero] at h5
      exact h5
  | some x =>
    obtain ⟨hxl, hxw, hxs⟩ := hs1 x hsv
    simp only []
    obtain ⟨q, hq⟩ : ∃ q, q = x.take (many + few) := ⟨_, rfl⟩
    obtain ⟨b, hb⟩ : ∃ b, b = x.drop (many + few) ++ [1] := ⟨_, rfl⟩
    rw [← hq, ← hb]
    have hql : q.length = many + few := by rw [hq, List.length_take]; omega
    have hbl : b.length = few + 1 := by rw [hb, List.length_append, List.length_drop]; simp; omega
    have hqg : ∀ j, j < many + few → q.getD j 0 = x.getD j 0 := fun j hj => by
      rw [hq, List.getD_eq_getElem?_getD, List.getElem?_take_of_lt hj, List.getD_eq_getElem?_getD]
    have hbg : ∀ i, i < few → b.getD i 0 = x.getD (many + few + i) 0 := fun i hi => by
      rw [hb, List.getD_eq_getElem?_getD, List.getElem?_append_left (by rw [List.length_drop]; omega), List.getElem?_drop, List.getD_eq_getElem?_getD]
    have hbt : b.getD few 0 = 1 := by
      rw [hb, List.getD_eq_getElem?_getD, List.getElem?_append_right (by rw [List.length_drop]; omega), List.length_drop, show few - (x.length - (many + few)) = 0 by omega]; rfl
    have hsol : ∀ d ∈ l, E (ev q d.1) (d.2 * ev b d.1) := by
      intro d hd
      have h1 := (Sol_eqn many few l _).1 hxs d hd
      have h2 : S (many + few) (fun j => x.getD j 0 * d.1 ^ j) = ev q d.1 := by
        rw [ev_S, hql]; exact S_congr fun j hj => by rw [hqg j hj]
      have h3 : S few (fun i => x.getD (many + few + i) 0 * d.1 ^ i) + d.1 ^ few = ev b d.1 := by
        rw [ev_S d.1 b, hbl, S, hbt, Int.one_mul]; congr 1
        exact S_congr fun i hi => by rw [hbg i hi]
      rw [h2, h3] at h1
      unfold E at *; omega
    obtain ⟨D, hD⟩ : ∃ D : List Int, D = (List.range (many + few)).map fun j => q.getD j 0 - C (fun k => p.getD k 0) b p.length j := ⟨_, rfl⟩
    have hDl : D.length = many + few := by rw [hD]; simp
    have hDg : ∀ j, j < many + few → D.getD j 0 = q.getD j 0 - C (fun k => p.getD k 0) b p.length j := fun j hj => by
      rw [hD, getD_get (by simpa using hj), List.getElem_map, List.getElem_range]
    have hDe : ∀ y, ev D y = ev q y - ev p y * ev b y := fun y => by
      rw [ev_S y D, ev_S y q, hDl, hql, ← C_ev' y (m := many + few) (by omega), ← S_sub]
      exact S_congr fun j hj => by rw [hDg j hj, Int.sub_mul]
    have hcount : (l.filter fun d => decide (valM p d.1 = d.2)).length + bad.length = l.length := by
      have h1 : bad.length = l.countP fun d => !decide (valM p d.1 = d.2) := by rw [hbad, ← List.countP_eq_length_filter]
      have h2 := List.length_eq_countP_add_countP (fun d : Int × Int => decide (valM p d.1 = d.2)) (l := l)
      rw [← List.countP_eq_length_filter, h1, h2]
      congr 1
      refine List.countP_congr fun d _ => ?_
      simp
    have hDz := ev_roots (many + few) D ((l.filter fun d => decide (valM p d.1 = d.2)).map (·.1)) hDl (pair_filter hX _) (by rw [List.length_map]; omega) (by
      intro y hy
      obtain ⟨d, hd, rfl⟩ := List.mem_map.1 hy
      obtain ⟨hd1, hd2⟩ := List.mem_filter.1 hd
      have h1 := hsol d hd1
      have h2 := (hgood d (by simpa using hd2)).mul (E.refl (ev b d.1))
      rw [hDe]
      unfold E at *; omega)
    have hov := overM_spec (p := p) (b := b) (q := q) hp (by omega) (by rw [hbl]; exact hbt) (fun n hn => hxw n (by rw [hq] at hn; exact List.mem_of_mem_take hn)) (by omega) (fun j => by
      by_cases hj : j < many + few
      · have h1 := hDz j
        rw [hDg j hj] at h1
        unfold E at *; omega
      · rw [getD_over (by omega), C_over _ _ (by omega)]; exact E.refl _)
    rw [hov]; rfl
end Go.Proofs
namespace Go.Proofs
/-! ### the polynomial through points goes through them -/
theorem part_thr {l : List (Int × Int)} {i : Nat} (hi : i < l.length) (hX : ∀ a b (ha : a < l.length) (hb : b < l.length), a ≠ b → ¬ E l[a].1 l[b].1) : ∀ (t : List (Int × Int)) (k : Nat) (part : List Int) (b : Int), l.drop k = t → E (ev part l[i].1) b → ¬ E b 0 →
    E (ev (partG i l[i].1 t k part b).1 l[i].1) (partG i l[i].1 t k part b).2 ∧ ¬ E (partG i l[i].1 t k part b).2 0 ∧ (∀ x, E (ev part x) 0 → E (ev (partG i l[i].1 t k part b).1 x) 0) ∧ ∀ m (hm : m < l.length), k ≤ m → m ≠ i → E (ev (partG i l[i].1 t k part b).1 l[m].1) 0
  | [], k, part, b, ht, h1, h2 => by
    have hk : l.length ≤ k := by
      have := congrArg List.length ht
      rw [List.length_drop] at this; simp at this; omega
    exact ⟨h1, h2, fun x h => h, fun m hm h => by omega⟩
  | q :: t, k, part, b, ht, h1, h2 => by
    have hk : k < l.length := by
      have := congrArg List.length ht
      rw [List.length_drop] at this; simp at this; omega
    rw [List.drop_eq_getElem_cons hk] at ht
    injection ht with hq ht
    rw [partG]
    by_cases hki : k = i
    · rw [if_pos hki]
      obtain ⟨r1, r2, r3, r4⟩ := part_thr hi hX t (k + 1) part b ht h1 h2
      exact ⟨r1, r2, r3, fun m hm hkm hmi => r4 m hm (by omega) hmi⟩
    · rw [if_neg hki]
      have hne : ¬ E (l[i].1 - q.1) 0 := by
        have := hX i k hi hk (Ne.symm hki)
        rw [hq] at this
        intro h; apply this; unfold E at *; omega
      have hby : E (b * ((l[i].1 - q.1) % 65521) % 65521) (b * (l[i].1 - q.1)) := (E.mod _).trans ((E.refl b).mul (E.mod _))
      obtain ⟨r1, r2, r3, r4⟩ := part_thr hi hX t (k + 1) (timesM part q.1) (b * ((l[i].1 - q.1) % 65521) % 65521) ht
        ((timesM_ev q.1 l[i].1 part).trans (((E.refl _).mul h1).trans ((E.of_eq (Int.mul_comm _ _)).trans hby.symm)))
        (fun h => hne ((hby.symm.trans h).cancel h2))
      refine ⟨r1, r2, fun x hx => r3 x ?_, fun m hm hkm hmi => ?_⟩
      · refine (timesM_ev q.1 x part).trans ?_
        have := (E.refl (x - q.1)).mul hx; rwa [Int.mul_zero] at this
      · by_cases hmk : m = k
        · refine r3 _ ((timesM_ev q.1 _ part).trans (E.of_eq ?_))
          subst hmk
          rw [hq, Int.sub_self, Int.zero_mul]
        · exact r4 m hm (by omega) hmi
theorem add_ev (b x : Int) : ∀ (o p : List Int), o.length = p.length → E (ev (addM b o p) x) (ev o x + b * ev p x)
  | [], [], _ => E.of_eq (by simp [addM, ev])
  | a :: s, c :: t, h => by
    have ih := add_ev b x s t (by simpa using h)
    show E ((a + b * c) % 65521 + x * ev (addM b s t) x) ((a + x * ev s x) + b * (c + x * ev t x))
    exact ((E.mod _).add ((E.refl x).mul ih)).trans (E.of_eq (by grind))
theorem thr_at {l : List (Int × Int)} (hX : ∀ a b (ha : a < l.length) (hb : b < l.length), a ≠ b → ¬ E l[a].1 l[b].1) : ∀ (t : List (Int × Int)) (i : Nat) (out : List Int), l.drop i = t → out.length = l.length → isW out →
    (∀ m (hm : m < l.length), E (ev out l[m].1) (if m < i then l[m].2 else 0)) → ∀ m (hm : m < l.length), E (ev (thrG l t i out) l[m].1) l[m].2
  | [], i, out, ht, _, _, h => fun m hm => by
    have hk : l.length ≤ i := by
      have := congrArg List.length ht
      rw [List.length_drop] at this; simp at this; omega
    have := h m hm
    rw [if_pos (by omega)] at this
    exact this
  | p :: t, i, out, ht, hol, hw, h => fun m hm => by
    have hi : i < l.length := by
      have := congrArg List.length ht
      rw [List.length_drop] at this; simp at this; omega
    rw [List.drop_eq_getElem_cons hi] at ht
    injection ht with hp ht
    rw [thrG]
    have hone : isW [1] := by intro n hn; simp at hn; omega
    obtain ⟨s1, s2, s3⟩ := partG_spec i l[i].1 l 0 [1] 1 hone (by omega)
    rw [if_pos (by omega)] at s3
    obtain ⟨r1, r2, r3, r4⟩ := part_thr hi hX l 0 [1] 1 rfl (E.of_eq (by simp [ev])) (by unfold E; omega)
    have hlen : out.length = (partG i l[i].1 l 0 [1] 1).1.length := by rw [s3, hol]; simp; omega
    have hst : thrStep l i p out = addM (l[i].2 * powM (partG i l[i].1 l 0 [1] 1).2 65519 % 65521) out (partG i l[i].1 l 0 [1] 1).1 := by rw [← hp]; rfl
    have hle : (thrStep l i p out).length = l.length := by rw [hst]; unfold addM; rw [List.length_zipWith, ← hlen, hol]; omega
    refine thr_at hX t (i + 1) (thrStep l i p out) ht hle ?_ (fun m hm => ?_) m hm
    · rw [hst]; exact addM_range _ _ _
    · rw [hst]
      refine (add_ev _ _ _ _ hlen).trans ?_
      have h0 := h m hm
      by_cases hmi : m = i
      · subst hmi
        rw [if_neg (by omega)] at h0
        rw [if_pos (by omega)]
        have h1 : E (l[m].2 * powM (partG m l[m].1 l 0 [1] 1).2 65519 % 65521 * ev (partG m l[m].1 l 0 [1] 1).1 l[m].1) (l[m].2 * 1) := by
          refine ((E.mod _).mul r1).trans ?_
          refine E.trans (E.of_eq ?_) ((E.refl l[m].2).mul (inv_E r2))
          grind
        have h2 := h0.add h1
        rw [Int.zero_add, Int.mul_one] at h2; exact h2
      · have h1 := r4 m hm (by omega) hmi
        have h2 := h0.add ((E.refl (l[i].2 * powM (partG i l[i].1 l 0 [1] 1).2 65519 % 65521)).mul h1)
        rw [Int.mul_zero, Int.add_zero] at h2
        refine h2.trans (E.of_eq ?_)
        by_cases hmi2 : m < i
        · rw [if_pos hmi2, if_pos (by omega)]
        · rw [if_neg hmi2, if_neg (by omega)]
theorem through_at {l : List (Int × Int)} (hX : ∀ a b (ha : a < l.length) (hb : b < l.length), a ≠ b → ¬ E l[a].1 l[b].1) (m : Nat) (hm : m < l.length) : E (ev (throughM l) l[m].1) l[m].2 := by
  unfold throughM
  refine thr_at hX l 0 _ rfl (by simp) (by intro n hn; have := (List.mem_replicate.1 hn).2; omega) (fun m hm => ?_) m hm
  rw [if_neg (by omega)]
  have hz : ∀ (n : Nat) (x : Int), ev (List.replicate n 0) x = 0 := by
    intro n x
    induction n with
    | zero => rfl
    | succ n ih => rw [List.replicate_succ, ev, ih]; simp
  rw [hz]; exact E.refl _
end Go.Proofs
namespace Go.Proofs
theorem GoodM.joined {s : Shape} {ms : List (List LM)} (h : GoodM s ms) : GoodC s (joinM s ms) := by
  refine ⟨joinM_pair s ms, fun x hx => ?_⟩
  obtain ⟨c, hc, hxc⟩ := List.mem_flatten.1 (joinM_mem hx).2.2
  exact (h c hc).2 x hxc
theorem isW_words {xs : List Int} (h : Go.Proofs.words xs = true) : isW xs := by
  intro n hn
  have := List.all_eq_true.1 h n hn
  unfold wordB at this; simpa using this
theorem dotsJ_get (rows : List (List Int)) (j k : Nat) (hk : k < rows.length) : (dotsJ rows j)[k]'(by rw [dotsJ_length]; exact hk) = ((k : Int) + 1, rows[k].getD j 0) := by
  simp [dotsJ]
theorem place_at {rows : List (List Int)} {j k : Nat} (hl : rows.length ≤ 1000) (hk : k < rows.length) (hw : isW rows[k]) : valM (placeM rows j) ((k : Int) + 1) = rows[k].getD j 0 := by
  have hX : ∀ a b (ha : a < (dotsJ rows j).length) (hb : b < (dotsJ rows j).length), a ≠ b → ¬ E (dotsJ rows j)[a].1 (dotsJ rows j)[b].1 := by
    intro a b ha hb hne
    rw [dotsJ_length] at ha hb
    rw [dotsJ_get rows j a ha, dotsJ_get rows j b hb]
    unfold E; simp only []; omega
  have h1 := through_at hX k (by rw [dotsJ_length]; exact hk)
  rw [dotsJ_get rows j k hk] at h1
  have h2 := valM_range (placeM rows j) ((k : Int) + 1)
  have h3 : E (valM (placeM rows j) ((k : Int) + 1)) (rows[k].getD j 0) := (valM_E _ _).trans h1
  exact h3.word (by omega) (getDW hw j)
theorem cols_ok {lm : List LM} {many few : Nat} {P : Nat → List Int} : ∀ js : List Nat, (∀ j ∈ js, decodedM (dotsAt lm j) many few = some (P j)) → colsM lm many few js = some (js.map P)
  | [], _ => rfl
  | j :: js, h => by
    rw [colsM, h j (List.mem_cons_self ..)]
    simp only []
    rw [cols_ok js fun k hk => h k (List.mem_cons_of_mem _ hk)]; rfl
theorem stored_law : StoredLaw := by
  intro s ls ms hwr hG h
  obtain ⟨hsh, _, _⟩ := WriteM_ok hwr
  obtain ⟨hs1, hs2, hs3, hs4, hs5, hs6⟩ := shOk_spec hsh
  obtain ⟨hdl, hdw⟩ := dataB_spec (write_data hwr)
  have hrw := read_write hwr
  obtain ⟨rows, hrows⟩ : ∃ r, r = (WriteM s ls).1 := ⟨_, rfl⟩
  rw [← hrows] at hdl hdw h hrw
  obtain ⟨lm, hlm⟩ : ∃ l, l = joinM s ms := ⟨_, rfl⟩
  have hGl := hG.joined
  rw [← hlm] at hGl h
  obtain ⟨book, hbook⟩ : ∃ b, b = wholeM s rows := ⟨_, rfl⟩
  rw [← hbook] at h
  have hchk := hGl.check hsh
  have hleaf := fun x hx => leafB_spec (hGl.2 x hx)
  have hrl : rows.length = s.data.toNat := by omega
  -- a leaf of the book
  have hbk : ∀ x ∈ lm, (book.getD (x.1 - 1).toNat (0, [])).2 = (List.range s.width.toNat).map fun j => valM (placeM rows j) x.1 := by
    intro x hx
    have hn := (hleaf x hx).1
    have hi : (x.1 - 1).toNat < book.length := by rw [hbook]; unfold wholeM; rw [List.length_map, List.length_range]; omega
    rw [getD_get hi]
    simp only [hbook, wholeM, List.getElem_map, List.getElem_range, wordsAt]
    refine List.map_congr_left fun j _ => ?_
    congr 1; omega
  have hfew : wrongN book lm ≤ (lm.length - s.data.toNat) / 2 := by omega
  have hdec : ∀ j ∈ List.range s.width.toNat, decodedM (dotsAt lm j) s.data.toNat ((lm.length - s.data.toNat) / 2) = some (placeM rows j) := by
    intro j hj
    have hj := List.mem_range.1 hj
    refine decoded_ok (throughM_isW _) (by unfold placeM; rw [throughM_length, dotsJ_length, hrl]) ?_ ?_ (by unfold dotsAt; rw [List.length_map]; omega) ?_
    · unfold dotsAt
      rw [List.pairwise_map]
      refine List.Pairwise.imp_of_mem (fun {a b} ha hb hab => ?_) hGl.1
      have h1 := (hleaf a ha).1
      have h2 := (hleaf b hb).1
      unfold E; simp only []; omega
    · intro d hd
      unfold dotsAt at hd
      obtain ⟨x, hx, rfl⟩ := List.mem_map.1 hd
      exact getDW (isW_words (hleaf x hx).2.2) j
    · refine Nat.le_trans ?_ hfew
      unfold dotsAt wrongN
      rw [List.filter_map, List.length_map, ← List.countP_eq_length_filter]
      refine List.countP_mono_left fun x hx h1 => ?_
      simp only [Function.comp_apply, Bool.not_eq_true', decide_eq_false_iff_not] at h1 ⊢
      intro h2
      apply h1
      rw [h2, hbk x hx, getD_get (by simpa using hj), List.getElem_map, List.getElem_range]
  have hcols := cols_ok (P := placeM rows) _ hdec
  have hdata : dataOfCols ((List.range s.width.toNat).map (placeM rows)) s.data.toNat = rows := by
    unfold dataOfCols
    apply List.ext_getElem (by simp; omega)
    intro k h1 h2
    rw [List.getElem_map, List.getElem_range, List.map_map]
    have hk := hdw _ (List.getElem_mem h2)
    apply List.ext_getElem (by simp; omega)
    intro j h3 h4
    rw [List.getElem_map, List.getElem_range]
    show valM (placeM rows j) ((k : Int) + 1) = _
    rw [place_at (by omega) h2 hk.2, getD_get h4]
  have hwl : (sortI (wrongU book lm)).length = wrongN book lm := by
    rw [sortI_length]
    unfold wrongU wrongN wordsIn
    rw [List.length_map, ← List.countP_eq_length_filter]
    refine List.countP_congr fun x _ => ?_
    simp only [Bool.not_eq_true', decide_eq_false_iff_not]
    exact ⟨fun h e => h e.symm, fun h e => h e.symm⟩
  have hM : MendM s lm = (rows, sortI (wrongU book lm), 0) := by
    unfold MendM
    rw [if_neg (by rw [hchk]; simp), if_neg (by omega)]
    have hmm : mendM s lm = some (rows, sortI (wrongU book lm), true) := by
      unfold mendM
      rw [hcols]
      simp only []
      rw [hdata, ← hbook, hwl]
      rw [decide_eq_true (by omega)]
    rw [hmm]; rfl
  unfold LinesM
  rw [← hlm, hM]
  exact hrw
end Go.Proofs
