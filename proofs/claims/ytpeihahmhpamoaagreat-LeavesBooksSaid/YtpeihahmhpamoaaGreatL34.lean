/-
  L34: a part of the proof. By an AI agent.
-/
import Derived.Test.YtpeihahmhpamoaaGreatL33
set_option linter.all false
namespace Go.Proofs
open Go.V
/-! ### what was written is read -/
theorem chunks_flat (xs : List Int) (W : Nat) : ∀ D, D * W ≤ xs.length → ((List.range D).map (rowM W xs)).flatten = xs.take (D * W) := by
  intro D
  induction D with
  | zero => intro _; simp
  | succ D ih =>
    intro h
    rw [List.range_succ, List.map_append, List.flatten_append, ih (by rw [Nat.add_mul] at h; omega)]
    simp only [List.map_cons, List.map_nil, List.flatten_cons, List.flatten_nil, List.append_nil, rowM]
    rw [Nat.add_mul, Nat.one_mul, List.take_add]
theorem flat_get {α : Type} {c : α → List Int} {sz : Nat} (hc : ∀ x, (c x).length = sz) : ∀ (xs : List α) (k j : Nat) (hk : k < xs.length), j < sz → (xs.flatMap c)[k * sz + j]? = (c xs[k])[j]? := by
  intro xs
  induction xs with
  | nil => intro k j hk; simp at hk
  | cons x r ih =>
    intro k j hk hj
    simp only [List.flatMap_cons]
    cases k with
    | zero => rw [List.getElem?_append_left (by rw [hc]; omega)]; simp
    | succ k =>
      rw [List.getElem?_append_right (by rw [hc, Nat.add_mul]; omega), hc, show (k + 1) * sz + j - sz = k * sz + j by rw [Nat.add_mul]; omega]
      exact ih k j (by simpa using hk) hj
theorem lineW_len (x : Line) : (lineW x).length = 7 := rfl
theorem linesW_len (l : List Line) : (linesW l).length = 1 + 7 * l.length := by
  have : (l.flatMap lineW).length = 7 * l.length := by
    induction l with
    | nil => rfl
    | cons a t ih => rw [List.flatMap_cons, List.length_append, ih, lineW_len, List.length_cons]; omega
  simp only [linesW, List.length_cons, this]; omega
theorem lineOf_words {x : Line} (h : validB x = true) : lineOfM (x.id / 65521 / 65521) (x.id / 65521 % 65521) (x.id % 65521) x.day x.what (x.worth / 65521) (x.worth % 65521) = x := by
  obtain ⟨i, d, wh, wo⟩ := x
  simp only [lineOfM]
  congr 1
  · omega
  · omega
theorem lineW_words {x : Line} (h : validB x = true) : ∀ n ∈ lineW x, 0 ≤ n ∧ n ≤ 65520 := by
  simp only [validB, decide_eq_true_eq] at h
  intro n hn
  simp only [lineW, List.mem_cons, List.not_mem_nil, or_false] at hn
  omega
theorem read_write {s : Shape} {a : List Line} (h : (WriteM s a).2 = 0) : ReadM s (WriteM s a).1 = (a, 0) := by
  unfold WriteM at h ⊢
  by_cases hs : shOk s = true
  rotate_left
  · rw [if_neg hs] at h; simp at h
  rw [if_pos hs] at h ⊢
  by_cases hc : checkLinesM a = 0
  rotate_left
  · rw [if_neg hc] at h; exact absurd h hc
  rw [if_pos hc] at h ⊢
  obtain ⟨hl60, hval⟩ := checkLinesM_ok hc
  obtain ⟨hs1, hs2, hs3, hs4, hs5, hs6⟩ := shOk_spec hs
  cases hw : writeM s a with
  | none => rw [hw] at h; simp at h
  | some rows =>
    simp only []
    have hw0 := hw
    unfold writeM at hw
    have hlw := linesW_len a
    split at hw
    · cases hw
    rename_i hfit
    simp only [Option.some.injEq] at hw
    obtain ⟨D, hD⟩ : ∃ D, D = s.data.toNat := ⟨_, rfl⟩
    obtain ⟨W, hW⟩ : ∃ W, W = s.width.toNat := ⟨_, rfl⟩
    rw [← hD, ← hW] at hw hfit
    obtain ⟨pad, hpad⟩ : ∃ p, p = padM D W a := ⟨_, rfl⟩
    rw [← hpad] at hw
    have hpl : pad.length = D * W := by rw [hpad, padM, List.length_append, List.length_replicate]; omega
    have hflat : rows.flatten = pad := by rw [← hw, chunks_flat _ _ _ (by omega), List.take_of_length_le (by omega)]
    have hpw : ∀ n ∈ pad, 0 ≤ n ∧ n ≤ 65520 := by
      intro n hn
      rw [hpad, padM] at hn
      rcases List.mem_append.1 hn with hn | hn
      · rcases List.mem_cons.1 hn with hn | hn
        · omega
        · obtain ⟨x, hx, hn⟩ := List.mem_flatMap.1 hn
          exact lineW_words (hval x hx) n hn
      · have := (List.mem_replicate.1 hn).2; omega
    have hdB : dataB s rows = true := by
      simp only [dataB, Bool.and_eq_true, decide_eq_true_eq, List.all_eq_true]
      refine ⟨by rw [← hw]; simp; omega, ?_⟩
      intro r hr
      rw [← hw] at hr
      obtain ⟨k, hk, rfl⟩ := List.mem_map.1 hr
      have hk := List.mem_range.1 hk
      have hkw : (k + 1) * W ≤ D * W := Nat.mul_le_mul_right _ hk
      rw [Nat.add_mul] at hkw
      refine ⟨by simp only [rowM, List.length_take, List.length_drop, hpl]; omega, ?_⟩
      refine List.all_eq_true.2 fun n hn => ?_
      have := hpw n (List.mem_of_mem_drop (List.mem_of_mem_take hn))
      simpa [wordB] using this
    have hhead : pad.headD 0 = (a.length : Int) := by rw [hpad]; rfl
    have hout : (List.range a.length).map (lineAt (pad.drop 1)) = a := by
      apply List.ext_getElem (by simp)
      intro i h1 h2
      rw [List.getElem_map, List.getElem_range]
      have hg : ∀ j, j < 7 → (pad.drop 1).getD (i * 7 + j) 0 = (lineW a[i]).getD j 0 := by
        intro j hj
        have hd : pad.drop 1 = a.flatMap lineW ++ List.replicate (D * W - (linesW a).length) 0 := by rw [hpad]; rfl
        have hlen : (a.flatMap lineW).length = 7 * a.length := by
          have := linesW_len a
          simp only [linesW, List.length_cons] at this; omega
        rw [hd, List.getD_eq_getElem?_getD, List.getElem?_append_left (by rw [hlen]; omega), flat_get lineW_len a i j h2 hj, ← List.getD_eq_getElem?_getD]
      unfold lineAt
      have h0 := hg 0 (by decide)
      rw [Nat.add_zero] at h0
      rw [h0, hg 1 (by decide), hg 2 (by decide), hg 3 (by decide), hg 4 (by decide), hg 5 (by decide), hg 6 (by decide)]
      exact lineOf_words (hval _ (List.getElem_mem h2))
    unfold ReadM
    rw [if_pos hs, if_pos hdB]
    simp only [hflat, hhead, hpl, Int.toNat_natCast, hout]
    rw [if_neg (by omega), if_pos hc, if_pos hw0]
/-! ### what is known -/
theorem filter_pre (d1 d2 : Int) (h : d1 ≤ d2) : ∀ S : List Line, S.Pairwise (fun x y => x.day ≤ y.day) →
    (S.filter fun x => decide (x.day ≤ d1)) = (S.filter fun x => decide (x.day ≤ d2)).take (S.filter fun x => decide (x.day ≤ d1)).length := by
  intro S
  induction S with
  | nil => intro _; rfl
  | cons x t ih =>
    intro hp
    obtain ⟨h1, h2⟩ := List.pairwise_cons.1 hp
    by_cases hx : x.day ≤ d1
    · rw [List.filter_cons_of_pos (by simpa using hx), List.filter_cons_of_pos (by simp; omega), List.length_cons, List.take_succ_cons, ← ih h2]
    · have hn : (x :: t).filter (fun x => decide (x.day ≤ d1)) = [] := by
        rw [List.filter_eq_nil_iff]
        intro y hy
        rcases List.mem_cons.1 hy with rfl | hy
        · simpa using hx
        · have := h1 y hy; simp; omega
      rw [hn]; rfl
theorem known_later {ls : List Line} {day d2 : Int} (h : (KnownM ls day).2 = 0) (h2 : day ≤ d2 ∧ d2 ≤ 728) :
    (KnownM ls d2).2 = 0 ∧ (KnownM ls day).1.length ≤ (KnownM ls d2).1.length ∧ (KnownM ls d2).1.take (KnownM ls day).1.length = (KnownM ls day).1 := by
  unfold KnownM at h ⊢
  by_cases hc : checkLinesM ls = 0
  rotate_left
  · rw [if_neg hc] at h; exact absurd h hc
  rw [if_pos hc] at h
  rw [if_pos hc, if_pos hc]
  by_cases hd : 0 ≤ day ∧ day ≤ 728
  rotate_left
  · rw [if_neg hd] at h; simp at h
  rw [if_pos hd, if_pos (by omega)]
  have hp := filter_pre day d2 h2.1 (sortLn ls) ((sortLn_sorted ls).imp fun {a b} hab => by have := (lineLe_iff a b).1 hab; omega)
  refine ⟨rfl, ?_, hp.symm⟩
  have := congrArg List.length hp
  rw [List.length_take] at this
  simp only []
  omega
/-! ### two lists -/
theorem forksU_nil {a b : List Line} (h : ∀ x ∈ a, ∀ y ∈ b, x.id = y.id → x = y) : forksU a b = [] := by
  unfold forksU
  rw [List.filterMap_eq_nil_iff]
  intro y hy
  cases hf : byId a y.id with
  | none => rfl
  | some z =>
    have h1 := List.find?_some hf
    have h2 := List.mem_of_find?_eq_some hf
    have := h z (by simpa using h2) y hy (by simpa using h1)
    simp [this]
theorem forks_comm {a b : List Line} (ha : OneId a) (hb : OneId b) (h : forksU a b = []) : forksU b a = [] := by
  have := oneId_append ha hb h
  exact forksU_nil fun x hx y hy he => this x (by simp [hx]) y (by simp [hy]) he
theorem forksM_length (a b : List Line) : (forksM a b).length = (forksU a b).length := by rw [forksM, sortI_length]
theorem sortLn_comm {a b : List Line} (h : OneId (a ++ b)) : sortLn (b ++ a) = sortLn (a ++ b) := by
  refine sortLn_eq h ((sortLn_perm _).trans List.perm_append_comm) (sortLn_sorted _)
theorem merge_eq {a b : List Line} (ha : checkLinesM a = 0) (hb : checkLinesM b = 0) : MergeM a b = if (forksM a b).length > 0 then ([], 9) else if 60 < (dedup (sortLn (a ++ b))).length then ([], 2) else (dedup (sortLn (a ++ b)), 0) := by
  unfold MergeM
  rw [if_neg (by rw [ha]; simp), if_neg (by rw [hb]; simp)]
theorem merge_comm {a b : List Line} (ha : checkLinesM a = 0) (hb : checkLinesM b = 0) : MergeM b a = MergeM a b := by
  have h1 := checkLinesM_one ha
  have h2 := checkLinesM_one hb
  rw [merge_eq ha hb, merge_eq hb ha, forksM_length, forksM_length]
  by_cases hf : forksU a b = []
  · rw [forks_comm h1 h2 hf, hf]
    rw [sortLn_comm (oneId_append h1 h2 hf)]
  · have hf2 : forksU b a ≠ [] := fun e => hf (forks_comm h2 h1 e)
    rw [if_pos (List.length_pos_iff.2 hf2), if_pos (List.length_pos_iff.2 hf)]
theorem mem_dedupG (x : Line) : ∀ (l : List Line) (p : Line), x ∈ p :: dedupG p l ↔ x ∈ p :: l := by
  intro l
  induction l with
  | nil => intro p; rfl
  | cons y t ih =>
    intro p
    rw [dedupG]
    by_cases h : y = p
    · subst h
      rw [if_pos rfl, ih]; simp
    · rw [if_neg h]
      have := ih y
      simp only [List.mem_cons] at this ⊢
      rw [this]
theorem mem_dedup (x : Line) (l : List Line) : x ∈ dedup l ↔ x ∈ l := by
  cases l with
  | nil => rfl
  | cons y t => exact mem_dedupG x t y
theorem dedupG_sub (l : List Line) : ∀ p, (dedupG p l).Sublist l := by
  induction l with
  | nil => intro p; exact List.Sublist.refl _
  | cons y t ih =>
    intro p
    rw [dedupG]
    split
    · exact (ih p).cons y
    · exact (ih y).cons_cons y
theorem dedup_sub (l : List Line) : (dedup l).Sublist l := by
  cases l with
  | nil => exact List.Sublist.refl _
  | cons y t => exact (dedupG_sub t y).cons_cons y
theorem dedupG_nodup : ∀ (l : List Line) (p : Line), OneId (p :: l) → (p :: l).Pairwise (fun a b => lineLe a b = true) → (p :: dedupG p l).Nodup := by
  intro l
  induction l with
  | nil => intro p _ _; simp [dedupG]
  | cons y t ih =>
    intro p h1 hp
    obtain ⟨hp1, hp2⟩ := List.pairwise_cons.1 hp
    rw [dedupG]
    by_cases h : y = p
    · subst h
      rw [if_pos rfl]
      exact ih y (fun a ha b hb => h1 a (by simp at ha ⊢; rcases ha with h | h <;> simp [h]) b (by simp at hb ⊢; rcases hb with h | h <;> simp [h])) hp2
    · rw [if_neg h]
      have h2 := ih y (fun a ha b hb => h1 a (List.mem_cons_of_mem _ ha) b (List.mem_cons_of_mem _ hb)) hp2
      refine List.nodup_cons.2 ⟨fun hm => ?_, h2⟩
      have hm' := (mem_dedupG p t y).1 hm
      obtain ⟨hy1, _⟩ := List.pairwise_cons.1 hp2
      rcases List.mem_cons.1 hm' with e | e
      · exact h e.symm
      · have e1 := hp1 y (by simp)
        have e2 := hy1 p e
        exact h (h1 y (by simp) p (by simp) (lineLe_anti e2 e1))
theorem dedup_nodup {l : List Line} (h1 : OneId l) (hp : l.Pairwise fun a b => lineLe a b = true) : (dedup l).Nodup := by
  cases l with
  | nil => simp [dedup]
  | cons y t => exact dedupG_nodup t y h1 hp
theorem oneId_perm {a b : List Line} (h : OneId a) (hm : ∀ x, x ∈ b → x ∈ a) : OneId b := fun x hx y hy he => h x (hm x hx) y (hm y hy) he
theorem checkG_zero {pre t : List Line} (hv : ∀ x ∈ t, validB x = true) (hn : ((pre ++ t).map (·.id)).Nodup) : checkG pre t = 0 := by
  induction t generalizing pre with
  | nil => rfl
  | cons a t ih =>
    rw [checkG, if_pos (hv a (by simp)), if_neg]
    · exact ih (fun x hx => hv x (by simp [hx])) (by simpa using hn)
    · intro h
      obtain ⟨y, hy, he⟩ := List.any_eq_true.1 h
      rw [List.map_append, List.nodup_append] at hn
      exact hn.2.2 y.id (List.mem_map_of_mem hy) a.id (by simp) (by simpa using he)
theorem ids_nodup {l : List Line} (h1 : OneId l) (hn : l.Nodup) : (l.map (·.id)).Nodup := by
  induction l with
  | nil => simp
  | cons a t ih =>
    obtain ⟨h2, h3⟩ := List.nodup_cons.1 hn
    rw [List.map_cons, List.nodup_cons]
    refine ⟨fun hm => ?_, ih (oneId_perm h1 (fun x hx => by simp [hx])) h3⟩
    obtain ⟨y, hy, he⟩ := List.mem_map.1 hm
    exact h2 (h1 y (by simp [hy]) a (by simp) he ▸ hy)
theorem merge_again {a b : List Line} (ha : checkLinesM a = 0) (hb : checkLinesM b = 0) (h : (MergeM a b).2 = 0) :
    MergeM (MergeM a b).1 b = ((MergeM a b).1, 0) ∧ (∀ x ∈ a, x ∈ (MergeM a b).1) ∧ ∀ x ∈ b, x ∈ (MergeM a b).1 := by
  have o1 := checkLinesM_one ha
  have o2 := checkLinesM_one hb
  obtain ⟨_, va⟩ := checkLinesM_ok ha
  obtain ⟨_, vb⟩ := checkLinesM_ok hb
  unfold MergeM at h
  rw [if_neg (by rw [ha]; simp), if_neg (by rw [hb]; simp)] at h
  split at h
  · simp at h
  rename_i hf
  split at h
  · simp at h
  rename_i h60
  have hm : (MergeM a b).1 = dedup (sortLn (a ++ b)) := by
    unfold MergeM
    rw [if_neg (by rw [ha]; simp), if_neg (by rw [hb]; simp), if_neg hf, if_neg h60]
  rw [hm]
  have hf0 : forksU a b = [] := forksM_nil (by omega)
  have hone := oneId_append o1 o2 hf0
  obtain ⟨m, hmd⟩ : ∃ m, m = dedup (sortLn (a ++ b)) := ⟨_, rfl⟩
  rw [← hmd] at h60 ⊢
  have hmem : ∀ x, x ∈ m ↔ x ∈ a ++ b := fun x => by rw [hmd, mem_dedup, (sortLn_perm _).mem_iff]
  have hmo : OneId m := oneId_perm hone fun x hx => (hmem x).1 hx
  have hsort : (sortLn (a ++ b)).Pairwise fun a b => lineLe a b = true := sortLn_sorted _
  have hmn : m.Nodup := by rw [hmd]; exact dedup_nodup (oneId_perm hone fun x hx => (sortLn_perm _).mem_iff.1 hx) hsort
  have hms : m.Pairwise fun a b => lineLe a b = true := by rw [hmd]; exact hsort.sublist (dedup_sub _)
  have hmc : checkLinesM m = 0 := by
    unfold checkLinesM
    rw [if_neg h60]
    refine checkG_zero (fun x hx => ?_) (by simpa using ids_nodup hmo hmn)
    rcases List.mem_append.1 ((hmem x).1 hx) with h | h
    · exact va x h
    · exact vb x h
  have hmb : OneId (m ++ b) := oneId_perm hone fun x hx => by
    rcases List.mem_append.1 hx with h | h
    · exact (hmem x).1 h
    · simp [h]
  have hfm : forksU m b = [] := forksU_nil fun x hx y hy he => hmb x (by simp [hx]) y (by simp [hy]) he
  have hfm2 : ¬ (forksM m b).length > 0 := by rw [forksM_length, hfm]; simp
  have hd : dedup (sortLn (m ++ b)) = m := by
    have hs2 : (sortLn (m ++ b)).Pairwise fun a b => lineLe a b = true := sortLn_sorted _
    have hn2 : (dedup (sortLn (m ++ b))).Nodup := dedup_nodup (oneId_perm hmb fun x hx => (sortLn_perm _).mem_iff.1 hx) hs2
    have hperm : (dedup (sortLn (m ++ b))).Perm m := (List.perm_ext_iff_of_nodup hn2 hmn).2 fun x => by
      rw [mem_dedup, (sortLn_perm _).mem_iff, List.mem_append]
      constructor
      · rintro (h | h)
        · exact h
        · exact (hmem x).2 (by simp [h])
      · exact .inl
    exact List.Perm.eq_of_pairwise (fun x y hx hy h1 h2 => hmo x (hperm.mem_iff.1 hx) y hy (lineLe_anti h1 h2)) (hs2.sublist (dedup_sub _)) hms hperm
  refine ⟨?_, fun x hx => (hmem x).2 (by simp [hx]), fun x hx => (hmem x).2 (by simp [hx])⟩
  unfold MergeM
  rw [if_neg (by rw [hmc]; simp), if_neg (by rw [hb]; simp), if_neg hfm2, hd, if_neg h60]
end Go.Proofs
