/-
  V11: append where there is room; parts of rows that are held alone.
-/
import Derived.Test.YtpeihahmhpamoaaGreatVQ
set_option linter.all false
namespace Go.V
open Go
open Go.RowKit (Below)
/-! ### append where there is room; clear behind the end -/
theorem RunV.appendFit {P : Program} {tb : Tb} (hok : TbOk P tb) {w : World} {t ty e sz by_ g : Nat} {z : Option Value} {bx : Option Addr} {cap cx : Nat} {K : Value → World → Prop} {N n m : Nat} {cs news : List Value}
    (hown : Own w N e sz (some ⟨g, 0, none⟩) n cap cs) (hrow : Row w bx news) (he : elemOf tb t = some (e, sz, by_, z)) (hl : news.length = m * sz) (h0 : 0 < sz) (h1 : ∀ u ∈ news, one u = true) (hfit : n + m ≤ cap)
    (h : ∀ w', Own w' N e sz (some ⟨g, 0, none⟩) (n + m) cap (cs ++ news) → Upd w w' g → K (.slice (some ⟨g, 0, none⟩) (n + m) cap) w') :
    RunV P (Builtin.append_ #[t, t] ty #[.slice (some ⟨g, 0, none⟩) n cap, .slice bx m cx]) w K := by
  obtain ⟨hu, i, hi, e1, e2, e3⟩ := elemOf_spec hok he
  rcases hown.2 with ⟨hv, hn0⟩ | ⟨g', c2, cur, hv, hNg, hg, hnc, hcm, hcs, htake⟩
  · injection hv with h1; cases h1
  · injection hv with h2 h3 h4
    cases h2
    subst h4
    have hlen := hown.len
    have hle : n * sz + m * sz ≤ cap * sz := by rw [← Nat.add_mul]; exact Nat.mul_le_mul_right _ hfit
    have hcl : cur.toList.length = cap * sz := by simpa using hcs
    have hblk : Blk w g cur.toList e := by unfold Blk; simpa using hg
    obtain ⟨w', hst, hb', hup⟩ := run_storeCells (P := P) (b := g) (T := e) news (n * sz) 0 w cur.toList hblk (by rw [hl, hcl]; omega) h1
    have hst' : (storeCells ((⟨g, 0, none⟩ : Addr).add (n * i.size)) news).run P w = .ok () w' := by
      rw [addr_add, Nat.zero_add, e1]; exact hst
    have hr : (Builtin.append_ #[t, t] ty #[.slice (some ⟨g, 0, none⟩) n cap, .slice bx m cx]).run P w = .ok (.slice (some ⟨g, 0, none⟩) (n + m) cap) w' := by
      by_cases hne : news = []
      · have hm0 : m = 0 := by
          rw [hne] at hl
          simp only [List.length_nil] at hl
          rcases Nat.eq_zero_or_pos m with h | h
          · exact h
          · have := Nat.mul_pos h h0; omega
        subst hm0 hne
        simp [storeCells] at hst
        subst hst
        have hnc' : n ≤ cap := by omega
        cases bx <;> simp [Builtin.append_, run_underlying hu, sizeOf, typeInfo, hi, Builtin.lenOf, Builtin.firstCells, hnc', storeCells, loadCells, loadCellsFrom]
      · obtain ⟨b, o, hb, hc⟩ := hrow.at_ hne
        subst hb
        have hld : (loadCells ⟨b, o, none⟩ (m * i.size)).run P w = .ok news.toArray w := by
          rw [e1]; exact run_loadCells hl (fun j u hj => by rw [addr_add]; exact hc j u hj)
        simp [Builtin.append_, run_underlying hu, sizeOf, typeInfo, hi, Builtin.lenOf, Builtin.firstCells, hfit, hld, hst']
    refine ⟨_, _, hr, h w' ⟨?_, .inr ⟨g, cap, _, rfl, hNg, hb', hfit, hcm, ?_, ?_⟩⟩ hup⟩
    · rw [List.length_append, hl, hlen, Nat.add_mul]
    · simp only [List.size_toArray, List.length_append, List.length_take, List.length_drop, hl, hcl]; omega
    · simp only [Nat.add_zero]
      rw [htake, Nat.add_mul]
      rw [List.take_append_of_le_length (by rw [List.length_append, hl, hlen]; exact Nat.le_refl _), List.take_of_length_le (by rw [List.length_append, hl, hlen]; exact Nat.le_refl _)]
/-- so much of it as there is room for -/
theorem Own.extend {w : World} {N T sz g n cap : Nat} {cs : List Value} (h : Own w N T sz (some ⟨g, 0, none⟩) n cap cs) {m : Nat} (hn : n ≤ m) (hm : m ≤ cap) : ∃ ex, Own w N T sz (some ⟨g, 0, none⟩) m cap (cs ++ ex) := by
  rcases h.2 with ⟨hv, hn0⟩ | ⟨g', c2, cur, hv, hNg, hg, hnc, hcm, hcs, htake⟩
  · injection hv with h1; cases h1
  · injection hv with h2 h3 h4
    cases h2
    subst h4
    have hms : n * sz ≤ m * sz := Nat.mul_le_mul_right _ hn
    have hmc : m * sz ≤ cap * sz := Nat.mul_le_mul_right _ hm
    have hcl : cur.toList.length = cap * sz := by simpa using hcs
    have e : cs ++ (cur.toList.take (m * sz)).drop (n * sz) = cur.toList.take (m * sz) := by
      rw [← htake, show cur.toList.take (n * sz) = (cur.toList.take (m * sz)).take (n * sz) by rw [List.take_take, Nat.min_eq_left hms], List.take_append_drop]
    refine ⟨(cur.toList.take (m * sz)).drop (n * sz), ?_, .inr ⟨g, cap, cur, rfl, hNg, hg, hm, hcm, hcs, e.symm⟩⟩
    rw [e, List.length_take, hcl]; omega
theorem Own.prefix_ {w : World} {N T sz g n cap : Nat} {cs : List Value} (h : Own w N T sz (some ⟨g, 0, none⟩) n cap cs) {k : Nat} (hk : k ≤ n) : Own w N T sz (some ⟨g, 0, none⟩) k cap (cs.take (k * sz)) := by
  rcases h.2 with ⟨hv, hn0⟩ | ⟨g', c2, cur, hv, hNg, hg, hnc, hcm, hcs, htake⟩
  · injection hv with h1; cases h1
  · injection hv with h2 h3 h4
    cases h2
    subst h4
    have hks : k * sz ≤ n * sz := Nat.mul_le_mul_right _ hk
    refine ⟨by rw [List.length_take, h.1]; omega, .inr ⟨g, cap, cur, rfl, hNg, hg, by omega, hcm, hcs, ?_⟩⟩
    rw [← htake, List.take_take, Nat.min_eq_left hks]
end Go.V
