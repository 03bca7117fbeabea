/-
  L65: a part of the proof. By an AI agent.
-/
import Derived.Test.YtpeihahmhpamoaaGreatVQ
import Derived.Test.YtpeihahmhpamoaaGreatVJ
import Derived.Test.YtpeihahmhpamoaaGreatL53
import Derived.Test.YtpeihahmhpamoaaGreatL54
import Derived.Test.YtpeihahmhpamoaaGreatRows
set_option linter.all false
namespace Go.Proofs.YtpeihahmhpamoaaGreat
open Go.V Go.ChangeShapes Go.WideShapes Go.ChangeAt Go.RowKit
theorem own : ownKnob Tryz.prog.godebug = none := by kernel_rfl
theorem laidOut : laidOutB Tryz.prog = true := by kernel_rfl
theorem line_dec {H : Type} {enc : TypeId × Value → H} {w : World} {base : Nat} {spare : Nat → Bool} {held : Bool} (n : Nat) (cs : List Value) (y : DataW H × List MemPlace) (h : DataW.trod enc Tryz.prog w base spare held n 79 cs = some y) : ∃ x, lineC x = cs := by
  obtain ⟨xs, rfl, hl, _⟩ := trod_ints (P := Tryz.prog) Tryz.underlying79 (by kernel_rfl) (by kernel_rfl) h
  match xs, hl with
  | [a, b, c, d], _ => exact ⟨⟨a, b, c, d⟩, rfl⟩
theorem shape_dec {xs : List Int} (h : xs.length = 3) : ∃ s : Shape, (.agg (ints xs).toArray : Value) = shV s := by
  match xs, h with
  | [a, b, c], _ => exact ⟨⟨a, b, c⟩, rfl⟩
theorem bytes79 : Tryz.prog.bytesOf 79 = 32 := by kernel_rfl
theorem cells79 : Tryz.prog.cellsOf 79 = 4 := by kernel_rfl
theorem bytes47 : Tryz.prog.bytesOf 47 = 64 := by kernel_rfl
theorem cells47 : Tryz.prog.cellsOf 47 = 6 := by kernel_rfl
theorem cells3 : Tryz.prog.cellsOf 3 = 1 := by kernel_rfl
set_option maxRecDepth 100000 in
theorem step_dec {H : Type} {enc : TypeId × Value → H} {w : World} {base : Nat} {spare : Nat → Bool} {held : Bool} (n : Nat) (cs : List Value) (y : DataW H × List MemPlace) (h : DataW.trod enc Tryz.prog w base spare held n 47 cs = some y) : ∃ x, stC x = cs := by
  obtain ⟨ys, m, _, _, hl, hyl, hg⟩ := DataW.trod_struct Tryz.underlying47 h
  rw [cells47] at hl
  match cs, hl with
  | [a, b, c, d, e, r], _ =>
    have hy : ∀ i, i < 5 → ∃ z, ys[i]? = some z := fun i hi => ⟨_, List.getElem?_eq_getElem (by rw [hyl]; show i < 6; omega)⟩
    have hint : ∀ v, (∃ i z, i < 5 ∧ ys[i]? = some z ∧ DataW.trod enc Tryz.prog w base spare held m 3 [v] = ys[i]?) → ∃ k, v = Value.int .i64 k := by
      rintro v ⟨i, z, _, hz, hv⟩
      rw [hz] at hv
      obtain ⟨k, hk, _, _⟩ := DataW.trod_int Tryz.underlying3 hv
      simp only [List.cons.injEq, and_true] at hk
      exact ⟨k, hk⟩
    obtain ⟨k0, rfl⟩ := hint a (by obtain ⟨z, hz⟩ := hy 0 (by omega); exact ⟨0, z, by omega, hz, by have h := hg 0 _ rfl; change DataW.trod enc Tryz.prog w base spare held m 3 (List.take (Tryz.prog.cellsOf 3) (List.drop 0 _)) = _ at h; rw [cells3] at h; exact h⟩)
    obtain ⟨k1, rfl⟩ := hint b (by obtain ⟨z, hz⟩ := hy 1 (by omega); exact ⟨1, z, by omega, hz, by have h := hg 1 _ rfl; change DataW.trod enc Tryz.prog w base spare held m 3 (List.take (Tryz.prog.cellsOf 3) (List.drop 1 _)) = _ at h; rw [cells3] at h; exact h⟩)
    obtain ⟨k2, rfl⟩ := hint c (by obtain ⟨z, hz⟩ := hy 2 (by omega); exact ⟨2, z, by omega, hz, by have h := hg 2 _ rfl; change DataW.trod enc Tryz.prog w base spare held m 3 (List.take (Tryz.prog.cellsOf 3) (List.drop 2 _)) = _ at h; rw [cells3] at h; exact h⟩)
    obtain ⟨k3, rfl⟩ := hint d (by obtain ⟨z, hz⟩ := hy 3 (by omega); exact ⟨3, z, by omega, hz, by have h := hg 3 _ rfl; change DataW.trod enc Tryz.prog w base spare held m 3 (List.take (Tryz.prog.cellsOf 3) (List.drop 3 _)) = _ at h; rw [cells3] at h; exact h⟩)
    obtain ⟨k4, rfl⟩ := hint e (by obtain ⟨z, hz⟩ := hy 4 (by omega); exact ⟨4, z, by omega, hz, by have h := hg 4 _ rfl; change DataW.trod enc Tryz.prog w base spare held m 3 (List.take (Tryz.prog.cellsOf 3) (List.drop 4 _)) = _ at h; rw [cells3] at h; exact h⟩)
    exact ⟨⟨k0, k1, k2, k3, k4, r⟩, rfl⟩
theorem read5 : ∀ t ∈ Tryz.f5.params.toList, Tryz.prog.readableRec t = true ∧ t < Tryz.prog.types.size := by
  rw [Tryz.params5]
  intro t ht
  simp only [List.mem_cons, List.not_mem_nil, or_false] at ht
  rcases ht with rfl | rfl | rfl | rfl <;> exact ⟨by kernel_rfl, of_decide_eq_true (by kernel_rfl)⟩
set_option maxRecDepth 100000 in
theorem stored_lifted (os : Os) (started : os.Started) (H : Type) (enc : TypeId × Value → H) :
    ReturnsInHanded {} Tryz.checked os 5 .any (Rows.leavesStoredSpec.pre6 enc Tryz.prog Tryz.f5 Rows.leavesStoredRow.domain false) (Rows.leavesStoredSpec.post enc Tryz.prog Tryz.f5 false true false false) := by
  refine returnsInHanded_of_change_sized (C := Tryz.checked) own started (by kernel_rfl) Tryz.func5
    (ChangeSpec.witness6 (enc := enc) (C := Tryz.checked) false ⟨#[], #[.agg #[.int .i64 0, .int .i64 0, .int .i64 0], .int .i64 0, .slice none 0 0, .slice none 0 0], []⟩ 8 (by kernel_rfl) (by kernel_rfl) (by kernel_rfl) (by kernel_rfl)) ?_
  intro W base args ds gs before hval0 hW hcnd hsz0 _
  have hval : ∀ (j : Nat) t v, Tryz.f5.params[j]? = some t → args[j]? = some v → Value.okWide Tryz.prog W .any base t v := hval0
  have hsz : (DataW.weightsEach Tryz.prog (Tryz.f5.params.toList ++ Rows.leavesStoredSpec.plain.varTypes Tryz.prog) (ds ++ gs)).all (· ≤ reachBytes) = true := hsz0
  have hW' := hW
  obtain ⟨p, q, hA0, hV, rfl, hfz, hnd⟩ := hW
  have hA : DataW.TrodAll enc Tryz.prog W 0 (fun _ => true) true Tryz.f5.params.toList args.toList ds p := hA0
  rw [Tryz.params5] at hA hval hsz
  obtain ⟨v0, vs0, d0, ds0, p0, q0, hargs, rfl, rfl, h0, r0⟩ := trodAll_cons hA
  obtain ⟨v1, vs1, d1, ds1, p1, q1, rfl, rfl, rfl, h1, r1⟩ := trodAll_cons r0
  obtain ⟨v2, vs2, d2, ds2, p2, q2, rfl, rfl, rfl, h2, r2⟩ := trodAll_cons r1
  obtain ⟨v3, vs3, d3, ds3, p3, q3, rfl, rfl, rfl, h3, r3⟩ := trodAll_cons r2
  obtain ⟨rfl, rfl, rfl⟩ := trodAll_nil r3
  obtain rfl : args = #[v0, v1, v2, v3] := by cases args; simp_all
  obtain ⟨rfl, rfl⟩ := trodVars_none hV
  obtain ⟨xs0, rfl, hx0, _⟩ := open_ints (P := Tryz.prog) Tryz.underlying23 (by kernel_rfl) (by kernel_rfl) (hval 0 23 v0 rfl rfl) h0
  obtain ⟨s, hs⟩ := shape_dec hx0
  obtain ⟨copies, rfl, _, _, wd⟩ := open_int Tryz.underlying3 (hval 1 3 v1 rfl rfl) h1
  obtain ⟨ba, a, ca, rfl, hla, hra, hda⟩ := open_row (c := lineC) (sz := 4) (fun _ => rfl) (by decide) Tryz.underlying24 cells79 line_dec (hval 2 24 v2 rfl rfl) h2
  obtain ⟨bb, b, cb, rfl, hlb, hrb, hdb⟩ := open_row (c := stC) (sz := 6) (fun _ => rfl) (by decide) Tryz.underlying39 cells47 step_dec (hval 3 39 v3 rfl rfl) h3
  have na := row_len (row_bound hsz (j := 2) rfl rfl Tryz.underlying24 bytes79 (by decide) hda) (by decide)
  have nb := row_len (row_bound hsz (j := 3) rfl rfl Tryz.underlying39 bytes47 (by decide) hdb) (by decide)
  rw [hs]
  have hcall := (Tryz.LeavesStored stored_law s copies ba bb ca cb a b W hra hrb ⟨hla, na⟩ ⟨hlb, nb⟩).out
  refine hcall.mono fun e W' ⟨v, he, hv, hex⟩ => ?_
  subst hv
  refine ⟨_, he, ?_⟩
  rw [← hs]
  exact true_post (P := Tryz.prog) laidOut rfl rfl Tryz.underlying4 read5 rfl hW' hex
theorem stored_holds : Rows.LeavesStoredSaid :=
  OpenClaim.holds_of_wide 5 Tryz.f5 rfl rfl rfl rfl rfl rfl rfl ⟨rfl, rfl, rfl, rfl, rfl⟩ rfl rfl rfl rfl rfl (by kernel_rfl) Tryz.func5 (by kernel_rfl)
    (of_decide_eq_true (by kernel_rfl)) (by unfold Func.isWrapper; first | (rw [if_pos (by decide +kernel)]; kernel_rfl) | (rw [if_neg (by decide +kernel)]; exact ⟨rfl, rfl⟩))
    (fun os started H enc _ => stored_lifted os started H enc)
end Go.Proofs.YtpeihahmhpamoaaGreat
#print axioms Go.Proofs.YtpeihahmhpamoaaGreat.stored_holds
