/-
  VQ: the rules of the walk under short names, their side conditions found by tactics.
-/
import Derived.Test.YtpeihahmhpamoaaGreatV10
set_option linter.all false
namespace Go.V
open Go
variable {P : Program} {tb : Tb}
theorem q1 {A B : Prop} (h : A) : Br true A B := Br.tt h
theorem q2 {A B : Prop} (h : B) : Br false A B := Br.ff h
theorem q3 {b : Bool} {A B : Prop} (h : Br b B A) : Br (!b) A B := Br.not h
theorem q4 {p : Prop} [Decidable p] {A B : Prop} (h : p → A) (h' : ¬ p → B) : Br (decide p) A B := Br.dec h h'
theorem q5 {z : Int} {K : Int → Prop} (hk : K z) (h : -9223372036854775808 ≤ z ∧ z ≤ 9223372036854775807 := by omega) : WrA z K := WrA.inr h hk
theorem q6 {a b : Int} {K : Int → Prop} (hk : K (a / b)) (ha : 0 ≤ a ∧ a ≤ 9223372036854775807 := by omega) (hb : 0 < b := by omega) : DivA a b K := DivA.nn ha hb hk
theorem q7 {a b : Int} {K : Int → Prop} (hk : K (a % b)) (ha : 0 ≤ a := by omega) (hb : 0 < b := by omega) : RemA a b K := RemA.nn ha hb hk
theorem q8 {a b : Int} {K : Int → Prop} (hk : K (-((-a) % b))) (ha : a ≤ 0 := by omega) (hb : 0 < b := by omega) : RemA a b K := RemA.np ha hb hk
theorem q9 {l : List Value} {n : Nat} {A : Prop} (a : A) (h : l.length = n := by with_unfolding_all exact rfl) : LenA l n A := ⟨h, a⟩
theorem q10 {w : World} {a : Addr} {K : Value → Prop} {v : Value} (hk : K v) (h : w.cell? a = some v := by assumption) : Load1 w a K := Load1.mk' h hk
theorem q11 {w : World} {b j : Nat} {cs : List Value} {T : TypeId} {K : Value → Prop} {v : Value} (hk : K v) (h : Blk w b cs T := by assumption) (hj : cs[j]? = some v := by with_unfolding_all exact rfl) : Load1 w ⟨b, j, none⟩ K := Load1.blk h hj hk
theorem q12 {w : World} {b n : Nat} {cs : List Value} {T : TypeId} {K : List Value → Prop} (hk : K cs) (h : Blk w b cs T := by assumption) (hl : cs.length = n := by with_unfolding_all exact rfl) : LoadN P w ⟨b, 0, none⟩ n K := LoadN.blk h hl hk
theorem q13 {w : World} {a : Addr} {K : Value → Prop} {v : Value} (hk : K v) (h : w.cell? a = some v := by assumption) : Hold1 (fun u => Ex w u) a K := Hold1.mk' h (fun _ h => h) hk
theorem q14 {w : World} {b j : Nat} {cs : List Value} {T : TypeId} {K : Value → Prop} {v : Value} (hk : K v) (h : Blk w b cs T := by assumption) (hj : cs[j]? = some v := by with_unfolding_all exact rfl) : Hold1 (fun u => Ex w u) ⟨b, j, none⟩ K := Hold1.blk h hj (fun _ h => h) hk
theorem q15 {w : World} {b c j : Nat} {cs : List Value} {T : TypeId} {K : Value → Prop} {v : Value} (hk : K v) (h : Blk w c cs T := by assumption) (hj : cs[j]? = some v := by with_unfolding_all exact rfl) (hne : c ≠ b := by omega) : Hold1 (fun u => w.grownBy u (some b)) ⟨c, j, none⟩ K := Hold1.but h hj hne hk
theorem q16 {base : Option Addr} {i : Int} {n : Nat} {w : World} {xs : List Int} {k : Nat} {K : Addr → Prop} (f : ∀ b o, base = some ⟨b, o, none⟩ → ∀ h : k < xs.length, w.cell? ⟨b, o + k, none⟩ = some (.int .i64 xs[k]) → K ⟨b, o + k, none⟩) (h : Row w base (ints xs) := by assumption) (hl : n = xs.length := by with_unfolding_all exact rfl) (hi : i = (k : Int) := by with_unfolding_all exact rfl) (hk : k < xs.length := by omega) : IdxA base i n 1 K :=
  IdxA.ints h hl k hi hk fun b o hb hc => f b o hb hk hc
theorem q17 {b o m n sz : Nat} {K : Addr → Prop} (k : K ⟨b, o + m * sz, none⟩) (h : m < n := by decide) : IdxA (some ⟨b, o, none⟩) (@OfNat.ofNat Int m instOfNat) n sz K := IdxA.lit h k
theorem q18 {M : List Nat} {n : Nat} {fx : Ov} {S : List Nat} {σ : Env} {R : List Value → Prop} {a : List Deferred} (k : getsK σ S R) (h1 : σ.n = n := by with_unfolding_all exact rfl) (h2 : σ.fx = fx := by with_unfolding_all exact rfl) (h3 : subB σ.ov M = true := by with_unfolding_all exact rfl) : a = a ∧ EndR M n fx S σ R := ⟨rfl, EndR.mk h1 h2 h3 k⟩
theorem q19 {a : Ov} {A : Prop} (h : A) : FxEq a a A := FxEq.mk rfl h
theorem q20 {a b : Nat} {A : Prop} (k : A) (h : Nat.ble a b = true := by with_unfolding_all exact rfl) : a ≤ b ∧ A := ⟨Nat.le_of_ble_eq_true h, k⟩
end Go.V
