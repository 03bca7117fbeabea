/-
  L35: a part of the proof. By an AI agent.
-/
import Derived.Test.YtpeihahmhpamoaaGreatVQ
import Derived.Test.YtpeihahmhpamoaaGreatV10
import Derived.Test.YtpeihahmhpamoaaGreatL34
set_option linter.all false
namespace Go.Proofs
open Go.V
open Go.RowKit (Below)
theorem known_day {ls : List Line} {day : Int} (h : (KnownM ls day).2 = 0) : 0 ≤ day ∧ day ≤ 728 := by
  unfold KnownM at h
  by_cases hc : checkLinesM ls = 0
  · rw [if_pos hc] at h
    by_cases hd : 0 ≤ day ∧ day ≤ 728
    · exact hd
    · rw [if_neg hd] at h; simp at h
  · rw [if_neg hc] at h; exact absurd h hc
theorem known_length (ls : List Line) (day : Int) : (KnownM ls day).1.length ≤ ls.length := by
  unfold KnownM
  split
  · split
    · have := List.length_filter_le (fun x => decide (x.day ≤ day)) (sortLn ls)
      rw [sortLn_length] at this; exact this
    · simp
  · simp
theorem merge_len {a b : List Line} (ha : checkLinesM a = 0) (hb : checkLinesM b = 0) (h : (MergeM a b).2 = 0) : (MergeM a b).1.length ≤ 60 := by
  rw [merge_eq ha hb] at h ⊢
  split at h
  · simp at h
  split at h
  · simp at h
  rename_i h1 h2
  rw [if_neg h1, if_neg h2]
  simp only []
  omega
theorem RunV.convInt {P : Program} {tb : Tb} (hok : TbOk P tb) {w : World} {s d : Nat} {ts td : TI} {k1 k2 kk : IntKind} {n : Int} {K : Value → World → Prop} (hs : tb.find s = some ts) (hd : tb.find d = some td) (h1 : ts.desc = .int k1) (h2 : td.desc = .int k2) (hk : K (.int k2 (k2.wrap n)) w) : RunV P (convert s d (.int kk n)) w K := by
  have hus := (Tb.find_ty hok hs).und
  have hud := (Tb.find_ty hok hd).und
  rw [h1] at hus; rw [h2] at hud
  exact ⟨_, w, by simp [convert, run_underlying hus, run_underlying hud, Conv.intToInt], hk⟩
set_option maxRecDepth 20000 in
set_option maxHeartbeats 2000000 in
theorem Tryz.LeavesBooks (s : Shape) (ba bb : Option Addr) (ca cb : Nat) (a b : List Line) (day later : Int) (w : World) (hra : Row w ba (rowC lineC a)) (hrb : Row w bb (rowC lineC b)) (hla : a.length ≤ ca ∧ a.length < 140737488355328) (hlb : b.length ≤ cb ∧ b.length < 140737488355328)
    (hday : -9223372036854775808 ≤ day ∧ day ≤ 9223372036854775807) (hlat : 0 ≤ later ∧ later ≤ 255) :
    CallA Tryz.prog 3 [shV s, .slice ba a.length ca, .slice bb b.length cb, .int .i64 day, .int .u8 later] w fun v w' => v = .bool true ∧ Ex w w' := by
  unfold shV
  refine callA_intro Tryz.tbOk Tryz.func3 rfl Tryz.ntmps3 Tryz.results3 (by decide) (by simp) ?_
  ((conv => whnf); repeat' (first | ((with_reducible first | refine q1 ?_ | refine q2 ?_); conv => whnf) | (with_reducible refine q3 ?_) | ((with_reducible refine q4 (fun _ => ?_) (fun _ => ?_)) <;> first | (exfalso; omega) | (conv => whnf)) | ((with_reducible first | refine q5 ?_ | refine q6 ?_ | refine q7 ?_ | refine q8 ?_ | refine q9 ?_ | refine q10 ?_ | refine q11 ?_ | refine q12 ?_ | refine q13 ?_ | refine q14 ?_ | refine q15 ?_); conv => whnf) | ((refine q16 (fun _ _ _ _ _ => ?_)); conv => whnf) | ((with_reducible first | refine q17 ?_ | refine q18 ?_ | refine q19 ?_ | refine q20 ?_); conv => whnf)))
  refine NewA.mk' fun w1 b5 hb5 hs5 he1 hB5 => ?_; ((conv => whnf); repeat' (first | ((with_reducible first | refine q1 ?_ | refine q2 ?_); conv => whnf) | (with_reducible refine q3 ?_) | ((with_reducible refine q4 (fun _ => ?_) (fun _ => ?_)) <;> first | (exfalso; omega) | (conv => whnf)) | ((with_reducible first | refine q5 ?_ | refine q6 ?_ | refine q7 ?_ | refine q8 ?_ | refine q9 ?_ | refine q10 ?_ | refine q11 ?_ | refine q12 ?_ | refine q13 ?_ | refine q14 ?_ | refine q15 ?_); conv => whnf) | ((refine q16 (fun _ _ _ _ _ => ?_)); conv => whnf) | ((with_reducible first | refine q17 ?_ | refine q18 ?_ | refine q19 ?_ | refine q20 ?_); conv => whnf)))
  refine CallA.mono (Tryz.head w1) ?_
  rintro v w2 ⟨rfl, he2⟩
  have hBs2 : Blk w2 b5 (shC s) 23 := hB5.ex he2
  have hex2 := he1.tr he2
  ((conv => whnf); repeat' (first | ((with_reducible first | refine q1 ?_ | refine q2 ?_); conv => whnf) | (with_reducible refine q3 ?_) | ((with_reducible refine q4 (fun _ => ?_) (fun _ => ?_)) <;> first | (exfalso; omega) | (conv => whnf)) | ((with_reducible first | refine q5 ?_ | refine q6 ?_ | refine q7 ?_ | refine q8 ?_ | refine q9 ?_ | refine q10 ?_ | refine q11 ?_ | refine q12 ?_ | refine q13 ?_ | refine q14 ?_ | refine q15 ?_); conv => whnf) | ((refine q16 (fun _ _ _ _ _ => ?_)); conv => whnf) | ((with_reducible first | refine q17 ?_ | refine q18 ?_ | refine q19 ?_ | refine q20 ?_); conv => whnf)))
  refine CallA.mono (Tryz.small1 s w2) ?_
  rintro v w3 ⟨rfl, he3⟩
  have hBs3 := hBs2.ex he3
  have hex3 := hex2.tr he3
  ((conv => whnf); repeat' (first | ((with_reducible first | refine q1 ?_ | refine q2 ?_); conv => whnf) | (with_reducible refine q3 ?_) | ((with_reducible refine q4 (fun _ => ?_) (fun _ => ?_)) <;> first | (exfalso; omega) | (conv => whnf)) | ((with_reducible first | refine q5 ?_ | refine q6 ?_ | refine q7 ?_ | refine q8 ?_ | refine q9 ?_ | refine q10 ?_ | refine q11 ?_ | refine q12 ?_ | refine q13 ?_ | refine q14 ?_ | refine q15 ?_); conv => whnf) | ((refine q16 (fun _ _ _ _ _ => ?_)); conv => whnf) | ((with_reducible first | refine q17 ?_ | refine q18 ?_ | refine q19 ?_ | refine q20 ?_); conv => whnf)))
  refine Br.var (fun hsm => ?_) (fun hsm => ?_)
  rotate_left
  · ((conv => whnf); repeat' (first | ((with_reducible first | refine q1 ?_ | refine q2 ?_); conv => whnf) | (with_reducible refine q3 ?_) | ((with_reducible refine q4 (fun _ => ?_) (fun _ => ?_)) <;> first | (exfalso; omega) | (conv => whnf)) | ((with_reducible first | refine q5 ?_ | refine q6 ?_ | refine q7 ?_ | refine q8 ?_ | refine q9 ?_ | refine q10 ?_ | refine q11 ?_ | refine q12 ?_ | refine q13 ?_ | refine q14 ?_ | refine q15 ?_); conv => whnf) | ((refine q16 (fun _ _ _ _ _ => ?_)); conv => whnf) | ((with_reducible first | refine q17 ?_ | refine q18 ?_ | refine q19 ?_ | refine q20 ?_); conv => whnf)))
    exact ⟨rfl, hex3⟩
  ((conv => whnf); repeat' (first | ((with_reducible first | refine q1 ?_ | refine q2 ?_); conv => whnf) | (with_reducible refine q3 ?_) | ((with_reducible refine q4 (fun _ => ?_) (fun _ => ?_)) <;> first | (exfalso; omega) | (conv => whnf)) | ((with_reducible first | refine q5 ?_ | refine q6 ?_ | refine q7 ?_ | refine q8 ?_ | refine q9 ?_ | refine q10 ?_ | refine q11 ?_ | refine q12 ?_ | refine q13 ?_ | refine q14 ?_ | refine q15 ?_); conv => whnf) | ((refine q16 (fun _ _ _ _ _ => ?_)); conv => whnf) | ((with_reducible first | refine q17 ?_ | refine q18 ?_ | refine q19 ?_ | refine q20 ?_); conv => whnf)))
  refine CallA.mono (Tryz.lines ba a.length ca w3) ?_
  rintro v w4 ⟨rfl, he4⟩
  have hBs4 := hBs3.ex he4
  have hex4 := hex3.tr he4
  ((conv => whnf); repeat' (first | ((with_reducible first | refine q1 ?_ | refine q2 ?_); conv => whnf) | (with_reducible refine q3 ?_) | ((with_reducible refine q4 (fun _ => ?_) (fun _ => ?_)) <;> first | (exfalso; omega) | (conv => whnf)) | ((with_reducible first | refine q5 ?_ | refine q6 ?_ | refine q7 ?_ | refine q8 ?_ | refine q9 ?_ | refine q10 ?_ | refine q11 ?_ | refine q12 ?_ | refine q13 ?_ | refine q14 ?_ | refine q15 ?_); conv => whnf) | ((refine q16 (fun _ _ _ _ _ => ?_)); conv => whnf) | ((with_reducible first | refine q17 ?_ | refine q18 ?_ | refine q19 ?_ | refine q20 ?_); conv => whnf)))
  refine Br.var (fun hla' => ?_) (fun hla' => ?_)
  rotate_left
  · ((conv => whnf); repeat' (first | ((with_reducible first | refine q1 ?_ | refine q2 ?_); conv => whnf) | (with_reducible refine q3 ?_) | ((with_reducible refine q4 (fun _ => ?_) (fun _ => ?_)) <;> first | (exfalso; omega) | (conv => whnf)) | ((with_reducible first | refine q5 ?_ | refine q6 ?_ | refine q7 ?_ | refine q8 ?_ | refine q9 ?_ | refine q10 ?_ | refine q11 ?_ | refine q12 ?_ | refine q13 ?_ | refine q14 ?_ | refine q15 ?_); conv => whnf) | ((refine q16 (fun _ _ _ _ _ => ?_)); conv => whnf) | ((with_reducible first | refine q17 ?_ | refine q18 ?_ | refine q19 ?_ | refine q20 ?_); conv => whnf)))
    exact ⟨rfl, hex4⟩
  ((conv => whnf); repeat' (first | ((with_reducible first | refine q1 ?_ | refine q2 ?_); conv => whnf) | (with_reducible refine q3 ?_) | ((with_reducible refine q4 (fun _ => ?_) (fun _ => ?_)) <;> first | (exfalso; omega) | (conv => whnf)) | ((with_reducible first | refine q5 ?_ | refine q6 ?_ | refine q7 ?_ | refine q8 ?_ | refine q9 ?_ | refine q10 ?_ | refine q11 ?_ | refine q12 ?_ | refine q13 ?_ | refine q14 ?_ | refine q15 ?_); conv => whnf) | ((refine q16 (fun _ _ _ _ _ => ?_)); conv => whnf) | ((with_reducible first | refine q17 ?_ | refine q18 ?_ | refine q19 ?_ | refine q20 ?_); conv => whnf)))
  refine CallA.mono (Tryz.lines bb b.length cb w4) ?_
  rintro v w5 ⟨rfl, he5⟩
  have hBs5 := hBs4.ex he5
  have hex5 := hex4.tr he5
  ((conv => whnf); repeat' (first | ((with_reducible first | refine q1 ?_ | refine q2 ?_); conv => whnf) | (with_reducible refine q3 ?_) | ((with_reducible refine q4 (fun _ => ?_) (fun _ => ?_)) <;> first | (exfalso; omega) | (conv => whnf)) | ((with_reducible first | refine q5 ?_ | refine q6 ?_ | refine q7 ?_ | refine q8 ?_ | refine q9 ?_ | refine q10 ?_ | refine q11 ?_ | refine q12 ?_ | refine q13 ?_ | refine q14 ?_ | refine q15 ?_); conv => whnf) | ((refine q16 (fun _ _ _ _ _ => ?_)); conv => whnf) | ((with_reducible first | refine q17 ?_ | refine q18 ?_ | refine q19 ?_ | refine q20 ?_); conv => whnf)))
  refine Br.var (fun hlb' => ?_) (fun hlb' => ?_)
  rotate_left
  · ((conv => whnf); repeat' (first | ((with_reducible first | refine q1 ?_ | refine q2 ?_); conv => whnf) | (with_reducible refine q3 ?_) | ((with_reducible refine q4 (fun _ => ?_) (fun _ => ?_)) <;> first | (exfalso; omega) | (conv => whnf)) | ((with_reducible first | refine q5 ?_ | refine q6 ?_ | refine q7 ?_ | refine q8 ?_ | refine q9 ?_ | refine q10 ?_ | refine q11 ?_ | refine q12 ?_ | refine q13 ?_ | refine q14 ?_ | refine q15 ?_); conv => whnf) | ((refine q16 (fun _ _ _ _ _ => ?_)); conv => whnf) | ((with_reducible first | refine q17 ?_ | refine q18 ?_ | refine q19 ?_ | refine q20 ?_); conv => whnf)))
    exact ⟨rfl, hex5⟩
  ((conv => whnf); repeat' (first | ((with_reducible first | refine q1 ?_ | refine q2 ?_); conv => whnf) | (with_reducible refine q3 ?_) | ((with_reducible refine q4 (fun _ => ?_) (fun _ => ?_)) <;> first | (exfalso; omega) | (conv => whnf)) | ((with_reducible first | refine q5 ?_ | refine q6 ?_ | refine q7 ?_ | refine q8 ?_ | refine q9 ?_ | refine q10 ?_ | refine q11 ?_ | refine q12 ?_ | refine q13 ?_ | refine q14 ?_ | refine q15 ?_); conv => whnf) | ((refine q16 (fun _ _ _ _ _ => ?_)); conv => whnf) | ((with_reducible first | refine q17 ?_ | refine q18 ?_ | refine q19 ?_ | refine q20 ?_); conv => whnf)))
  refine CallA.mono (Tryz.Write s ba ca a w5 (hra.ex hex5) hla.1 hla.2) ?_
  rintro v w6 ⟨v1, rfl, bd, cd, ssd, rfl, hSd, hRd, he6⟩
  have hBs6 := hBs5.ex he6
  have hex6 := hex5.tr he6
  ((conv => whnf); repeat' (first | ((with_reducible first | refine q1 ?_ | refine q2 ?_); conv => whnf) | (with_reducible refine q3 ?_) | ((with_reducible refine q4 (fun _ => ?_) (fun _ => ?_)) <;> first | (exfalso; omega) | (conv => whnf)) | ((with_reducible first | refine q5 ?_ | refine q6 ?_ | refine q7 ?_ | refine q8 ?_ | refine q9 ?_ | refine q10 ?_ | refine q11 ?_ | refine q12 ?_ | refine q13 ?_ | refine q14 ?_ | refine q15 ?_); conv => whnf) | ((refine q16 (fun _ _ _ _ _ => ?_)); conv => whnf) | ((with_reducible first | refine q17 ?_ | refine q18 ?_ | refine q19 ?_ | refine q20 ?_); conv => whnf)))
  rename_i hw0
  have hrw := read_write hw0
  refine CallA.mono (Tryz.Read s bd cd ssd w6 hSd) ?_
  rw [hRd, hrw]
  rintro v w7 ⟨b7, c7, rfl, ho7, he7⟩
  ((conv => whnf); repeat' (first | ((with_reducible first | refine q1 ?_ | refine q2 ?_); conv => whnf) | (with_reducible refine q3 ?_) | ((with_reducible refine q4 (fun _ => ?_) (fun _ => ?_)) <;> first | (exfalso; omega) | (conv => whnf)) | ((with_reducible first | refine q5 ?_ | refine q6 ?_ | refine q7 ?_ | refine q8 ?_ | refine q9 ?_ | refine q10 ?_ | refine q11 ?_ | refine q12 ?_ | refine q13 ?_ | refine q14 ?_ | refine q15 ?_); conv => whnf) | ((refine q16 (fun _ _ _ _ _ => ?_)); conv => whnf) | ((with_reducible first | refine q17 ?_ | refine q18 ?_ | refine q19 ?_ | refine q20 ?_); conv => whnf)))
  refine CallA.mono (Tryz.sameLines b7 ba c7 ca a a w7 ho7.row (hra.ex (hex6.tr he7)) hla.2) ?_
  rintro v w8 ⟨rfl, he8⟩
  rw [decide_eq_true (rfl : a = a)]
  have hexq := (hex6.tr he7).tr he8
  ((conv => whnf); repeat' (first | ((with_reducible first | refine q1 ?_ | refine q2 ?_); conv => whnf) | (with_reducible refine q3 ?_) | ((with_reducible refine q4 (fun _ => ?_) (fun _ => ?_)) <;> first | (exfalso; omega) | (conv => whnf)) | ((with_reducible first | refine q5 ?_ | refine q6 ?_ | refine q7 ?_ | refine q8 ?_ | refine q9 ?_ | refine q10 ?_ | refine q11 ?_ | refine q12 ?_ | refine q13 ?_ | refine q14 ?_ | refine q15 ?_); conv => whnf) | ((refine q16 (fun _ _ _ _ _ => ?_)); conv => whnf) | ((with_reducible first | refine q17 ?_ | refine q18 ?_ | refine q19 ?_ | refine q20 ?_); conv => whnf)))
  rotate_left
  have hexq := hex6
  rotate_left
  all_goals
    refine CallA.mono (Tryz.Known ba ca a day _ (hra.ex hexq) hla.1 hla.2) ?_
    rintro v w9 ⟨b9, c9, rfl, ho9, he9⟩
    have hexr := hexq.tr he9
    ((conv => whnf); repeat' (first | ((with_reducible first | refine q1 ?_ | refine q2 ?_); conv => whnf) | (with_reducible refine q3 ?_) | ((with_reducible refine q4 (fun _ => ?_) (fun _ => ?_)) <;> first | (exfalso; omega) | (conv => whnf)) | ((with_reducible first | refine q5 ?_ | refine q6 ?_ | refine q7 ?_ | refine q8 ?_ | refine q9 ?_ | refine q10 ?_ | refine q11 ?_ | refine q12 ?_ | refine q13 ?_ | refine q14 ?_ | refine q15 ?_); conv => whnf) | ((refine q16 (fun _ _ _ _ _ => ?_)); conv => whnf) | ((with_reducible first | refine q17 ?_ | refine q18 ?_ | refine q19 ?_ | refine q20 ?_); conv => whnf)))
    refine RunV.convInt (ts := ⟨.int .u8, 1, 1, some (.int .u8 0)⟩) (td := ⟨.int .i64, 1, 8, some (.int .i64 0)⟩) Tryz.tbOk rfl rfl rfl rfl ?_
    rw [wrap64_in (by omega : -9223372036854775808 ≤ later ∧ later ≤ 9223372036854775807)]
    ((conv => whnf); repeat' (first | ((with_reducible first | refine q1 ?_ | refine q2 ?_); conv => whnf) | (with_reducible refine q3 ?_) | ((with_reducible refine q4 (fun _ => ?_) (fun _ => ?_)) <;> first | (exfalso; omega) | (conv => whnf)) | ((with_reducible first | refine q5 ?_ | refine q6 ?_ | refine q7 ?_ | refine q8 ?_ | refine q9 ?_ | refine q10 ?_ | refine q11 ?_ | refine q12 ?_ | refine q13 ?_ | refine q14 ?_ | refine q15 ?_); conv => whnf) | ((refine q16 (fun _ _ _ _ _ => ?_)); conv => whnf) | ((with_reducible first | refine q17 ?_ | refine q18 ?_ | refine q19 ?_ | refine q20 ?_); conv => whnf)))
    refine ⟨?_⟩
    obtain ⟨d1, hd1⟩ : ∃ d1, d1 = IntKind.i64.wrap (day + later) := ⟨_, rfl⟩
    rw [← hd1]
    ((conv => whnf); repeat' (first | ((with_reducible first | refine q1 ?_ | refine q2 ?_); conv => whnf) | (with_reducible refine q3 ?_) | ((with_reducible refine q4 (fun _ => ?_) (fun _ => ?_)) <;> first | (exfalso; omega) | (conv => whnf)) | ((with_reducible first | refine q5 ?_ | refine q6 ?_ | refine q7 ?_ | refine q8 ?_ | refine q9 ?_ | refine q10 ?_ | refine q11 ?_ | refine q12 ?_ | refine q13 ?_ | refine q14 ?_ | refine q15 ?_); conv => whnf) | ((refine q16 (fun _ _ _ _ _ => ?_)); conv => whnf) | ((with_reducible first | refine q17 ?_ | refine q18 ?_ | refine q19 ?_ | refine q20 ?_); conv => whnf)))
    refine RunV.min ?_
    obtain ⟨d2, hd2⟩ : ∃ d2, d2 = (if d1 < 728 then d1 else 728) := ⟨_, rfl⟩
    rw [← hd2]
    ((conv => whnf); repeat' (first | ((with_reducible first | refine q1 ?_ | refine q2 ?_); conv => whnf) | (with_reducible refine q3 ?_) | ((with_reducible refine q4 (fun _ => ?_) (fun _ => ?_)) <;> first | (exfalso; omega) | (conv => whnf)) | ((with_reducible first | refine q5 ?_ | refine q6 ?_ | refine q7 ?_ | refine q8 ?_ | refine q9 ?_ | refine q10 ?_ | refine q11 ?_ | refine q12 ?_ | refine q13 ?_ | refine q14 ?_ | refine q15 ?_); conv => whnf) | ((refine q16 (fun _ _ _ _ _ => ?_)); conv => whnf) | ((with_reducible first | refine q17 ?_ | refine q18 ?_ | refine q19 ?_ | refine q20 ?_); conv => whnf)))
    refine CallA.mono (Tryz.Known ba ca a d2 _ (hra.ex hexr) hla.1 hla.2) ?_
    rintro v w10 ⟨b10, c10, rfl, ho10, he10⟩
    have hexs := hexr.tr he10
    have hlater : (KnownM a day).2 = 0 → (KnownM a d2).2 = 0 ∧ (KnownM a day).1.length ≤ (KnownM a d2).1.length ∧ (KnownM a d2).1.take (KnownM a day).1.length = (KnownM a day).1 := by
      intro h0
      have hdd : 0 ≤ day ∧ day ≤ 728 := known_day h0
      have h1 : d1 = day + later := by rw [hd1]; exact wrap64_in (by omega)
      exact known_later h0 (by rw [hd2]; split <;> omega)
    have ho9' := ho9.ex he10
    have hkl : (KnownM a day).1.length < 140737488355328 := Nat.lt_of_le_of_lt (known_length a day) hla.2
    have hmain : ∀ w, Ex w10 w → (KnownM a day).2 = 0 → ∀ b' c', Row w b' (rowC lineC ((KnownM a d2).1.take (KnownM a day).1.length)) → CallA Tryz.prog 11 [.slice b' (KnownM a day).1.length c', .slice b9 (KnownM a day).1.length c9] w fun v w' => v = .bool true ∧ Ex w w' := by
      intro w hw h0 b' c' hr
      rw [(hlater h0).2.2] at hr
      refine CallA.mono (Tryz.sameLines b' b9 c' c9 _ _ w hr (ho9'.ex hw).row hkl) ?_
      rintro v w' ⟨rfl, he⟩
      exact ⟨by rw [decide_eq_true (rfl : (KnownM a day).1 = (KnownM a day).1)], he⟩
    by_cases hk0 : (KnownM a day).2 = 0
    rotate_left
    have hexu := hexs
    ((conv => whnf); repeat' (first | ((with_reducible first | refine q1 ?_ | refine q2 ?_); conv => whnf) | (with_reducible refine q3 ?_) | ((with_reducible refine q4 (fun _ => ?_) (fun _ => ?_)) <;> first | (exfalso; omega) | (conv => whnf)) | ((with_reducible first | refine q5 ?_ | refine q6 ?_ | refine q7 ?_ | refine q8 ?_ | refine q9 ?_ | refine q10 ?_ | refine q11 ?_ | refine q12 ?_ | refine q13 ?_ | refine q14 ?_ | refine q15 ?_); conv => whnf) | ((refine q16 (fun _ _ _ _ _ => ?_)); conv => whnf) | ((with_reducible first | refine q17 ?_ | refine q18 ?_ | refine q19 ?_ | refine q20 ?_); conv => whnf)))
    rotate_left
    obtain ⟨hk1, hk2, hk3⟩ := hlater hk0
    have hle10 := ho10.le
    ((conv => whnf); repeat' (first | ((with_reducible first | refine q1 ?_ | refine q2 ?_); conv => whnf) | (with_reducible refine q3 ?_) | ((with_reducible refine q4 (fun _ => ?_) (fun _ => ?_)) <;> first | (exfalso; omega) | (conv => whnf)) | ((with_reducible first | refine q5 ?_ | refine q6 ?_ | refine q7 ?_ | refine q8 ?_ | refine q9 ?_ | refine q10 ?_ | refine q11 ?_ | refine q12 ?_ | refine q13 ?_ | refine q14 ?_ | refine q15 ?_); conv => whnf) | ((refine q16 (fun _ _ _ _ _ => ?_)); conv => whnf) | ((with_reducible first | refine q17 ?_ | refine q18 ?_ | refine q19 ?_ | refine q20 ?_); conv => whnf)))
    refine RunV.sliceRow (e := 79) (sz := 4) (by_ := 32) Tryz.tbOk rfl ho10.row 0 (KnownM a day).1.length c10 (KnownM a day).1.length (.inr ⟨rfl, rfl⟩) (.inl rfl) (.inr ⟨rfl, rfl⟩) (by simp) (by omega) (by omega) (by omega) fun b' c' hc' _ hrow' => ?_
    rw [Nat.zero_mul, List.drop_zero, rowC_take (sz := 4) (fun _ => rfl)] at hrow'
    ((conv => whnf); repeat' (first | ((with_reducible first | refine q1 ?_ | refine q2 ?_); conv => whnf) | (with_reducible refine q3 ?_) | ((with_reducible refine q4 (fun _ => ?_) (fun _ => ?_)) <;> first | (exfalso; omega) | (conv => whnf)) | ((with_reducible first | refine q5 ?_ | refine q6 ?_ | refine q7 ?_ | refine q8 ?_ | refine q9 ?_ | refine q10 ?_ | refine q11 ?_ | refine q12 ?_ | refine q13 ?_ | refine q14 ?_ | refine q15 ?_); conv => whnf) | ((refine q16 (fun _ _ _ _ _ => ?_)); conv => whnf) | ((with_reducible first | refine q17 ?_ | refine q18 ?_ | refine q19 ?_ | refine q20 ?_); conv => whnf)))
    refine CallA.mono (hmain _ (Ex.refl _) hk0 b' c' hrow') ?_
    rintro v w11 ⟨rfl, he11⟩
    have hexu := hexs.tr he11
    ((conv => whnf); repeat' (first | ((with_reducible first | refine q1 ?_ | refine q2 ?_); conv => whnf) | (with_reducible refine q3 ?_) | ((with_reducible refine q4 (fun _ => ?_) (fun _ => ?_)) <;> first | (exfalso; omega) | (conv => whnf)) | ((with_reducible first | refine q5 ?_ | refine q6 ?_ | refine q7 ?_ | refine q8 ?_ | refine q9 ?_ | refine q10 ?_ | refine q11 ?_ | refine q12 ?_ | refine q13 ?_ | refine q14 ?_ | refine q15 ?_); conv => whnf) | ((refine q16 (fun _ _ _ _ _ => ?_)); conv => whnf) | ((with_reducible first | refine q17 ?_ | refine q18 ?_ | refine q19 ?_ | refine q20 ?_); conv => whnf)))
    all_goals
      refine CallA.mono (Tryz.CheckLines ba ca a _ (hra.ex hexu) hla.1 hla.2) ?_
      rintro v w12 ⟨rfl, he12⟩
      have hexv := hexu.tr he12
      by_cases hca : checkLinesM a = 0
      rotate_left
      ((conv => whnf); repeat' (first | ((with_reducible first | refine q1 ?_ | refine q2 ?_); conv => whnf) | (with_reducible refine q3 ?_) | ((with_reducible refine q4 (fun _ => ?_) (fun _ => ?_)) <;> first | (exfalso; omega) | (conv => whnf)) | ((with_reducible first | refine q5 ?_ | refine q6 ?_ | refine q7 ?_ | refine q8 ?_ | refine q9 ?_ | refine q10 ?_ | refine q11 ?_ | refine q12 ?_ | refine q13 ?_ | refine q14 ?_ | refine q15 ?_); conv => whnf) | ((refine q16 (fun _ _ _ _ _ => ?_)); conv => whnf) | ((with_reducible first | refine q17 ?_ | refine q18 ?_ | refine q19 ?_ | refine q20 ?_); conv => whnf)))
      exact ⟨rfl, hexv⟩
      ((conv => whnf); repeat' (first | ((with_reducible first | refine q1 ?_ | refine q2 ?_); conv => whnf) | (with_reducible refine q3 ?_) | ((with_reducible refine q4 (fun _ => ?_) (fun _ => ?_)) <;> first | (exfalso; omega) | (conv => whnf)) | ((with_reducible first | refine q5 ?_ | refine q6 ?_ | refine q7 ?_ | refine q8 ?_ | refine q9 ?_ | refine q10 ?_ | refine q11 ?_ | refine q12 ?_ | refine q13 ?_ | refine q14 ?_ | refine q15 ?_); conv => whnf) | ((refine q16 (fun _ _ _ _ _ => ?_)); conv => whnf) | ((with_reducible first | refine q17 ?_ | refine q18 ?_ | refine q19 ?_ | refine q20 ?_); conv => whnf)))
      refine CallA.mono (Tryz.CheckLines bb cb b _ (hrb.ex hexv) hlb.1 hlb.2) ?_
      rintro v w13 ⟨rfl, he13⟩
      have hexw := hexv.tr he13
      by_cases hcb : checkLinesM b = 0
      rotate_left
      ((conv => whnf); repeat' (first | ((with_reducible first | refine q1 ?_ | refine q2 ?_); conv => whnf) | (with_reducible refine q3 ?_) | ((with_reducible refine q4 (fun _ => ?_) (fun _ => ?_)) <;> first | (exfalso; omega) | (conv => whnf)) | ((with_reducible first | refine q5 ?_ | refine q6 ?_ | refine q7 ?_ | refine q8 ?_ | refine q9 ?_ | refine q10 ?_ | refine q11 ?_ | refine q12 ?_ | refine q13 ?_ | refine q14 ?_ | refine q15 ?_); conv => whnf) | ((refine q16 (fun _ _ _ _ _ => ?_)); conv => whnf) | ((with_reducible first | refine q17 ?_ | refine q18 ?_ | refine q19 ?_ | refine q20 ?_); conv => whnf)))
      exact ⟨rfl, hexw⟩
      ((conv => whnf); repeat' (first | ((with_reducible first | refine q1 ?_ | refine q2 ?_); conv => whnf) | (with_reducible refine q3 ?_) | ((with_reducible refine q4 (fun _ => ?_) (fun _ => ?_)) <;> first | (exfalso; omega) | (conv => whnf)) | ((with_reducible first | refine q5 ?_ | refine q6 ?_ | refine q7 ?_ | refine q8 ?_ | refine q9 ?_ | refine q10 ?_ | refine q11 ?_ | refine q12 ?_ | refine q13 ?_ | refine q14 ?_ | refine q15 ?_); conv => whnf) | ((refine q16 (fun _ _ _ _ _ => ?_)); conv => whnf) | ((with_reducible first | refine q17 ?_ | refine q18 ?_ | refine q19 ?_ | refine q20 ?_); conv => whnf)))
      have hcomm := merge_comm hca hcb
      refine CallA.mono (Tryz.Merge ba bb ca cb a b _ (hra.ex hexw) (hrb.ex hexw) hla hlb) ?_
      rintro v w14 ⟨bm, cm, rfl, hom, he14⟩
      have hexx := hexw.tr he14
      ((conv => whnf); repeat' (first | ((with_reducible first | refine q1 ?_ | refine q2 ?_); conv => whnf) | (with_reducible refine q3 ?_) | ((with_reducible refine q4 (fun _ => ?_) (fun _ => ?_)) <;> first | (exfalso; omega) | (conv => whnf)) | ((with_reducible first | refine q5 ?_ | refine q6 ?_ | refine q7 ?_ | refine q8 ?_ | refine q9 ?_ | refine q10 ?_ | refine q11 ?_ | refine q12 ?_ | refine q13 ?_ | refine q14 ?_ | refine q15 ?_); conv => whnf) | ((refine q16 (fun _ _ _ _ _ => ?_)); conv => whnf) | ((with_reducible first | refine q17 ?_ | refine q18 ?_ | refine q19 ?_ | refine q20 ?_); conv => whnf)))
      refine CallA.mono (Tryz.Merge bb ba cb ca b a _ (hrb.ex hexx) (hra.ex hexx) hlb hla) ?_
      rw [hcomm]
      rintro v w15 ⟨bo, co, rfl, hoo, he15⟩
      have hexy := hexx.tr he15
      by_cases hm0 : (MergeM a b).2 = 0
      rotate_left
      ((conv => whnf); repeat' (first | ((with_reducible first | refine q1 ?_ | refine q2 ?_); conv => whnf) | (with_reducible refine q3 ?_) | ((with_reducible refine q4 (fun _ => ?_) (fun _ => ?_)) <;> first | (exfalso; omega) | (conv => whnf)) | ((with_reducible first | refine q5 ?_ | refine q6 ?_ | refine q7 ?_ | refine q8 ?_ | refine q9 ?_ | refine q10 ?_ | refine q11 ?_ | refine q12 ?_ | refine q13 ?_ | refine q14 ?_ | refine q15 ?_); conv => whnf) | ((refine q16 (fun _ _ _ _ _ => ?_)); conv => whnf) | ((with_reducible first | refine q17 ?_ | refine q18 ?_ | refine q19 ?_ | refine q20 ?_); conv => whnf)))
      exact ⟨rfl, hexy⟩
      obtain ⟨hag, hina, hinb⟩ := merge_again hca hcb hm0
      obtain ⟨m, hm⟩ : ∃ m, m = (MergeM a b).1 := ⟨_, rfl⟩
      have hm60 : m.length ≤ 60 := by rw [hm]; exact merge_len hca hcb hm0
      rw [← hm] at hom hoo hag hina hinb ⊢
      have hom15 := hom.ex he15
      ((conv => whnf); repeat' (first | ((with_reducible first | refine q1 ?_ | refine q2 ?_); conv => whnf) | (with_reducible refine q3 ?_) | ((with_reducible refine q4 (fun _ => ?_) (fun _ => ?_)) <;> first | (exfalso; omega) | (conv => whnf)) | ((with_reducible first | refine q5 ?_ | refine q6 ?_ | refine q7 ?_ | refine q8 ?_ | refine q9 ?_ | refine q10 ?_ | refine q11 ?_ | refine q12 ?_ | refine q13 ?_ | refine q14 ?_ | refine q15 ?_); conv => whnf) | ((refine q16 (fun _ _ _ _ _ => ?_)); conv => whnf) | ((with_reducible first | refine q17 ?_ | refine q18 ?_ | refine q19 ?_ | refine q20 ?_); conv => whnf)))
      refine CallA.mono (Tryz.Merge bm bb cm cb m b _ hom15.row (hrb.ex hexy) ⟨hom15.le, by omega⟩ hlb) ?_
      rw [hag]
      rintro v w16 ⟨bg, cg, rfl, hog, he16⟩
      have hexz := hexy.tr he16
      have hom16 := hom15.ex he16
      ((conv => whnf); repeat' (first | ((with_reducible first | refine q1 ?_ | refine q2 ?_); conv => whnf) | (with_reducible refine q3 ?_) | ((with_reducible refine q4 (fun _ => ?_) (fun _ => ?_)) <;> first | (exfalso; omega) | (conv => whnf)) | ((with_reducible first | refine q5 ?_ | refine q6 ?_ | refine q7 ?_ | refine q8 ?_ | refine q9 ?_ | refine q10 ?_ | refine q11 ?_ | refine q12 ?_ | refine q13 ?_ | refine q14 ?_ | refine q15 ?_); conv => whnf) | ((refine q16 (fun _ _ _ _ _ => ?_)); conv => whnf) | ((with_reducible first | refine q17 ?_ | refine q18 ?_ | refine q19 ?_ | refine q20 ?_); conv => whnf)))
      refine CallA.mono (Tryz.sameLines bm bo cm co m m _ hom16.row (hoo.ex he16).row (by omega)) ?_
      rintro v w17 ⟨rfl, he17⟩
      rw [decide_eq_true (rfl : m = m)]
      have hom17 := hom16.ex he17
      ((conv => whnf); repeat' (first | ((with_reducible first | refine q1 ?_ | refine q2 ?_); conv => whnf) | (with_reducible refine q3 ?_) | ((with_reducible refine q4 (fun _ => ?_) (fun _ => ?_)) <;> first | (exfalso; omega) | (conv => whnf)) | ((with_reducible first | refine q5 ?_ | refine q6 ?_ | refine q7 ?_ | refine q8 ?_ | refine q9 ?_ | refine q10 ?_ | refine q11 ?_ | refine q12 ?_ | refine q13 ?_ | refine q14 ?_ | refine q15 ?_); conv => whnf) | ((refine q16 (fun _ _ _ _ _ => ?_)); conv => whnf) | ((with_reducible first | refine q17 ?_ | refine q18 ?_ | refine q19 ?_ | refine q20 ?_); conv => whnf)))
      refine CallA.mono (Tryz.sameLines bg bm cg cm m m _ (hog.ex he17).row hom17.row (by omega)) ?_
      rintro v w18 ⟨rfl, he18⟩
      rw [decide_eq_true (rfl : m = m)]
      have hom18 := hom17.ex he18
      have hexz2 := (hexz.tr he17).tr he18
      ((conv => whnf); repeat' (first | ((with_reducible first | refine q1 ?_ | refine q2 ?_); conv => whnf) | (with_reducible refine q3 ?_) | ((with_reducible refine q4 (fun _ => ?_) (fun _ => ?_)) <;> first | (exfalso; omega) | (conv => whnf)) | ((with_reducible first | refine q5 ?_ | refine q6 ?_ | refine q7 ?_ | refine q8 ?_ | refine q9 ?_ | refine q10 ?_ | refine q11 ?_ | refine q12 ?_ | refine q13 ?_ | refine q14 ?_ | refine q15 ?_); conv => whnf) | ((refine q16 (fun _ _ _ _ _ => ?_)); conv => whnf) | ((with_reducible first | refine q17 ?_ | refine q18 ?_ | refine q19 ?_ | refine q20 ?_); conv => whnf)))
      refine CallA.mono (Tryz.allLines bm ba cm ca m a _ hom18.row (hra.ex hexz2) (by omega) hla.2) ?_
      rintro v w19 ⟨rfl, he19⟩
      rw [show (a.all fun y => decide (y ∈ m)) = true from List.all_eq_true.2 fun y hy => decide_eq_true (hina y hy)]
      have hexz3 := hexz2.tr he19
      ((conv => whnf); repeat' (first | ((with_reducible first | refine q1 ?_ | refine q2 ?_); conv => whnf) | (with_reducible refine q3 ?_) | ((with_reducible refine q4 (fun _ => ?_) (fun _ => ?_)) <;> first | (exfalso; omega) | (conv => whnf)) | ((with_reducible first | refine q5 ?_ | refine q6 ?_ | refine q7 ?_ | refine q8 ?_ | refine q9 ?_ | refine q10 ?_ | refine q11 ?_ | refine q12 ?_ | refine q13 ?_ | refine q14 ?_ | refine q15 ?_); conv => whnf) | ((refine q16 (fun _ _ _ _ _ => ?_)); conv => whnf) | ((with_reducible first | refine q17 ?_ | refine q18 ?_ | refine q19 ?_ | refine q20 ?_); conv => whnf)))
      refine CallA.mono (Tryz.allLines bm bb cm cb m b _ (hom18.ex he19).row (hrb.ex hexz3) (by omega) hlb.2) ?_
      rintro v w20 ⟨rfl, he20⟩
      rw [show (b.all fun y => decide (y ∈ m)) = true from List.all_eq_true.2 fun y hy => decide_eq_true (hinb y hy)]
      ((conv => whnf); repeat' (first | ((with_reducible first | refine q1 ?_ | refine q2 ?_); conv => whnf) | (with_reducible refine q3 ?_) | ((with_reducible refine q4 (fun _ => ?_) (fun _ => ?_)) <;> first | (exfalso; omega) | (conv => whnf)) | ((with_reducible first | refine q5 ?_ | refine q6 ?_ | refine q7 ?_ | refine q8 ?_ | refine q9 ?_ | refine q10 ?_ | refine q11 ?_ | refine q12 ?_ | refine q13 ?_ | refine q14 ?_ | refine q15 ?_); conv => whnf) | ((refine q16 (fun _ _ _ _ _ => ?_)); conv => whnf) | ((with_reducible first | refine q17 ?_ | refine q18 ?_ | refine q19 ?_ | refine q20 ?_); conv => whnf)))
      exact ⟨rfl, hexz3.tr he20⟩
end Go.Proofs
