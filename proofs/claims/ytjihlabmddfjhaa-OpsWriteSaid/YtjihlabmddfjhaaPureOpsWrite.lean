/- A text's words, done one by one on blank flash, write it: proved for every place and every text of at most 2^47 - 4096 bytes; no other condition. -/
import Derived.Test.YtjihlabmddfjhaaMAwake3
import Derived.Test.YtjihlabmddfjhaaPAllx3
import Derived.Test.YtjihlabmddfjhaaPAllx4
import Derived.Test.YtjihlabmddfjhaaPAllx5
import Derived.Test.YtjihlabmddfjhaaPAllx8
set_option linter.unnecessarySimpa false
set_option linter.unusedSimpArgs false
set_option linter.unusedVariables false
namespace Go.Proofs.Ytjihlabmddfjhaa.Pure
open Go.RowKit Go.Proofs.Ytjihlabmddfjhaa.Hand Go.Proofs.Ytjihlabmddfjhaa.PAll Go.Proofs.YtjihlabmddfjhaaW.PrintWords Go.Proofs.YtjihlabmddfjhaaW.PrintLast Go.Proofs.Ytjihlabmddfjhaa.M

theorem wf_I64 {n : Int} (h : (Lit.int .i64 n).wf = true) : I64 n := by
  simp [Lit.wf, IntKind.min, IntKind.max, IntKind.signed, IntKind.bits] at h
  omega
/-- The first m bytes of t stand from a on in a flash that is blank elsewhere. -/
def wrote (a : Nat) (t : ByteArray) (m : Nat) (F : ByteArray) : Prop := F.size = 768 ∧ ∀ i : Nat, i < 768 → bt F i = if a ≤ i ∧ i < a + m ∧ i - a < t.size then bt t ((i - a : Nat) : Int) else 255
theorem wrote_blank (a : Nat) (t : ByteArray) : wrote a t 0 (ff 768) := ⟨ff_size 768, fun i hi => by rw [ff_bt _ _ hi, if_neg (by omega)]⟩
theorem wrote_step (a : Nat) (t F : ByteArray) (j : Nat) (h : wrote a t (4 * j) F) (hj : 4 * j < t.size) (hr : a + t.size ≤ 768) (ha : a % 4 = 0) : wrote a t (4 * (j + 1)) (tornF F (a + 4 * j) (wordAt t j) 32) := by
  obtain ⟨h1, h2⟩ := h
  refine ⟨by rw [tornF_size _ _ _ _ (by omega)]; exact h1, fun i hi => ?_⟩
  rw [tornF_bt _ _ _ _ (by omega) i (by omega), h2 i hi]
  by_cases c : a + 4 * j ≤ i ∧ i < a + 4 * j + 4
  · rw [if_pos c, if_neg (by omega), tn32 _ (by omega), clr_blank _ (bt_u8 _ _).1 (bt_u8 _ _).2 8 rfl, wordAt_bt t j _ hj (by omega)]
    by_cases c2 : i - a < t.size
    · rw [if_pos (by omega), if_pos (by omega)]; congr 1; omega
    · rw [if_neg (by omega), if_neg (by omega)]
  · rw [if_neg c]
    by_cases c2 : a ≤ i ∧ i < a + 4 * j ∧ i - a < t.size
    · rw [if_pos c2, if_pos (by omega)]
    · rw [if_neg c2, if_neg (by omega)]
theorem write_go (a : Nat) (t : ByteArray) (ha : a % 4 = 0) (hr : a + t.size ≤ 768) (d : Nat) : ∀ (j : Nat) (F : ByteArray), j ≤ many t → many t - j = d → wrote a t (4 * j) F →
    Ev (fun k => skifflaw3_OpsWrite.l0 k (a : Int) t F (wl a t (many t)) (j : Int)) true := by
  induction d with
  | zero =>
    intro j F hj hd hF
    obtain rfl : j = many t := by omega
    obtain ⟨h1, h2⟩ := hF
    have hm : t.size ≤ 4 * many t := by unfold many; omega
    have w1 : wrap64 (768 - (a : Int)) = 768 - a := wrap_id (by omega)
    have w2 : wrap64 ((a : Int) + (t.size : Int)) = a + t.size := wrap_id (by omega)
    have n1 : ((a : Int) + (t.size : Int)).toNat = a + t.size := by omega
    have e1 : F.extract a (a + t.size) = t := by
      apply bt_ext
      · rw [ByteArray.size_extract]; omega
      · intro i hi
        rw [ByteArray.size_extract] at hi
        rw [bt_extract _ _ _ _ (by omega), h2 _ (by omega), if_pos (by omega)]; congr 1; omega
    have e2 : F.extract 0 a = (ff 768).extract 0 a := by
      apply bt_ext
      · rw [ByteArray.size_extract, ByteArray.size_extract, ff_size]; omega
      · intro i hi
        rw [ByteArray.size_extract] at hi
        rw [bt_extract _ _ _ _ (by omega), bt_extract _ _ _ _ (by rw [ff_size]; omega), h2 _ (by omega), ff_bt _ _ (by omega), if_neg (by omega)]
    have e3 : F.extract (a + t.size) F.size = (ff 768).extract (a + t.size) (ff 768).size := by
      apply bt_ext
      · rw [ByteArray.size_extract, ByteArray.size_extract, ff_size]; omega
      · intro i hi
        rw [ByteArray.size_extract] at hi
        rw [bt_extract _ _ _ _ (by omega), bt_extract _ _ _ _ (by rw [ff_size]; omega), h2 _ (by omega), ff_bt _ _ (by omega), if_neg (by omega)]
    have hfs := ff_size 768
    have hb := Blank_ev
    revert e2 e3 hfs hb
    generalize ff 768 = B
    intro e2 e3 hfs hb
    refine Ev.step (f := fun k => (skiffref1_Blank.f k).bind fun t418 => (if (a : Int) ≤ (t418.size : Int) then (if (F.extract 0 a).toList = (t418.extract 0 a).toList then ((skiffref1_Blank.f k).bind fun t419 => (if (a : Int) + (t.size : Int) ≤ (t419.size : Int) then (some ((F.extract (a + t.size) F.size).toList == (t419.extract (a + t.size) t419.size).toList)) else (none))) else (none)) else (none))) (fun k => ?_) ?_
    · simp only [skifflaw3_OpsWrite.l0]
      rw [if_neg (by rw [wl_length]; omega)]
      simp only [w1, w2, n1, Int.toNat_natCast]
      rw [if_pos (by omega), if_pos (by omega), if_pos (by omega), if_pos (by omega), if_pos (by omega), if_pos (by omega), if_pos (by rw [e1]), if_pos (by omega)]
      simp only [if_pos (show (0 : Int) ≤ (a : Int) + (t.size : Int) by omega)]
    · refine Ev.bind hb ?_
      have c1 : (a : Int) ≤ (B.size : Int) := by omega
      have c2 : (F.extract 0 a).toList = (B.extract 0 a).toList := by rw [e2]
      simp only [if_pos c1, if_pos c2]
      refine Ev.bind hb (Ev.always fun k => ?_)
      rw [if_pos (by omega), e3]
      simp
  | succ d ih =>
    intro j F hj hd hF
    have hlt : 4 * j < t.size := by unfold many at hd hj; omega
    have hok : cutOk F false ((a : Int) + 4 * (j : Int)) (wordAt t j) 96 := ⟨hF.1, by unfold opMay; rw [if_neg (by decide)]; exact decide_eq_true ⟨by omega, by omega, by omega, wordAt_size t j hlt⟩, by omega, by omega⟩
    have hdo := ops_Do_ev F false ((a : Int) + 4 * (j : Int)) (wordAt t j) (by omega)
    rw [cutV_ok hok, doF_false _ _ _ _ (a + 4 * j) 32 (by omega) rfl] at hdo
    have hF2 := wrote_step a t F j hF hlt hr ha
    have hi := ih (j + 1) _ (by omega) (by omega) hF2
    have hw : wrap64 ((j : Int) + 1) = ((j + 1 : Nat) : Int) := by rw [wrap_id (by omega)]; omega
    refine Ev.step (f := fun k => (ops_Do.f k F false ((a : Int) + 4 * (j : Int)) (wordAt t j)).bind fun bt421 => ((skifflaw0_Num.f bt421.2).bind fun t423 => (if t423 = 0 then (if (bt421.1.size : Int) = 768 then (skifflaw3_OpsWrite.l0 k (a : Int) t bt421.1 (wl a t (many t)) ((j + 1 : Nat) : Int)) else (none)) else (none)))) (fun k => ?_) ?_
    · simp only [skifflaw3_OpsWrite.l0]
      rw [if_pos (by rw [wl_length]; omega), if_pos (by omega), wl_rd _ _ _ _ (by omega), hw]
    · refine Ev.bind hdo ?_
      have c1 : ((tornF F (a + 4 * j) (wordAt t j) 32).size : Int) = 768 := by rw [hF2.1]; rfl
      simp only [num_eq, Option.bind_some, if_pos rfl, if_pos c1]
      exact hi
theorem OpsWrite : skifflaw3_OpsWrite.Pure := by
  intro a t ha ht
  have hI := wf_I64 ha
  refine Ev.rounds (g := fun k => skifflaw3_OpsWrite.f k a t) ?_
  unfold skifflaw3_OpsWrite.f
  refine Ev.bind awake3 ?_
  simp only [if_true]
  refine Ev.bind Blank_ev (Ev.bind (ops_Words_ev a t hI ht) ?_)
  unfold wordsV
  by_cases h : wordsOk a t
  · simp only [if_pos h, num_eq, Option.bind_some, if_true]
    obtain ⟨h0, h1, h2, h3⟩ := h
    obtain ⟨n, rfl⟩ := Int.eq_ofNat_of_zero_le h0
    exact write_go n t (by omega) (by omega) (many t) 0 (ff 768) (by omega) (by omega) (wrote_blank n t)
  · simp only [if_neg h, num_eq, Option.bind_some]
    exact Ev.always fun k => rfl
end Go.Proofs.Ytjihlabmddfjhaa.Pure
