/- Plain facts: a step done twice, cut or whole; two steps in either row; no memory in sight. -/
import Derived.Test.YtjihlabmddfjhaaMAwake3
set_option linter.unnecessarySimpa false
set_option linter.unusedSimpArgs false
set_option linter.unusedVariables false
namespace Go.Proofs.Ytjihlabmddfjhaa.M
open Go.RowKit Go.Proofs.YtjihlabmddfjhaaW.PrintWords Go.Proofs.YtjihlabmddfjhaaW.PrintLast Go.Proofs.YtjihlabmddfjhaaW.PrintMore Go.Proofs.Ytjihlabmddfjhaa.Hand Go.Proofs.Ytjihlabmddfjhaa.PAll

theorem u64_wrap (x : Int) : IntKind.u64.wrap x = x % 18446744073709551616 := by simp [IntKind.wrap, IntKind.bits, IntKind.signed]
theorem wrap_mod (x : Int) (n : Int) (h0 : 0 < n) (h1 : n ≤ 1000) : wrap64 (Int.tmod (IntKind.u64.wrap x) n) = (x % 18446744073709551616) % n := by
  rw [u64_wrap, Int.tmod_eq_emod_of_nonneg (by omega)]
  have h2 : 0 ≤ (x % 18446744073709551616) % n := Int.emod_nonneg _ (by omega)
  have h3 : (x % 18446744073709551616) % n < n := Int.emod_lt_of_pos _ h0
  exact wrap_id (by omega)
/-- What byte i is behind a step hangs on what it was, alone. -/
theorem doF_local (f g : ByteArray) (e : Bool) (a : Int) (t : ByteArray) (cut : Int) (hf : cutOk f e a t cut) (hg : cutOk g e a t cut) (i : Nat) (hi : i < 768) (h : bt f i = bt g i) : bt (doF f e a t cut) i = bt (doF g e a t cut) i := by
  obtain ⟨h1, h2, h3, h4⟩ := hf
  have hg1 := hg.1
  unfold doF
  cases e with
  | true =>
    obtain ⟨m0, m1, m2, m3⟩ := opMay_true h2
    rw [if_pos rfl, if_pos rfl, wornF_bt _ _ _ (by omega) i (by omega), wornF_bt _ _ _ (by omega) i (by omega), h]
  | false =>
    obtain ⟨m0, m1, m2, m3⟩ := opMay_false h2
    rw [if_neg (by decide), if_neg (by decide), tornF_bt _ _ _ _ (by omega) i (by omega), tornF_bt _ _ _ _ (by omega) i (by omega), h]
theorem cutOk_doF {f : ByteArray} {e : Bool} {a : Int} {t : ByteArray} {cut : Int} (h : cutOk f e a t cut) {e2 : Bool} {a2 : Int} {t2 : ByteArray} {c2 : Int} (h2 : opMay e2 a2 t2 = true) (h3 : 0 ≤ c2) (h4 : c2 ≤ 96) : cutOk (doF f e a t cut) e2 a2 t2 c2 := ⟨doF_size f e a t cut h, h2, h3, h4⟩
theorem doF_zero (f : ByteArray) (e : Bool) (a : Int) (t : ByteArray) (h : cutOk f e a t 0) : doF f e a t 0 = f := by
  apply bt_ext
  · rw [doF_size _ _ _ _ _ h, h.1]
  · intro i hi
    rw [doF_size _ _ _ _ _ h] at hi
    obtain ⟨h1, h2, h3, h4⟩ := h
    unfold doF
    cases e with
    | true =>
      obtain ⟨m0, m1, m2, m3⟩ := opMay_true h2
      rw [if_pos rfl, wornF_bt _ _ _ (by show a.toNat / 96 * 96 + 0 ≤ _; omega) i (by omega), if_neg (by show ¬ (_ ∧ i < a.toNat / 96 * 96 + 0); omega)]
    | false =>
      obtain ⟨m0, m1, m2, m3⟩ := opMay_false h2
      have h0 : mn 0 32 = 0 := rfl
      rw [if_neg (by decide), h0, tornF_bt _ _ _ _ (by omega) i (by omega)]
      by_cases c : a.toNat ≤ i ∧ i < a.toNat + 4
      · rw [if_pos c, show tn 0 (i - a.toNat) = 0 by rw [tn_eq _ _ (by omega)]; omega, clr_zero]
      · rw [if_neg c]
theorem doF_again (f : ByteArray) (e : Bool) (a : Int) (t : ByteArray) (cut : Int) (h : cutOk f e a t cut) : doF (doF f e a t cut) e a t 96 = doF f e a t 96 := by
  have hb : cutOk (doF f e a t cut) e a t 96 := cutOk_doF h h.2.1 (by omega) (by omega)
  have ha : cutOk f e a t 96 := ⟨h.1, h.2.1, by omega, by omega⟩
  apply bt_ext
  · rw [doF_size _ _ _ _ _ hb, doF_size _ _ _ _ _ ha]
  · intro i hi
    rw [doF_size _ _ _ _ _ hb] at hi
    by_cases c : a ≤ (i : Int) ∧ (i : Int) < a + width e
    · obtain ⟨h1, h2, h3, h4⟩ := h
      have hs := hb.1
      unfold doF at hs ⊢
      cases e with
      | true =>
        obtain ⟨m0, m1, m2, m3⟩ := opMay_true h2
        have : width true = 96 := rfl
        rw [if_pos rfl] at hs
        simp only [if_true] at hs ⊢
        have h96 : (96 : Int).toNat = 96 := rfl
        rw [h96] at *
        have c2 : a.toNat / 96 * 96 ≤ i ∧ i < a.toNat / 96 * 96 + 96 := by omega
        rw [wornF_bt (wornF f (a.toNat / 96) cut.toNat) (a.toNat / 96) 96 (by omega) i (by omega), if_pos c2, wornF_bt f (a.toNat / 96) 96 (by omega) i (by omega), if_pos c2]
      | false =>
        obtain ⟨m0, m1, m2, m3⟩ := opMay_false h2
        have : width false = 4 := rfl
        rw [if_neg (by decide)] at hs
        simp only [Bool.false_eq_true, if_false] at hs ⊢
        have hc := mn32 cut h3
        have h32 : mn 96 32 = 32 := rfl
        rw [h32, tornF_bt _ _ _ _ (by omega) i (by omega), tornF_bt f _ _ 32 (by omega) i (by omega), tornF_bt f _ _ (mn cut 32) (by omega) i (by omega)]
        have c2 : a.toNat ≤ i ∧ i < a.toNat + 4 := by omega
        rw [if_pos c2, if_pos c2, if_pos c2]
        exact clr_again _ _ (bt_u8 _ _).1 (bt_u8 _ _).2 (bt_u8 _ _).1 (bt_u8 _ _).2 _ _ (by rw [tn_eq _ _ hc.1, tn_eq _ _ (by omega)]; omega) (tn_le _ _)
    · rw [doF_far _ _ _ _ _ hb i hi c, doF_far _ _ _ _ _ h i hi c, doF_far _ _ _ _ _ ha i hi c]
theorem doF_comm (f : ByteArray) (e1 : Bool) (a1 : Int) (t1 : ByteArray) (e2 : Bool) (a2 : Int) (t2 : ByteArray) (h1 : cutOk f e1 a1 t1 96) (h2 : cutOk f e2 a2 t2 96) (hn : ¬ (a1 < a2 + width e2 ∧ a2 < a1 + width e1)) :
    doF (doF f e1 a1 t1 96) e2 a2 t2 96 = doF (doF f e2 a2 t2 96) e1 a1 t1 96 := by
  have k1 : cutOk (doF f e1 a1 t1 96) e2 a2 t2 96 := cutOk_doF h1 h2.2.1 (by omega) (by omega)
  have k2 : cutOk (doF f e2 a2 t2 96) e1 a1 t1 96 := cutOk_doF h2 h1.2.1 (by omega) (by omega)
  apply bt_ext
  · rw [doF_size _ _ _ _ _ k1, doF_size _ _ _ _ _ k2]
  · intro i hi
    rw [doF_size _ _ _ _ _ k1] at hi
    by_cases c1 : a1 ≤ (i : Int) ∧ (i : Int) < a1 + width e1
    · have c2 : ¬ (a2 ≤ (i : Int) ∧ (i : Int) < a2 + width e2) := by omega
      rw [doF_far _ _ _ _ _ k1 i hi c2]
      exact doF_local _ _ _ _ _ _ h1 k2 i hi (doF_far _ _ _ _ _ h2 i hi c2).symm
    · rw [doF_far _ _ _ _ _ k2 i hi c1]
      exact doF_local _ _ _ _ _ _ k1 h2 i hi (doF_far _ _ _ _ _ h1 i hi c1)
end Go.Proofs.Ytjihlabmddfjhaa.M
