/- Plain facts: what a step of flash makes of it, cut or whole, by the program and by the reference; no memory in sight. -/
import Derived.Test.YtjihlabmddfjhaaMOps
import Derived.Test.YtjihlabmddfjhaaPAllx4
import Derived.Test.YtjihlabmddfjhaaPAllx5
set_option linter.unnecessarySimpa false
set_option linter.unusedSimpArgs false
set_option linter.unusedVariables false
namespace Go.Proofs.Ytjihlabmddfjhaa.M
open Go.RowKit Go.Proofs.YtjihlabmddfjhaaW.PrintWords Go.Proofs.YtjihlabmddfjhaaW.PrintLast Go.Proofs.YtjihlabmddfjhaaW.PrintMore Go.Proofs.Ytjihlabmddfjhaa.Hand Go.Proofs.Ytjihlabmddfjhaa.PAll

/-- As much of a step as is told. -/
def doF (f : ByteArray) (e : Bool) (a : Int) (t : ByteArray) (cut : Int) : ByteArray := if e = true then wornF f (a.toNat / 96) cut.toNat else tornF f a.toNat t (mn cut 32)
def cutOk (f : ByteArray) (e : Bool) (a : Int) (t : ByteArray) (cut : Int) : Prop := f.size = 768 ∧ opMay e a t = true ∧ 0 ≤ cut ∧ cut ≤ 96
instance (f : ByteArray) (e : Bool) (a : Int) (t : ByteArray) (cut : Int) : Decidable (cutOk f e a t cut) := by unfold cutOk; exact inferInstance
def cutV (f : ByteArray) (e : Bool) (a : Int) (t : ByteArray) (cut : Int) : ByteArray × Int := if cutOk f e a t cut then (doF f e a t cut, 0) else (⟨#[]⟩, 300)
theorem opMay_true {a : Int} {t : ByteArray} (h : opMay true a t = true) : 0 ≤ a ∧ a ≤ 672 ∧ a % 96 = 0 ∧ t.size = 0 := by
  unfold opMay at h; rw [if_pos rfl] at h; exact of_decide_eq_true h
theorem opMay_false {a : Int} {t : ByteArray} (h : opMay false a t = true) : 0 ≤ a ∧ a ≤ 764 ∧ a % 4 = 0 ∧ t.size = 4 := by
  unfold opMay at h; rw [if_neg (by decide)] at h; exact of_decide_eq_true h
theorem mn32 (cut : Int) (h0 : 0 ≤ cut) : 0 ≤ mn cut 32 ∧ mn cut 32 ≤ 32 := by unfold mn; split <;> omega
theorem nor_Torn_eq (f : ByteArray) (a : Int) (t : ByteArray) (m : Int) (hf : f.size = 768) (ha : 0 ≤ a ∧ a ≤ 764 ∧ a % 4 = 0 ∧ t.size = 4) (h0 : 0 ≤ m) (h1 : m ≤ 32) : nor_Torn.f f a t m = some (tornF f a.toNat t m, 0) := by
  unfold nor_Torn.f
  rw [if_pos (by omega), if_pos (by omega), if_pos (by omega), if_pos (by rw [Int.tmod_eq_emod_of_nonneg ha.1]; exact ha.2.2.1), if_pos (by omega), if_neg (by omega), if_neg (by omega)]
theorem ref_Torn_eq (f : ByteArray) (a : Int) (t : ByteArray) (m : Int) (hf : f.size = 768) (ha : 0 ≤ a ∧ a ≤ 764 ∧ a % 4 = 0 ∧ t.size = 4) (h0 : 0 ≤ m) (h1 : m ≤ 32) : skiffref1_Torn.f f a t m = some (tornF f a.toNat t m, 0) := by
  unfold skiffref1_Torn.f
  rw [if_pos (by omega), if_pos (by omega), if_pos (by omega), if_pos (by rw [Int.tmod_eq_emod_of_nonneg ha.1]; exact ha.2.2.1), if_pos (by omega), if_pos (by omega), if_pos (by omega), rtornF_eq f a.toNat t m (by omega) h0 h1]
theorem ops_Cut_no (f : ByteArray) (e : Bool) (a : Int) (t : ByteArray) (cut : Int) : Ev (fun k => ops_Cut.j0 k f cut true e a t) (⟨#[]⟩, 300) :=
  Ev.one fun k => by simp only [ops_Cut.j0, if_true]
theorem ops_Cut_ev (f : ByteArray) (e : Bool) (a : Int) (t : ByteArray) (cut : Int) (ha : I64 a) : Ev (fun k => ops_Cut.f k f e a t cut) (cutV f e a t cut) := by
  unfold ops_Cut.f nor_May.f
  simp only [Option.bind_some, ops_May_eq e a t ha]
  by_cases h1 : f.size = 768
  · have e1 : ((f.size : Int) == 768) = true := by simp; omega
    simp only [e1, if_true]
    cases h2 : opMay e a t with
    | false =>
      simp only [Bool.false_eq_true, if_false]
      unfold cutV
      rw [if_neg (by unfold cutOk; rw [h2]; simp)]
      exact ops_Cut_no f e a t cut
    | true =>
      simp only [if_true]
      by_cases h3 : cut < 0
      · simp only [if_pos h3]
        unfold cutV
        rw [if_neg (by unfold cutOk; omega)]
        exact ops_Cut_no f e a t cut
      · simp only [if_neg h3]
        by_cases h4 : cut > 96
        · have e4 : decide (cut > 96) = true := by simpa using h4
          simp only [e4]
          unfold cutV
          rw [if_neg (by unfold cutOk; omega)]
          exact ops_Cut_no f e a t cut
        · have e4 : decide (cut > 96) = false := by simpa using h4
          simp only [e4]
          unfold cutV
          rw [if_pos ⟨h1, h2, by omega, by omega⟩]
          cases e with
          | true =>
            obtain ⟨m0, m1, m2, m3⟩ := opMay_true h2
            have hw : wrap64 (Int.tdiv a 96) = a / 96 := by rw [Int.tdiv_eq_ediv_of_nonneg m0]; exact wrap_id (by omega)
            refine Ev.step (f := fun k => (nor_Worn.f k f (a / 96) cut).bind fun bt345 => (some (bt345.1, 0))) (fun k => by simp only [ops_Cut.j0, Bool.false_eq_true, if_false, if_true, hw]) ?_
            refine Ev.bind (nor_Worn_ev f (a / 96) cut h1 (by omega) (by omega) (by omega) (by omega)) (Ev.always fun k => ?_)
            unfold doF
            rw [if_pos rfl, show (a / 96).toNat = a.toNat / 96 by omega]
          | false =>
            have hm := opMay_false h2
            have hc := mn32 cut (by omega)
            refine Ev.one fun k => ?_
            simp only [ops_Cut.j0, Bool.false_eq_true, if_false]
            rw [nor_Torn_eq f a t (mn cut 32) h1 hm hc.1 hc.2]
            rfl
  · have e1 : ((f.size : Int) == 768) = false := by simp; omega
    simp only [e1, Bool.false_eq_true, if_false]
    unfold cutV
    rw [if_neg (by unfold cutOk; omega)]
    exact ops_Cut_no f e a t cut
theorem ref_Cut_no (f : ByteArray) (e : Bool) (a : Int) (t : ByteArray) (cut : Int) : Ev (fun k => skiffref1_Cut.j0 k f cut true e a t) (⟨#[]⟩, 300) :=
  Ev.one fun k => by simp only [skiffref1_Cut.j0, if_true]
theorem ref_Cut_ev (f : ByteArray) (e : Bool) (a : Int) (t : ByteArray) (cut : Int) : Ev (fun k => skiffref1_Cut.f k f e a t cut) (cutV f e a t cut) := by
  unfold skiffref1_Cut.f skiffref1_FlashMay.f
  simp only [Option.bind_some, ref_OpMay_eq e a t, upTo_eq]
  by_cases h1 : f.size = 768
  · have e1 : ((f.size : Int) == 768) = true := by simp; omega
    simp only [e1, if_true]
    cases h2 : opMay e a t with
    | false =>
      simp only [Bool.false_eq_true, if_false]
      unfold cutV
      rw [if_neg (by unfold cutOk; rw [h2]; simp)]
      exact ref_Cut_no f e a t cut
    | true =>
      simp only [if_true]
      by_cases h4 : 0 ≤ cut ∧ cut ≤ 96
      · have e4 : decide (0 ≤ cut ∧ cut ≤ 96) = true := by simpa using h4
        simp only [e4, Bool.not_true]
        unfold cutV
        rw [if_pos ⟨h1, h2, h4.1, h4.2⟩]
        cases e with
        | true =>
          obtain ⟨m0, m1, m2, m3⟩ := opMay_true h2
          have hw : wrap64 (Int.tdiv a 96) = a / 96 := by rw [Int.tdiv_eq_ediv_of_nonneg m0]; exact wrap_id (by omega)
          refine Ev.step (f := fun k => (skiffref1_Worn.f k f (a / 96) cut).bind fun bt345 => (some (bt345.1, bt345.2))) (fun k => by simp only [skiffref1_Cut.j0, Bool.false_eq_true, if_false, if_true, hw]) ?_
          refine Ev.bind (ref_Worn_ev f (a / 96) cut h1 (by omega) (by omega) h4.1 h4.2) (Ev.always fun k => ?_)
          unfold doF
          rw [if_pos rfl, show (a / 96).toNat = a.toNat / 96 by omega]
        | false =>
          have hm := opMay_false h2
          have hc := mn32 cut h4.1
          refine Ev.one fun k => ?_
          simp only [skiffref1_Cut.j0, Bool.false_eq_true, if_false]
          rw [ref_Torn_eq f a t (mn cut 32) h1 hm hc.1 hc.2]
          rfl
      · have e4 : decide (0 ≤ cut ∧ cut ≤ 96) = false := decide_eq_false h4
        simp only [e4, Bool.not_false]
        unfold cutV
        rw [if_neg (by unfold cutOk; omega)]
        exact ref_Cut_no f e a t cut
  · have e1 : ((f.size : Int) == 768) = false := by simp; omega
    simp only [e1, Bool.false_eq_true, if_false]
    unfold cutV
    rw [if_neg (by unfold cutOk; omega)]
    exact ref_Cut_no f e a t cut
theorem ops_Do_ev (f : ByteArray) (e : Bool) (a : Int) (t : ByteArray) (ha : I64 a) : Ev (fun k => ops_Do.f k f e a t) (cutV f e a t 96) := by
  unfold ops_Do.f
  exact Ev.bind (ops_Cut_ev f e a t 96 ha) (Ev.always fun k => rfl)
theorem ref_Do_ev (f : ByteArray) (e : Bool) (a : Int) (t : ByteArray) : Ev (fun k => skiffref1_Do.f k f e a t) (cutV f e a t 96) := by
  unfold skiffref1_Do.f
  exact Ev.bind (ref_Cut_ev f e a t 96) (Ev.always fun k => rfl)
theorem Blank_ev : Ev (fun k => skiffref1_Blank.f k) (ff 768) := by
  unfold skiffref1_Blank.f
  exact Ev.bind (full_ev 768 (by omega) (by omega)) (Ev.always fun k => rfl)

/-! What is there behind a step. -/
theorem wornF_size (f : ByteArray) (s m : Nat) (h : s * 96 + m ≤ f.size) : (wornF f s m).size = f.size := sp_size f _ _ (by rw [ff_size]; exact h)
theorem wornF_bt (f : ByteArray) (s m : Nat) (h : s * 96 + m ≤ f.size) (i : Nat) (hi : i < f.size) : bt (wornF f s m) i = if s * 96 ≤ i ∧ i < s * 96 + m then 255 else bt f i := by
  unfold wornF
  rw [sp_bt f _ _ (by rw [ff_size]; exact h) i hi, ff_size]
  by_cases c : s * 96 ≤ i ∧ i < s * 96 + m
  · rw [if_pos c, if_pos c, ff_bt _ _ (by omega)]
  · rw [if_neg c, if_neg c]
theorem doF_size (f : ByteArray) (e : Bool) (a : Int) (t : ByteArray) (cut : Int) (h : cutOk f e a t cut) : (doF f e a t cut).size = 768 := by
  obtain ⟨h1, h2, h3, h4⟩ := h
  unfold doF
  cases e with
  | true => obtain ⟨m0, m1, m2, m3⟩ := opMay_true h2; rw [if_pos rfl, wornF_size _ _ _ (by omega)]; exact h1
  | false => obtain ⟨m0, m1, m2, m3⟩ := opMay_false h2; rw [if_neg (by decide), tornF_size _ _ _ _ (by omega)]; exact h1
/-- Which bytes a step reaches. -/
def width (e : Bool) : Nat := if e = true then 96 else 4
theorem doF_far (f : ByteArray) (e : Bool) (a : Int) (t : ByteArray) (cut : Int) (h : cutOk f e a t cut) (i : Nat) (hi : i < 768) (hn : ¬ (a ≤ (i : Int) ∧ (i : Int) < a + width e)) : bt (doF f e a t cut) i = bt f i := by
  obtain ⟨h1, h2, h3, h4⟩ := h
  unfold doF
  cases e with
  | true =>
    obtain ⟨m0, m1, m2, m3⟩ := opMay_true h2
    have : width true = 96 := rfl
    rw [if_pos rfl, wornF_bt _ _ _ (by omega) i (by omega), if_neg (by omega)]
  | false =>
    obtain ⟨m0, m1, m2, m3⟩ := opMay_false h2
    have : width false = 4 := rfl
    rw [if_neg (by decide), tornF_bt _ _ _ _ (by omega) i (by omega), if_neg (by omega)]
end Go.Proofs.Ytjihlabmddfjhaa.M
