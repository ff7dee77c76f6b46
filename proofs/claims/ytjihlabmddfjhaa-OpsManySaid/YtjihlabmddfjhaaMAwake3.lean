/- Plain facts: what every program answers that is one, of package ops; no memory in sight. -/
import Derived.Test.YtjihlabmddfjhaaPAllx0
import Derived.Test.YtjihlabmddfjhaaPAllx3
import Derived.Test.YtjihlabmddfjhaaPAllx5
import Derived.Test.YtjihlabmddfjhaaPAllx6
import Derived.Test.YtjihlabmddfjhaaMWords
import Derived.KernelRfl
set_option linter.unnecessarySimpa false
set_option linter.unusedSimpArgs false
set_option linter.unusedVariables false
namespace Go.Proofs.Ytjihlabmddfjhaa.M
open Go.RowKit Go.Proofs.YtjihlabmddfjhaaW.PrintWords Go.Proofs.YtjihlabmddfjhaaW.PrintLast Go.Proofs.YtjihlabmddfjhaaW.PrintMore Go.Proofs.Ytjihlabmddfjhaa.Hand Go.Proofs.Ytjihlabmddfjhaa.PAll

theorem cutV_ok {f : ByteArray} {e : Bool} {a : Int} {t : ByteArray} {cut : Int} (h : cutOk f e a t cut) : cutV f e a t cut = (doF f e a t cut, 0) := by unfold cutV; rw [if_pos h]
theorem cutV_no {f : ByteArray} {e : Bool} {a : Int} {t : ByteArray} {cut : Int} (h : ¬ cutOk f e a t cut) : cutV f e a t cut = (⟨#[]⟩, 300) := by unfold cutV; rw [if_neg h]
def e4 : ByteArray := ⟨#[101, 255, 255, 255]⟩
def awOs : List S35 := [⟨false, 8, ⟨#[97, 98, 99, 100]⟩⟩, ⟨false, 12, e4⟩]
theorem aw_words : wordsV 8 ⟨#[97, 98, 99, 100, 101]⟩ = (awOs, 0) := by kernel_rfl
theorem aw_words6 : wordsV 6 ⟨#[97, 98, 99, 100]⟩ = ([], 300) := by kernel_rfl
theorem aw_ok (cut : Int) (h0 : 0 ≤ cut) (h1 : cut ≤ 96) : cutOk (ff 768) false 12 e4 cut := ⟨ff_size 768, by decide, h0, h1⟩
theorem aw_same : Ev (fun k => skifflaw0_SameOps.f k awOs [⟨false, 8, ⟨#[97, 98, 99, 100]⟩⟩, ⟨false, 12, ⟨#[101, 255, 255, 255]⟩⟩]) true :=
  Ev.of (fun k => skifflaw0_SameOps.mono _ _ _) (k := 5) (by kernel_rfl)
theorem aw_torn (i : Nat) (hi : i < 768) (m : Int) : bt (tornF (ff 768) 12 e4 m) i = if 12 ≤ i ∧ i < 12 + 4 then clr 255 (bt e4 ((i - 12 : Nat) : Int)) (tn m (i - 12)) else 255 := by
  rw [tornF_bt _ _ _ _ (by rw [ff_size]; omega) i (by rw [ff_size]; exact hi), ff_bt _ _ hi]
theorem tn32 (j : Nat) (h : j < 4) : tn 32 j = 8 := by rw [tn_eq _ _ (by omega)]; omega
theorem aw_a : (tornF (ff 768) 12 e4 32).extract 12 16 = e4 := by
  apply bt_ext
  · rw [ByteArray.size_extract, tornF_size _ _ _ _ (by rw [ff_size]; omega), ff_size]; rfl
  · intro i hi
    rw [ByteArray.size_extract, tornF_size _ _ _ _ (by rw [ff_size]; omega), ff_size] at hi
    rw [bt_extract _ _ _ _ (by rw [tornF_size _ _ _ _ (by rw [ff_size]; omega), ff_size]; omega), aw_torn _ (by omega), if_pos (by omega), show 12 + i - 12 = i by omega, tn32 i (by omega), clr_blank _ (bt_u8 _ _).1 (bt_u8 _ _).2 8 rfl]
theorem aw_b : bt (tornF (ff 768) 12 e4 3) 12 = 253 := by
  have := aw_torn 12 (by omega) 3
  rw [if_pos (by omega)] at this
  exact this.trans (by decide +kernel)
theorem aw_c : wornF (tornF (ff 768) 12 e4 32) 0 96 = ff 768 := by
  have hs : (tornF (ff 768) 12 e4 32).size = 768 := by rw [tornF_size _ _ _ _ (by rw [ff_size]; omega), ff_size]
  apply bt_ext
  · rw [wornF_size _ _ _ (by omega), hs, ff_size]
  · intro i hi
    rw [wornF_size _ _ _ (by omega), hs] at hi
    rw [wornF_bt _ _ _ (by omega) _ (by omega), ff_bt _ _ hi]
    by_cases c : 0 * 96 ≤ i ∧ i < 0 * 96 + 96
    · rw [if_pos c]
    · rw [if_neg c, aw_torn _ hi, if_neg (by omega)]
theorem doF_false (f : ByteArray) (a : Int) (t : ByteArray) (cut : Int) (n : Nat) (m : Int) (hn : a.toNat = n) (hm : mn cut 32 = m) : doF f false a t cut = tornF f n t m := by unfold doF; rw [if_neg (by decide), hn, hm]
theorem doF_true (f : ByteArray) (a : Int) (t : ByteArray) (cut : Int) (s m : Nat) (hs : a.toNat / 96 = s) (hm : cut.toNat = m) : doF f true a t cut = wornF f s m := by unfold doF; rw [if_pos rfl, hs, hm]
theorem num_eq (x : Int) : skifflaw0_Num.f x = some x := rfl
theorem aw_end (A C F : ByteArray) (hsa : A.size = 768) (hsb : C.size = 768) (ha : A.extract 12 16 = e4) (hb : bt C 12 = 253) : Ev (fun k => skifflaw3_awake.j0 k F awOs 0 A 0 C 0 F 0 300 300 false) true := by
  refine Ev.step (f := fun k => (skifflaw0_SameOps.f k awOs (([(⟨false, 8, (⟨#[97, 98, 99, 100]⟩ : ByteArray)⟩ : S35), (⟨false, 12, (⟨#[101, 255, 255, 255]⟩ : ByteArray)⟩ : S35)] : List (S35)))).bind fun t376 => if t376 = true then some true else none) (fun k => ?_) (Ev.bind aw_same (Ev.always fun k => rfl))
  rw [skifflaw3_awake.j0, if_neg (by decide)]
  refine congrArg (Option.bind _) (funext fun t => ?_)
  cases t with
  | false => rfl
  | true =>
    have q1 : (16 : Int) ≤ (A.size : Int) := by rw [hsa]; decide
    have q2 : (A.extract 12 16).toList = ([101, 255, 255, 255] : List UInt8) := by rw [ha, ByteArray.toList_eq]; rfl
    have q3 : (12 : Int) < (C.size : Int) := by rw [hsb]; decide
    have q4 : (0 : Int) < (awOs.length : Int) := by decide
    have q5 : (12 : Int) ≤ 16 := by decide
    have q6 := ops_May_eq (rd_T35 awOs 0).f0 (rd_T35 awOs 0).f1 (rd_T35 awOs 0).f2 (by decide)
    have q7 : opMay (rd_T35 awOs 0).f0 (rd_T35 awOs 0).f1 (rd_T35 awOs 0).f2 = true := by decide
    rw [q7] at q6
    simp only [num_eq, Option.bind_some, if_true, if_pos q1, if_pos q2, if_pos q3, if_pos q4, if_pos q5, if_pos hb, q6]
    exact if_pos (by decide)
theorem aw_mid (A C F : ByteArray) (hff : F.size = 768) (hsa : A.size = 768) (hsb : C.size = 768) (ha : A.extract 12 16 = e4) (hb : bt C 12 = 253)
    (hda : doF F false 12 e4 96 = A) (hdb : doF F false 12 e4 3 = C) (hdc : doF A true 0 ⟨#[]⟩ 96 = F) (hbl : Ev (fun k => skiffref1_Blank.f k) F) : Ev (fun k => skifflaw3_awake.f k) true := by
  have hca : cutOk A true 0 ⟨#[]⟩ 96 := ⟨hsa, by decide, by omega, by omega⟩
  have hno : ¬ cutOk F true 4 ⟨#[]⟩ 96 := by intro h; exact absurd h.2.1 (by decide)
  have hoA : cutOk F false 12 e4 96 := ⟨hff, by decide, by omega, by omega⟩
  have hoB : cutOk F false 12 e4 3 := ⟨hff, by decide, by omega, by omega⟩
  have v1 := ops_Do_ev F false 12 e4 (by omega)
  have v2 := ops_Cut_ev F false 12 e4 3 (by omega)
  have v3 := ops_Do_ev A true 0 ⟨#[]⟩ (by omega)
  have v4 := ops_Do_ev F true 4 ⟨#[]⟩ (by omega)
  have v5 := ops_Words_ev 8 ⟨#[97, 98, 99, 100, 101]⟩ (by omega) (by decide)
  have v6 := ops_Words_ev 6 ⟨#[97, 98, 99, 100]⟩ (by omega) (by decide)
  rw [cutV_ok hoA, hda] at v1
  rw [cutV_ok hoB, hdb] at v2
  rw [cutV_ok hca, hdc] at v3
  rw [cutV_no hno] at v4
  rw [aw_words] at v5
  rw [aw_words6] at v6
  unfold skifflaw3_awake.f
  refine Ev.bind hbl ?_
  refine Ev.bind v5 ?_
  have l1 : ((awOs.length : Int) = 2) := rfl
  have l2 : (1 : Int) < (awOs.length : Int) := by decide
  have l3 : rd_T35 awOs 1 = ⟨false, 12, e4⟩ := rfl
  simp only [if_pos l1, if_pos l2, l3]
  refine Ev.bind v1 (Ev.bind v2 (Ev.bind v3 (Ev.bind v6 (Ev.bind v4 ?_))))
  have s1 : ((A.size : Int) = (F.size : Int)) := by rw [hsa, hff]
  have s2 : ((C.size : Int) != (F.size : Int)) = false := by rw [hsb, hff]; decide
  simp only [if_pos s1, s2]
  exact aw_end A C F hsa hsb ha hb
theorem awake3 : Ev (fun k => skifflaw3_awake.f k) true := by
  have hsa : (tornF (ff 768) 12 e4 32).size = 768 := by rw [tornF_size _ _ _ _ (by rw [ff_size]; omega), ff_size]
  have hsb : (tornF (ff 768) 12 e4 3).size = 768 := by rw [tornF_size _ _ _ _ (by rw [ff_size]; omega), ff_size]
  exact aw_mid _ _ _ (ff_size 768) hsa hsb aw_a aw_b (doF_false _ _ _ _ 12 32 rfl rfl) (doF_false _ _ _ _ 12 3 rfl rfl) ((doF_true _ _ _ _ 0 96 rfl rfl).trans aw_c) Blank_ev
end Go.Proofs.Ytjihlabmddfjhaa.M
