/- Plain facts: what the program's ops and the reference's answer for every flash, step and cut: the same; no memory in sight. -/
import Derived.Test.YtjihlabmddfjhaaMFlash
import Derived.Test.YtjihlabmddfjhaaPAllx3
import Derived.Test.YtjihlabmddfjhaaPAllx4
import Derived.Test.YtjihlabmddfjhaaPAllx5
import Derived.Test.YtjihlabmddfjhaaPBasex1
set_option linter.unnecessarySimpa false
set_option linter.unusedSimpArgs false
set_option linter.unusedVariables false
namespace Go.Proofs.Ytjihlabmddfjhaa.M
open Go.RowKit Go.Proofs.YtjihlabmddfjhaaW.PrintWords Go.Proofs.YtjihlabmddfjhaaW.PrintLast Go.Proofs.YtjihlabmddfjhaaW.PrintMore Go.Proofs.Ytjihlabmddfjhaa.Hand Go.Proofs.Ytjihlabmddfjhaa.PAll

/-- Evaluation that ends: one step of a function with rounds. -/
theorem Ev.one {α : Type} {g : Nat → Option α} {r : α} (h : ∀ k, g (k + 1) = some r) : Ev g r := ⟨1, fun k hk => by obtain ⟨m, rfl⟩ : ∃ m, k = m + 1 := ⟨k - 1, by omega⟩; exact h m⟩
theorem Ev.always {α : Type} {g : Nat → Option α} {r : α} (h : ∀ k, g k = some r) : Ev g r := ⟨0, fun k _ => h k⟩
theorem bind_ev {α β : Type} {x : Option α} {f : Nat → α → Option β} {a : α} {r : β} (h : x = some a) (k : Ev (fun n => f n a) r) : Ev (fun n => x.bind (f n)) r := by
  subst h; exact k

abbrev I64 (x : Int) : Prop := -9223372036854775808 ≤ x ∧ x ≤ 9223372036854775807
theorem wrap_id {x : Int} (h : I64 x) : wrap64 x = x := by unfold wrap64; omega

/-- May a step be? -/
def opMay (e : Bool) (a : Int) (t : ByteArray) : Bool :=
  if e = true then decide (0 ≤ a ∧ a ≤ 672 ∧ a % 96 = 0 ∧ t.size = 0) else decide (0 ≤ a ∧ a ≤ 764 ∧ a % 4 = 0 ∧ t.size = 4)
theorem toList_nil (t : ByteArray) : (t.toList == ([] : List UInt8)) = decide (t.size = 0) := by
  rw [ByteArray.toList_eq]
  have h := data_length t
  cases hl : t.data.toList with
  | nil => rw [hl] at h; simp at h; exact (decide_eq_true h.symm).symm
  | cons a l => rw [hl] at h; simp at h; exact (decide_eq_false (by omega)).symm
theorem toList_inj {a b : ByteArray} : a.toList = b.toList ↔ a = b := by
  rw [ByteArray.toList_eq, ByteArray.toList_eq]
  exact ⟨fun h => Go.WideShapes.bytes_inj h, fun h => by rw [h]⟩
theorem ops_May_eq (e : Bool) (a : Int) (t : ByteArray) (ha : I64 a) : ops_May.f e a t = some (opMay e a t) := by
  unfold ops_May.f opMay
  cases e with
  | true =>
    rw [if_pos rfl, if_pos rfl]
    by_cases h0 : a ≥ 0
    · rw [if_pos h0]
      rw [Int.tmod_eq_emod_of_nonneg h0]
      by_cases h1 : a % 96 = 0
      · rw [if_pos h1, Int.tdiv_eq_ediv_of_nonneg h0, wrap_id (by omega)]
        unfold nor_Sector.f
        rw [if_pos (by omega)]
        simp only [Option.bind_some]
        by_cases h2 : a / 96 < 8
        · rw [if_pos (by simpa using h2), toList_nil]
          congr 1
          exact decide_eq_decide.mpr ⟨fun h => ⟨by omega, by omega, h1, h⟩, fun h => h.2.2.2⟩
        · rw [if_neg (by simpa using h2)]
          congr 1
          symm
          simp
          omega
      · rw [if_neg h1]
        congr 1; symm; simp; omega
    · rw [if_neg h0]
      congr 1; symm; simp; omega
  | false =>
    rw [if_neg (by decide), if_neg (by decide)]
    unfold nor_Begins.f
    by_cases h0 : a ≥ 0
    · rw [if_pos h0]
      by_cases h1 : a < 768
      · rw [if_pos h1, Int.tmod_eq_emod_of_nonneg h0]
        simp only [Option.bind_some]
        by_cases h2 : a % 4 = 0
        · rw [if_pos (by simpa using h2)]
          congr 1
          rw [Bool.eq_iff_iff]; simp; omega
        · rw [if_neg (by simpa using h2)]
          congr 1; symm; simp; omega
      · rw [if_neg h1]
        simp only [Option.bind_some]
        rw [if_neg (by decide)]
        congr 1; symm; simp; omega
    · rw [if_neg h0]
      simp only [Option.bind_some]
      rw [if_neg (by decide)]
      congr 1; symm; simp; omega
theorem upTo_eq (a b c : Int) : PBase.skiffref1_upTo.f a b c = some (decide (b ≤ a ∧ a ≤ c)) := by
  unfold PBase.skiffref1_upTo.f
  by_cases h : a ≥ b
  · rw [if_pos h]; congr 1; simp; omega
  · rw [if_neg h]; congr 1; symm; simp; omega
theorem ref_OpMay_eq (e : Bool) (a : Int) (t : ByteArray) : skiffref1_OpMay.f e a t = some (opMay e a t) := by
  unfold skiffref1_OpMay.f opMay
  cases e with
  | true =>
    rw [if_pos rfl, if_pos rfl, upTo_eq]
    simp only [Option.bind_some]
    by_cases h0 : 0 ≤ a ∧ a ≤ 672
    · rw [if_pos (by simpa using h0), Int.tmod_eq_emod_of_nonneg h0.1]
      by_cases h1 : a % 96 = 0
      · rw [if_pos h1, toList_nil]; congr 1; exact decide_eq_decide.mpr ⟨fun h => ⟨by omega, by omega, h1, h⟩, fun h => h.2.2.2⟩
      · rw [if_neg h1]; congr 1; symm; simp; omega
    · rw [if_neg (by simpa using h0)]; congr 1; symm; simp; omega
  | false =>
    rw [if_neg (by decide), if_neg (by decide)]
    unfold skiffref1_wordAt.f
    rw [upTo_eq]
    simp only [Option.bind_some]
    by_cases h0 : 0 ≤ a ∧ a ≤ 764
    · rw [if_pos (by simpa using h0), Int.tmod_eq_emod_of_nonneg h0.1]
      simp only [Option.bind_some]
      by_cases h1 : a % 4 = 0
      · rw [if_pos (by simpa using h1)]; congr 1; rw [Bool.eq_iff_iff]; simp; omega
      · rw [if_neg (by simpa using h1)]; congr 1; symm; simp; omega
    · rw [if_neg (by simpa using h0)]
      simp only [Option.bind_some]
      rw [if_neg (by decide)]; congr 1; symm; simp; omega

theorem nor_with_eq (f : ByteArray) (a : Int) (t : ByteArray) (hf : f.size = 768) (h0 : 0 ≤ a) (h1 : a + t.size ≤ 768) : nor_with.f f a t = some (sp f a.toNat t) := by
  unfold nor_with.f
  have s1 : (f.extract 0 a.toNat).size = a.toNat := by rw [ByteArray.size_extract]; omega
  have hw : wrap64 (a + (t.size : Int)) = a + t.size := wrap_id (by omega)
  have ht : (a + (t.size : Int)).toNat = a.toNat + t.size := by omega
  have s2 : (f.extract (a.toNat + t.size) f.size).size = f.size - (a.toNat + t.size) := by rw [ByteArray.size_extract]; omega
  rw [hw, ht]
  rw [if_pos h0, if_pos (by omega), if_pos (by rw [s1]; omega), if_pos (by omega), if_pos (by omega), if_pos (by rw [ByteArray.size_append, s1, s2]; omega)]
  rfl
theorem nor_Worn_ev (f : ByteArray) (s m : Int) (hf : f.size = 768) (h0 : 0 ≤ s) (h1 : s < 8) (h2 : 0 ≤ m) (h3 : m ≤ 96) : Ev (fun k => nor_Worn.f k f s m) (wornF f s.toNat m.toNat, 0) := by
  unfold nor_Worn.f nor_May.f nor_Sector.f
  simp only [Option.bind_some, hf]
  rw [if_pos h0]
  simp only [Option.bind_some]
  have e1 : (decide (s < 8)) = true := by simpa using h1
  have e2 : decide (m > 96) = false := by simp; omega
  simp only [e1, e2, if_neg (show ¬ m < 0 by omega)]
  refine Ev.one fun k => ?_
  show nor_Worn.j0 (k + 1) f s m false = _
  simp only [nor_Worn.j0, if_neg (show ¬ false = true by decide)]
  rw [repeat_ff m h2 (by omega)]
  simp only [Option.bind_some]
  rw [wrap_id (by omega), nor_with_eq f _ _ hf (by omega) (by rw [ff_size]; omega)]
  simp only [Option.bind_some]
  unfold wornF
  rw [show (s * 96).toNat = s.toNat * 96 by omega]
theorem full_go (n : Int) (hn : n ≤ 1000) (d : Nat) : ∀ (k : Nat) (i : Int), 0 ≤ i → i ≤ n → (n - i).toNat = d → d < k → skiffref1_full.l0 k n (List.replicate i.toNat 255 ++ List.replicate (n - i).toNat 0) i = some (ff n.toNat) := by
  induction d with
  | zero =>
    intro k i h0 h1 hd hk
    obtain ⟨k, rfl⟩ : ∃ m, k = m + 1 := ⟨k - 1, by omega⟩
    have hin : i = n := by omega
    subst hin
    simp only [skiffref1_full.l0]
    rw [if_neg (by omega)]
    simp [ff_strOfNums]
  | succ d ih =>
    intro k i h0 h1 hd hk
    obtain ⟨k, rfl⟩ : ∃ m, k = m + 1 := ⟨k - 1, by omega⟩
    simp only [skiffref1_full.l0]
    have hl : (List.replicate i.toNat (255 : Int) ++ List.replicate (n - i).toNat 0).length = n.toNat := by simp; omega
    rw [if_pos (by omega), if_pos h0, if_pos (by rw [hl]; omega), wrap_id (by omega)]
    have e : (List.replicate i.toNat (255 : Int) ++ List.replicate (n - i).toNat 0).set i.toNat 255 = List.replicate (i + 1).toNat 255 ++ List.replicate (n - (i + 1)).toNat 0 := by
      rw [show (n - i).toNat = (n - (i + 1)).toNat + 1 by omega, List.replicate_succ, show (i + 1).toNat = i.toNat + 1 by omega, List.replicate_succ']
      rw [List.set_append_right _ _ (by simp)]
      simp
    rw [e]
    exact ih k (i + 1) (by omega) (by omega) (by omega) (by omega)
theorem full_ev (n : Int) (h0 : 0 ≤ n) (hn : n ≤ 1000) : Ev (fun k => skiffref1_full.f k n) (ff n.toNat) := by
  refine Ev.of (fun k => skiffref1_full.mono _ _) (k := n.toNat + 1) ?_
  unfold skiffref1_full.f
  rw [if_pos h0, if_pos (by omega)]
  have := full_go n hn n.toNat (n.toNat + 1) 0 (by omega) h0 (by omega) (by omega)
  simpa using this
theorem ref_Worn_ev (f : ByteArray) (s m : Int) (hf : f.size = 768) (h0 : 0 ≤ s) (h1 : s < 8) (h2 : 0 ≤ m) (h3 : m ≤ 96) : Ev (fun k => skiffref1_Worn.f k f s m) (wornF f s.toNat m.toNat, 0) := by
  unfold skiffref1_Worn.f skiffref1_FlashMay.f
  simp only [Option.bind_some, hf, upTo_eq]
  have e1 : decide (0 ≤ s ∧ s ≤ 7) = true := by simp; omega
  have e2 : decide (0 ≤ m ∧ m ≤ 96) = true := by simp; omega
  have e3 : ((768 : Nat) : Int) == 768 := rfl
  simp only [e1, e2, e3, if_true]
  have w1 : wrap64 (s * 96) = s * 96 := wrap_id (by omega)
  have w2 : wrap64 (s * 96 + m) = s * 96 + m := wrap_id (by omega)
  simp only [w1, w2, if_pos (show 0 ≤ s * 96 by omega), if_pos (show s * 96 ≤ ((768 : Nat) : Int) by omega)]
  refine Ev.bind (full_ev m h2 (by omega)) ?_
  have s1 : (f.extract 0 (s * 96).toNat).size = (s * 96).toNat := by rw [ByteArray.size_extract]; omega
  have s2 : (f.extract (s * 96 + m).toNat 768).size = 768 - (s * 96 + m).toNat := by rw [ByteArray.size_extract]; omega
  refine Ev.always fun k => ?_
  rw [if_pos (by rw [s1, ff_size]; omega), if_pos (by omega), if_pos (by omega), if_pos (by rw [ByteArray.size_append, s1, s2, ff_size]; omega)]
  unfold wornF sp
  rw [ff_size, hf, show (s * 96).toNat = s.toNat * 96 by omega, show (s * 96 + m).toNat = s.toNat * 96 + m.toNat by omega]
end Go.Proofs.Ytjihlabmddfjhaa.M
