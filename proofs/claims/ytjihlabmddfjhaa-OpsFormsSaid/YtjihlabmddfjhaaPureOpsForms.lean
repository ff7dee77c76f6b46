/- Steps, places, texts, cuts that may not be are refused: for every two numbers that choose them. -/
import Derived.Test.YtjihlabmddfjhaaMTwice
import Derived.Test.YtjihlabmddfjhaaPAllx0
import Derived.Test.YtjihlabmddfjhaaPAllx9
set_option linter.unnecessarySimpa false
set_option linter.unusedSimpArgs false
set_option linter.unusedVariables false
namespace Go.Proofs.Ytjihlabmddfjhaa.Pure
open Go.RowKit Go.Proofs.Ytjihlabmddfjhaa.Hand Go.Proofs.Ytjihlabmddfjhaa.PAll Go.Proofs.YtjihlabmddfjhaaW.PrintWords Go.Proofs.YtjihlabmddfjhaaW.PrintLast Go.Proofs.Ytjihlabmddfjhaa.M

theorem and_mask (x : Int) (m : Nat) (n : Nat) (hn : n = 2 ^ m) (hm : m ≤ 10) : 0 ≤ Go.bits .and .i64 x ((n : Int) - 1) ∧ Go.bits .and .i64 x ((n : Int) - 1) < n := by
  have hp : 0 < 2 ^ m := Nat.two_pow_pos m
  have h1024 : (2 : Nat) ^ m ≤ 2 ^ 10 := Nat.pow_le_pow_right (by decide) hm
  have hb : (((BitVec.ofInt 64 x) &&& (BitVec.ofInt 64 ((n : Int) - 1))).toNat) < 2 ^ m := by
    rw [BitVec.toNat_and]
    refine Nat.lt_of_le_of_lt Nat.and_le_right ?_
    have : ((n : Int) - 1) = ((2 ^ m - 1 : Nat) : Int) := by rw [hn]; omega
    rw [this, BitVec.ofInt_natCast, BitVec.toNat_ofNat]
    exact Nat.lt_of_le_of_lt (Nat.mod_le _ _) (by omega)
  have he : Go.bits .and .i64 x ((n : Int) - 1) = IntKind.i64.wrap (((BitVec.ofInt 64 x) &&& (BitVec.ofInt 64 ((n : Int) - 1))).toNat : Int) := rfl
  rw [he, IntKind.wrap_i64]
  omega
def badAt (d : Int) (w : Int) : S35 :=
  if w = 0 then ⟨true, -96 * d, ⟨#[]⟩⟩ else if w = 1 then ⟨true, 672 + 96 * d, ⟨#[]⟩⟩ else if w = 2 then ⟨true, 4, ⟨#[]⟩⟩ else if w = 3 then ⟨true, 0, ⟨#[97, 98, 99, 100]⟩⟩ else if w = 4 then ⟨false, -4 * d, ⟨#[97, 98, 99, 100]⟩⟩
  else if w = 5 then ⟨false, 764 + 4 * d, ⟨#[97, 98, 99, 100]⟩⟩ else if w = 6 then ⟨false, 2, ⟨#[97, 98, 99, 100]⟩⟩ else if w = 7 then ⟨false, 0, ⟨#[97, 98, 99]⟩⟩ else if w = 8 then ⟨false, 0, ⟨#[]⟩⟩ else ⟨false, 0, ⟨#[97, 98, 99, 100, 101]⟩⟩
theorem bad_no (d w : Int) (h0 : 1 ≤ d) (h1 : d ≤ 1024) : opMay (badAt d w).f0 (badAt d w).f1 (badAt d w).f2 = false ∧ I64 (badAt d w).f1 := by
  have z4 : (⟨#[97, 98, 99, 100]⟩ : ByteArray).size = 4 := rfl
  unfold badAt
  repeat' split
  all_goals refine ⟨?_, ?_⟩
  all_goals first
    | (show I64 _; simp only; omega)
    | (unfold opMay; simp only [if_true, Bool.false_eq_true, if_false]; exact decide_eq_false (by intro h_; omega))
    | decide
theorem OpsForms : skifflaw3_OpsForms.Pure := by
  intro which x _ _
  refine Ev.rounds (g := fun k => skifflaw3_OpsForms.f k which x) ?_
  unfold skifflaw3_OpsForms.f
  rw [wrap_mod which 10 (by omega) (by omega)]
  have c0 : 0 ≤ (which % 18446744073709551616) % 10 := Int.emod_nonneg _ (by omega)
  have c1 : (which % 18446744073709551616) % 10 < 10 := Int.emod_lt_of_pos _ (by omega)
  generalize (which % 18446744073709551616) % 10 = w at c0 c1
  have m1 := and_mask x 10 1024 rfl (by omega)
  have m2 := and_mask x 1 2 rfl (by omega)
  have m3 := and_mask which 1 2 rfl (by omega)
  rw [show ((1024 : Nat) : Int) - 1 = 1023 from rfl] at m1
  rw [show ((2 : Nat) : Int) - 1 = 1 from rfl] at m2 m3
  generalize Go.bits .and .i64 x 1023 = p at m1
  generalize Go.bits .and .i64 x 1 = q at m2
  generalize Go.bits .and .i64 which 1 = r at m3
  have d1 : wrap64 (1 + p) = 1 + p := wrap_id (by omega)
  rw [d1]
  obtain ⟨d, hd⟩ : ∃ d, 1 + p = d := ⟨_, rfl⟩
  rw [hd]
  have hd0 : 1 ≤ d := by omega
  have hd1 : d ≤ 1024 := by omega
  have e1 : wrap64 (-96 * d) = -96 * d := wrap_id (by omega)
  have e2 : wrap64 (672 + wrap64 (96 * d)) = 672 + 96 * d := by rw [wrap_id (x := 96 * d) (by omega), wrap_id (by omega)]
  have e3 : wrap64 (-4 * d) = -4 * d := wrap_id (by omega)
  have e4 : wrap64 (764 + wrap64 (4 * d)) = 764 + 4 * d := by rw [wrap_id (x := 4 * d) (by omega), wrap_id (by omega)]
  have e5 : wrap64 (768 + wrap64 (4 * d)) = 768 + 4 * d := by rw [wrap_id (x := 4 * d) (by omega), wrap_id (by omega)]
  have e6 : wrap64 (-d) = -d := wrap_id (by omega)
  have e7 : wrap64 (96 + d) = 96 + d := wrap_id (by omega)
  have e8 : wrap64 (1 + q) = 1 + q := wrap_id (by omega)
  simp only [e1, e2, e3, e4, e5, e6, e7, e8]
  refine Ev.bind awake3 ?_
  simp only [if_true]
  have hfs : (ff 768).size = 768 := ff_size 768
  refine Ev.bind Blank_ev ?_
  revert hfs
  generalize ff 768 = F
  intro hfs
  simp only [Option.bind_some]
  obtain ⟨L, hL⟩ : ∃ L : List S35, [(⟨true, -96 * d, (⟨#[]⟩ : ByteArray)⟩ : S35), (⟨true, 672 + 96 * d, (⟨#[]⟩ : ByteArray)⟩ : S35), (⟨true, 4, (⟨#[]⟩ : ByteArray)⟩ : S35), (⟨true, 0, (⟨#[97, 98, 99, 100]⟩ : ByteArray)⟩ : S35), (⟨false, -4 * d, (⟨#[97, 98, 99, 100]⟩ : ByteArray)⟩ : S35), (⟨false, 764 + 4 * d, (⟨#[97, 98, 99, 100]⟩ : ByteArray)⟩ : S35), (⟨false, 2, (⟨#[97, 98, 99, 100]⟩ : ByteArray)⟩ : S35), (⟨false, 0, (⟨#[97, 98, 99]⟩ : ByteArray)⟩ : S35), (⟨false, 0, (⟨#[]⟩ : ByteArray)⟩ : S35), (⟨false, 0, (⟨#[97, 98, 99, 100, 101]⟩ : ByteArray)⟩ : S35)] = L := ⟨_, rfl⟩
  have hl : (L.length : Int) = 10 := by rw [← hL]; rfl
  have hat : rd_T35 L w = badAt d w := by
    rw [← hL]
    have hw : w = 0 ∨ w = 1 ∨ w = 2 ∨ w = 3 ∨ w = 4 ∨ w = 5 ∨ w = 6 ∨ w = 7 ∨ w = 8 ∨ w = 9 := by omega
    rcases hw with h | h | h | h | h | h | h | h | h | h <;> (subst h; rfl)
  rw [hL]
  have q1 : 0 ≤ w := c0
  have q2 : w < (L.length : Int) := by omega
  have q3 : (1 : Int) ≤ (F.size : Int) := by omega
  have q4 : 0 ≤ r := m3.1
  have l2 : ∀ a b : Int, (([a, b] : List Int).length : Int) = 2 := fun _ _ => rfl
  have q5 : ∀ a b : Int, r < (([a, b] : List Int).length : Int) := fun a b => by rw [l2]; exact m3.2
  obtain ⟨b0, b1⟩ := bad_no d w hd0 hd1
  have hbad : ∀ c, ¬ cutOk F (badAt d w).f0 (badAt d w).f1 (badAt d w).f2 c := fun c h => by have := h.2.1; rw [b0] at this; exact absurd this (by decide)
  have v1 := ops_Do_ev F (badAt d w).f0 (badAt d w).f1 (badAt d w).f2 b1
  have v2 := ops_Cut_ev F (badAt d w).f0 (badAt d w).f1 (badAt d w).f2 3 b1
  rw [cutV_no (hbad 96)] at v1
  rw [cutV_no (hbad 3)] at v2
  have hx : ¬ cutOk (F.extract 1 F.size) true 0 ⟨#[]⟩ 96 := fun h => by have := h.1; rw [ByteArray.size_extract] at this; omega
  have v3 := ops_Do_ev (F.extract 1 F.size) true 0 ⟨#[]⟩ (by omega)
  rw [cutV_no hx] at v3
  have hr : r = 0 ∨ r = 1 := by omega
  have hy : ¬ cutOk F true 0 ⟨#[]⟩ (rd [-d, 96 + d] r) := fun h => by
    have h1 := h.2.2.1
    have h2 := h.2.2.2
    rcases hr with hr | hr <;> (subst hr; simp [rd] at h1 h2; omega)
  have v4 := ops_Cut_ev F true 0 ⟨#[]⟩ (rd [-d, 96 + d] r) (by omega)
  rw [cutV_no hy] at v4
  have hI : I64 (rd [-4 * d, 768 + 4 * d] r) := by rcases hr with hr | hr <;> (subst hr; simp [rd]; omega)
  have hz : ¬ wordsOk (rd [-4 * d, 768 + 4 * d] r) ⟨#[]⟩ := fun h => by
    have h1 := h.1
    have h2 := h.2.1
    rcases hr with hr | hr <;> (subst hr; simp [rd] at h1 h2; omega)
  have v5 := ops_Words_ev (rd [-4 * d, 768 + 4 * d] r) ⟨#[]⟩ hI (by decide)
  unfold wordsV at v5
  rw [if_neg hz] at v5
  have hz2 : ¬ wordsOk (1 + q) ⟨#[97, 98, 99, 100]⟩ := fun h => by have := h.2.2.1; omega
  have v6 := ops_Words_ev (1 + q) ⟨#[97, 98, 99, 100]⟩ (by omega) (by decide)
  unfold wordsV at v6
  rw [if_neg hz2] at v6
  have v7 := ops_Words_ev 764 ⟨#[97, 98, 99, 100, 101]⟩ (by omega) (by decide)
  rw [show wordsV 764 ⟨#[97, 98, 99, 100, 101]⟩ = ([], 300) by kernel_rfl] at v7
  have v8 := ops_Words_ev 768 ⟨#[]⟩ (by omega) (by decide)
  rw [show wordsV 768 ⟨#[]⟩ = ([], 0) by kernel_rfl] at v8
  have v9 := ops_May_eq (badAt d w).f0 (badAt d w).f1 (badAt d w).f2 b1
  rw [b0] at v9
  simp only [if_pos q1, if_pos q2, if_pos q3, if_pos q4, hat]
  refine Ev.bind v1 (Ev.bind v2 (Ev.bind v3 ?_))
  simp only [if_pos (q5 _ _)]
  refine Ev.bind v4 (Ev.bind v5 (Ev.bind v6 (Ev.bind v7 (Ev.bind v8 (Ev.always fun k => ?_)))))
  simp only [v9, Option.bind_some, Bool.false_eq_true, if_false, num_eq, if_true]
  rfl
end Go.Proofs.Ytjihlabmddfjhaa.Pure
