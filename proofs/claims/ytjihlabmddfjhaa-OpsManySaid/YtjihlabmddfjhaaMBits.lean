/- Plain facts on bytes: what and, or, and-not of bytes are, bit by bit; no program in sight. -/
import Derived.Laws.BitsLemmas
import Derived.RowKit
set_option linter.unnecessarySimpa false
set_option linter.unusedSimpArgs false
set_option linter.unusedVariables false
namespace Go.Proofs.Ytjihlabmddfjhaa.M
open Go.RowKit

abbrev B (x : Int) : BitVec 8 := BitVec.ofInt 8 x
theorem wrap8 (b : BitVec 8) : IntKind.u8.wrap (b.toNat : Int) = b.toNat := by
  rw [IntKind.wrap_u8]; have := b.isLt; omega
theorem bits_and_u8 (x y : Int) : Go.bits .and .u8 x y = ((B x &&& B y).toNat : Int) := wrap8 _
theorem bits_or_u8 (x y : Int) : Go.bits .or .u8 x y = ((B x ||| B y).toNat : Int) := wrap8 _
theorem bits_xor_u8 (x y : Int) : Go.bits .xor .u8 x y = ((B x ^^^ B y).toNat : Int) := wrap8 _
theorem bits_andNot_u8 (x y : Int) : Go.bits .andNot .u8 x y = ((B x &&& ~~~B y).toNat : Int) := wrap8 _
theorem B_toNat (b : BitVec 8) : B (b.toNat : Int) = b := by simp [B]
theorem toNat_B (x : Int) (h0 : 0 ≤ x) (h1 : x < 256) : ((B x).toNat : Int) = x := by
  obtain ⟨n, rfl⟩ := Int.eq_ofNat_of_zero_le h0
  simp [B]; omega
theorem B_pow (m : Nat) : B (2 ^ m % 256) = 1#8 <<< m := by
  apply BitVec.eq_of_toNat_eq
  have : ((2 : Int) ^ m % 256) = ((2 ^ m % 256 : Nat) : Int) := by simp
  simp only [B, this, BitVec.ofInt_natCast, BitVec.toNat_ofNat, BitVec.toNat_shiftLeft, Nat.shiftLeft_eq]
  simp
theorem B_mask (m : Nat) : B ((255 * 2 ^ m) % 256) = 255#8 <<< m := by
  apply BitVec.eq_of_toNat_eq
  have : ((255 : Int) * 2 ^ m % 256) = ((255 * 2 ^ m % 256 : Nat) : Int) := by simp
  simp only [B, this, BitVec.ofInt_natCast, BitVec.toNat_ofNat, BitVec.toNat_shiftLeft, Nat.shiftLeft_eq]
  simp
/-- Is bit m of x none? as the reference asks. -/
theorem zero_bit (x : Int) (h0 : 0 ≤ x) (h1 : x < 256) (m : Nat) (hm : m < 8) : (Go.bits .and .u8 (x / 2 ^ m) 1 == 0) = !(B x).getLsbD m := by
  obtain ⟨n, rfl⟩ := Int.eq_ofNat_of_zero_le h0
  have hn : n < 256 := by omega
  have e1 : ((n : Int) / 2 ^ m) = ((n / 2 ^ m : Nat) : Int) := by simp
  have hd : n / 2 ^ m < 256 := Nat.lt_of_le_of_lt (Nat.div_le_self _ _) hn
  rw [e1, bits_and_u8]
  have e2 : (B ((n / 2 ^ m : Nat) : Int) &&& B 1).toNat = n / 2 ^ m % 2 := by
    simp only [B, BitVec.ofInt_natCast, BitVec.toNat_and, BitVec.toNat_ofNat]
    rw [Nat.mod_eq_of_lt hd, show ((BitVec.ofInt 8 1).toNat) = 1 from rfl, Nat.and_one_is_mod]
  rw [e2]
  have e3 : (B (n : Int)).getLsbD m = n.testBit m := by
    show (BitVec.ofInt 8 (n : Int)).getLsbD m = _
    rw [BitVec.ofInt_natCast, BitVec.getLsbD_ofNat]; simp [hm]
  rw [e3, Nat.testBit_eq_decide_div_mod_eq]
  rcases Nat.mod_two_eq_zero_or_one (n / 2 ^ m) with h | h <;> simp [h]

/-- A byte of which the lowest n bits have been programmed, one by one, as the reference does it. -/
def clr (b w : Int) : Nat → Int
  | 0 => b
  | n + 1 => if (Go.bits .and .u8 (w / 2 ^ n) 1 == 0) = true then Go.bits .andNot .u8 (clr b w n) (2 ^ n % 256) else clr b w n
theorem clr_range (b w : Int) (h0 : 0 ≤ b) (h1 : b < 256) (n : Nat) : 0 ≤ clr b w n ∧ clr b w n < 256 := by
  induction n with
  | zero => exact ⟨h0, h1⟩
  | succ n ih =>
    rw [clr]
    split
    · rw [bits_andNot_u8]; have := (B (clr b w n) &&& ~~~B (2 ^ n % 256)).isLt; omega
    · exact ih
theorem clr_bit (b w : Int) (h0 : 0 ≤ w) (h1 : w < 256) (n : Nat) (hn : n ≤ 8) (i : Nat) (hi : i < 8) : (B (clr b w n)).getLsbD i = ((B b).getLsbD i && (decide (n ≤ i) || (B w).getLsbD i)) := by
  induction n with
  | zero => simp [clr]
  | succ n ih =>
    have ih := ih (by omega)
    rw [clr, zero_bit w h0 h1 n (by omega)]
    by_cases hw : (B w).getLsbD n = true
    · rw [if_neg (by simp [hw]), ih]
      by_cases e : n = i
      · subst e; simp [hw]
      · have : decide (n ≤ i) = decide (n + 1 ≤ i) := by simp; omega
        rw [this]
    · have hw' : (B w).getLsbD n = false := by simpa using hw
      rw [if_pos (by simp [hw']), bits_andNot_u8, B_toNat, B_pow]
      rw [BitVec.getLsbD_and, BitVec.getLsbD_not, ih]
      have e1 : (1#8 <<< n).getLsbD i = decide (n = i) := by
        rw [BitVec.getLsbD_shiftLeft]
        by_cases e : n = i
        · subst e; simp [hi]
        · by_cases h : i < n
          · simp [h, e]
          · have : 0 < i - n := by omega
            simp [hi, h, e, BitVec.getLsbD_one]
            omega
      rw [e1]
      by_cases e : n = i
      · subst e; rw [hw']; simp
      · have : decide (n ≤ i) = decide (n + 1 ≤ i) := by simp; omega
        simp [this, hi, e]
theorem mask_bit (b w : Int) (n i : Nat) (hi : i < 8) : (B (Go.bits .and .u8 b (Go.bits .or .u8 w ((255 * 2 ^ n) % 256)))).getLsbD i = ((B b).getLsbD i && (decide (n ≤ i) || (B w).getLsbD i)) := by
  rw [bits_or_u8, bits_and_u8, B_toNat, B_toNat, B_mask, BitVec.getLsbD_and, BitVec.getLsbD_or]
  have e1 : (255#8 <<< n).getLsbD i = decide (n ≤ i) := by
    rw [BitVec.getLsbD_shiftLeft]
    by_cases h : i < n
    · simp [h]
    · have h2 : n ≤ i := by omega
      have h3 : (255#8).getLsbD (i - n) = true := by
        have h4 : i - n < 8 := by omega
        have : ∀ j, j < 8 → (255#8).getLsbD j = true := by decide
        exact this _ h4
      simp [hi, h, h2, h3]
  rw [e1, Bool.or_comm (B w |>.getLsbD i)]
theorem mask_clr (b w : Int) (hb0 : 0 ≤ b) (hb1 : b < 256) (h0 : 0 ≤ w) (h1 : w < 256) (n : Nat) (hn : n ≤ 8) : Go.bits .and .u8 b (Go.bits .or .u8 w ((255 * 2 ^ n) % 256)) = clr b w n := by
  obtain ⟨c0, c1⟩ := clr_range b w hb0 hb1 n
  rw [← toNat_B (clr b w n) c0 c1]
  have hr : ∀ x, Go.bits .and .u8 b x = ((B (Go.bits .and .u8 b x)).toNat : Int) := by
    intro x
    rw [toNat_B]
    · rw [bits_and_u8]; omega
    · rw [bits_and_u8]; have := (B b &&& B x).isLt; omega
  rw [hr]
  congr 2
  apply BitVec.eq_of_getLsbD_eq
  intro i hi
  rw [mask_bit b w n i hi, clr_bit b w h0 h1 n hn i hi]
/-- Programmed in part, then more: as more. -/
theorem clr_again (b w : Int) (hb0 : 0 ≤ b) (hb1 : b < 256) (h0 : 0 ≤ w) (h1 : w < 256) (n N : Nat) (hn : n ≤ N) (hN : N ≤ 8) : clr (clr b w n) w N = clr b w N := by
  obtain ⟨c0, c1⟩ := clr_range b w hb0 hb1 n
  obtain ⟨d0, d1⟩ := clr_range (clr b w n) w c0 c1 N
  obtain ⟨e0, e1⟩ := clr_range b w hb0 hb1 N
  refine (toNat_B _ d0 d1).symm.trans (Eq.trans ?_ (toNat_B _ e0 e1))
  congr 2
  apply BitVec.eq_of_getLsbD_eq
  intro i hi
  rw [clr_bit _ w h0 h1 N hN i hi, clr_bit _ w h0 h1 n (by omega) i hi, clr_bit _ w h0 h1 N hN i hi]
  have h8 : decide (N ≤ i) = true → decide (n ≤ i) = true := by simp; omega
  revert h8
  generalize (B b).getLsbD i = p
  generalize (B w).getLsbD i = q
  generalize decide (n ≤ i) = r
  generalize decide (N ≤ i) = s
  cases p <;> cases q <;> cases r <;> cases s <;> simp
/-- On a byte 255 the word itself. -/
theorem clr_blank (w : Int) (h0 : 0 ≤ w) (h1 : w < 256) (N : Nat) (hN : N = 8) : clr 255 w N = w := by
  obtain ⟨e0, e1⟩ := clr_range 255 w (by omega) (by omega) N
  refine (toNat_B _ e0 e1).symm.trans (Eq.trans ?_ (toNat_B w h0 h1))
  congr 2
  apply BitVec.eq_of_getLsbD_eq
  intro i hi
  rw [clr_bit _ w h0 h1 N (by omega) i hi]
  have : (B 255).getLsbD i = true := by
    have h : ∀ j, j < 8 → (BitVec.ofInt 8 255).getLsbD j = true := by decide
    exact h i hi
  have h8 : decide (N ≤ i) = false := by simp; omega
  rw [this, h8]; rfl
/-- None of its bits: as it was. -/
theorem clr_zero (b w : Int) : clr b w 0 = b := rfl
end Go.Proofs.Ytjihlabmddfjhaa.M
