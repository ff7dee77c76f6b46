/- The reference's Torn: what it answers for every flash, place, word and number of bits, and that it changes nothing that was there. -/
import Derived.Test.YtjihlabmddfjhaaHTorn
import Derived.RegionTactic
import Derived.ChangeAlike
set_option linter.unnecessarySimpa false
set_option linter.unusedSimpArgs false
set_option linter.unusedVariables false
namespace Go.Proofs.Ytjihlabmddfjhaa.Hand
open Go.RowKit Go.Proofs.YtjihlabmddfjhaaW.PrintWords Go.Proofs.YtjihlabmddfjhaaW.PrintLast Go.Proofs.YtjihlabmddfjhaaW.PrintMore Go.Proofs.Ytjihlabmddfjhaa.HWords

theorem bt_nat (s : ByteArray) (k : Nat) (h : k < s.size) : bt s (k : Int) = ((s[k]'h).toNat : Int) := by unfold bt; simp [h]
def zeroBit (x : ByteArray) (k : Nat) : Bool := Go.bits .and .u8 (bt x ((k / 8 : Nat) : Int) / 2 ^ (k % 8)) 1 == 0
def rstep (x : ByteArray) (l : List Int) (k : Nat) : List Int := if zeroBit x k = true then l.set (k / 8) (Go.bits .andNot .u8 (l.getD (k / 8) 0) (2 ^ (k % 8) % 256)) else l
def rL (f : ByteArray) (at_ : Nat) (x : ByteArray) : Nat → List Int
  | 0 => bytesOf (f.extract at_ (at_ + 4))
  | k + 1 => rstep x (rL f at_ x k) k
theorem rL_length (f : ByteArray) (at_ : Nat) (x : ByteArray) (k : Nat) (h : at_ + 4 ≤ f.size) : (rL f at_ x k).length = 4 := by
  induction k with
  | zero => rw [rL, bytesOf_length, ByteArray.size_extract]; omega
  | succ k ih => rw [rL, rstep]; split <;> simp [ih]
def rtornF (f : ByteArray) (at_ : Nat) (x : ByteArray) (k : Nat) : ByteArray := (f.extract 0 at_ ++ strOfNums (rL f at_ x k)) ++ f.extract (at_ + 4) f.size
set_option maxRecDepth 100000 in
set_option maxHeartbeats 2000000 in
theorem rtorn_yes (a0 : ByteArray) (a1 : Int) (a2 : ByteArray) (a3 : Int) (w : World) (c1 : (a0.size : Int) = 768) (c2 : 0 ≤ a1) (c3 : a1 ≤ 764) (c4 : Int.tmod a1 4 = 0) (c5 : (a2.size : Int) = 4) (c6 : 0 ≤ a3) (c7 : a3 ≤ 32) :
    Calls Try.prog 50 #[.string a0, .int .i64 a1, .string a2, .int .i64 a3] w fun e w' => e = .returned (.tuple #[.string (rtornF a0 a1.toNat a2 a3.toNat), .int .i64 0]) ∧ Below w.heap.size w w' := by
  have b1 : ((a0.size : Int) == 768) = true := beq_iff_eq.mpr c1
  have b2 : decide (0 ≤ a1) = true := decide_eq_true c2
  have b3 : decide (a1 ≤ 764) = true := decide_eq_true c3
  have b5 : ((a2.size : Int) != 4) = false := bne_eq_false_iff_eq.mpr c5
  have b5' : ((a2.size : Int) == 4) = true := beq_iff_eq.mpr c5
  have b6 : decide (0 ≤ a3) = true := decide_eq_true c6
  have b7 : decide (a3 ≤ 32) = true := decide_eq_true c7
  have hem : a1 % 4 = 0 := by rw [← Int.tmod_eq_emod_of_nonneg (b := 4) c2]; exact c4
  have b4e : (a1 % 4 == 0) = true := beq_iff_eq.mpr hem
  clear hem c4
  have e1 := eq_true (show 0 ≤ a1 from c2)
  have e2 := eq_true (show a1 ≤ a1 + 4 by omega)
  have e3 := eq_true (show a1 + 4 ≤ (a0.size : Int) by omega)
  have e4 := eq_true (show 0 ≤ a1 + 4 by omega)
  have hsz : (a0.extract a1.toNat (a1 + 4).toNat).size = 4 := by rw [ByteArray.size_extract]; omega
  go_enter Try.func50, Try.ntmps50
  go_wp2_with (first | go_in | (refine conv_event (w0 := w) rfl 9 30 5 _ rfl Try.underlying9 Try.underlying30 Try.underlying5 _ (by first | rfl | (go_simp; rfl)) (Below.refl _ _) ?_))
  intro g c w1 hg hc hm hb hgw
  have ht4 : (a1 + 4).toNat = a1.toNat + 4 := by omega
  have h4 : a1.toNat + 4 ≤ a0.size := by omega
  rw [ht4] at hm
  clear hsz ht4
  go_wp2
  go_loopw [11] (fun i wr => ∃ k : Nat, (k : Int) ≤ a3 ∧ i = .int .i64 k ∧ MRow wr g (rL a0 a1.toNat a2 k) ∧ Below w.heap.size w wr) (fun i _ => (a3 - (intOf i)).toNat)
  case atStart => exact ⟨0, c6, rfl, hm, hb⟩
  case round =>
    obtain ⟨k, hk, rfl, hm1, hb1⟩ := hrel
    by_cases hlt : (k : Int) < a3
    · have hz : k / 8 < a2.size := by omega
      have hbt : bt a2 ((k / 8 : Nat) : Int) = ((a2[k / 8]'hz).toNat : Int) := bt_nat _ _ hz
      by_cases hbit : zeroBit a2 k = true
      · have hbit2 : (Go.bits .and .u8 (((a2[k / 8]'hz).toNat : Int) / 2 ^ (k % 8)) 1 == 0) = true := by rw [← hbt]; exact hbit
        obtain ⟨hcell, hfr⟩ := hm1 (k / 8) (by rw [rL_length _ _ _ _ h4]; omega)
        have hm2 := hm1.set (k / 8) (Go.bits .andNot .u8 ((rL a0 a1.toNat a2 k).getD (k / 8) 0) (2 ^ (k % 8) % 256))
        have HS : Hid (rL a0 a1.toNat a2 (k + 1) = (rL a0 a1.toNat a2 k).set (k / 8) (Go.bits .andNot .u8 ((rL a0 a1.toNat a2 k).getD (k / 8) 0) (2 ^ (k % 8) % 256))) := by rw [rL, rstep, if_pos hbit]; trivial
        have HM := Lib.hid hm2
        clear hm2 hm1 hm hbit hbt h4
        generalize (rL a0 a1.toNat a2 k).getD (k / 8) 0 = xb at hcell HM HS
        go_wp2
        have hq : IntKind.i64.wrap ((k : Int) / 8) = (k : Int) / 8 := IntWalk.i64_in _ (by omega)
        have hq2 : (0 ≤ (k : Int) / 8 ∧ (k : Int) / 8 < 4) = True := eq_true (by omega)
        have hq3 : ((k : Int) / 8).toNat = k / 8 := by omega
        have ht1 : (k : Int).tmod 8 = (k : Int) % 8 := Int.tmod_eq_emod_of_nonneg (by omega)
        have ht2 : 0 ≤ (k : Int) % 8 := by omega
        have ht3 : (k : Int) % 8 < 8 := by omega
        go_still_tail 13, (by kernel_rfl)
        change wpList _ _ _ _ _ wr.drew
        go_wp2
        go_roundw
        case rel => exact ⟨k + 1, by omega, by go_num, by rw [HS.out]; exact HM.out, below_drew1 (below_set hb1 hg)⟩
        case measure => simp [intOf]; omega
      · have hbitf : zeroBit a2 k = false := Bool.eq_false_iff.mpr hbit
        have hbit2 : (Go.bits .and .u8 (((a2[k / 8]'hz).toNat : Int) / 2 ^ (k % 8)) 1 == 0) = false := by rw [← hbt]; exact hbitf
        have HS : Hid (rL a0 a1.toNat a2 (k + 1) = rL a0 a1.toNat a2 k) := by rw [rL, rstep, if_neg hbit]; trivial
        have HM := Lib.hid hm1
        clear hm1 hm hbit hbt h4 hbitf
        go_wp2
        go_roundw
        case rel => exact ⟨k + 1, by omega, by go_num, by rw [HS.out]; exact HM.out, hb1⟩
        case measure => simp [intOf]; omega
    · have hk3 : a3.toNat = k := by omega
      have HF : Hid (rtornF a0 a1.toNat a2 a3.toNat = (a0.extract 0 a1.toNat ++ strOfNums (rL a0 a1.toNat a2 k)) ++ a0.extract (a1.toNat + 4) a0.size) := by unfold rtornF; rw [hk3]; trivial
      have hL := rL_length a0 a1.toNat a2 k h4
      generalize rL a0 a1.toNat a2 k = xs at hm1 hL HF
      have hconv := fun m => run_convert_bytes_arg (P := Try.prog) (wr.drewN m) 30 5 Try.underlying30 Try.underlying5 g 0 4 c xs hL (fun i hi => by have := (hm1 i (by omega)).1; rw [Nat.zero_add]; exact this) 9 Try.underlying9
      have hso : (strOfNums xs).size = 4 := by rw [strOfNums_size', hL]
      have e5 : IntKind.i64.wrap (a1 + 4) = a1 + 4 := IntWalk.i64_in _ (by omega)
      have e6 : (a1 + 4).toNat = a1.toNat + 4 := by omega
      have e7 : a1 ≤ (a0.size : Int) := by omega
      have s1 : (a0.extract 0 a1.toNat).size = a1.toNat := by rw [ByteArray.size_extract]; omega
      have s2 : (a0.extract (a1.toNat + 4) a0.size).size = a0.size - (a1.toNat + 4) := by rw [ByteArray.size_extract]; omega
      have e8 : a1.toNat ≤ 764 := by omega
      have hHID := Lib.hid hm
      clear hm1 hm hL hk3 h4
      go_wp2
      go_quiet (fail)
      go_wp2
      go_ret2
      exact ⟨by rw [HF.out]; rfl, pw_below_drewN hb1 _⟩
def skiffref1_Torn.f (a0 : ByteArray) (a1 : Int) (a2 : ByteArray) (a3 : Int) : Option (ByteArray × Int) :=
  if (a0.size : Int) = 768 then (if a1 ≥ 0 then (if a1 ≤ 764 then (if Int.tmod a1 4 = 0 then (if (a2.size : Int) = 4 then (if a3 ≥ 0 then (if a3 ≤ 32 then some (rtornF a0 a1.toNat a2 a3.toNat, 0) else some (⟨#[]⟩, 200)) else some (⟨#[]⟩, 200)) else some (⟨#[]⟩, 200)) else some (⟨#[]⟩, 200)) else some (⟨#[]⟩, 200)) else some (⟨#[]⟩, 200)) else some (⟨#[]⟩, 200)
set_option maxRecDepth 100000 in
set_option maxHeartbeats 2000000 in
theorem skiffref1_Torn.calls (a0 : ByteArray) (a1 : Int) (a2 : ByteArray) (a3 : Int) (r1 : ByteArray) (r2 : Int) (w : World) (h : skiffref1_Torn.f a0 a1 a2 a3 = some (r1, r2)) :
    Calls Try.prog 50 #[.string a0, .int .i64 a1, .string a2, .int .i64 a3] w fun e w' => e = .returned (.tuple #[.string r1, .int .i64 r2]) ∧ Below w.heap.size w w' := by
  unfold skiffref1_Torn.f at h
  have HB := Below.refl w.heap.size w
  by_cases c1 : (a0.size : Int) = 768
  case neg =>
    rw [if_neg c1] at h
    simp only [Option.some.injEq, Prod.mk.injEq] at h
    obtain ⟨rfl, rfl⟩ := h
    have b1 : ((a0.size : Int) == 768) = false := beq_eq_false_iff_ne.mpr c1
    clear c1
    go_enter Try.func50, Try.ntmps50
    go_wp2
    go_ret2
    exact ⟨rfl, by repeat (first | (with_reducible first | exact HB | apply below_alloc | apply pw_below_drewN | apply below_drew1) | exact HB)⟩
  rw [if_pos c1] at h
  have b1 : ((a0.size : Int) == 768) = true := beq_iff_eq.mpr c1
  by_cases c2 : a1 ≥ 0
  case neg =>
    rw [if_neg c2] at h
    simp only [Option.some.injEq, Prod.mk.injEq] at h
    obtain ⟨rfl, rfl⟩ := h
    have b2 : decide (0 ≤ a1) = false := decide_eq_false c2
    clear c1 c2
    go_enter Try.func50, Try.ntmps50
    go_wp2
    go_ret2
    exact ⟨rfl, by repeat (first | (with_reducible first | exact HB | apply below_alloc | apply pw_below_drewN | apply below_drew1) | exact HB)⟩
  rw [if_pos c2] at h
  have b2 : decide (0 ≤ a1) = true := decide_eq_true c2
  by_cases c3 : a1 ≤ 764
  case neg =>
    rw [if_neg c3] at h
    simp only [Option.some.injEq, Prod.mk.injEq] at h
    obtain ⟨rfl, rfl⟩ := h
    have b3 : decide (a1 ≤ 764) = false := decide_eq_false c3
    clear c1 c2 c3
    go_enter Try.func50, Try.ntmps50
    go_wp2
    go_ret2
    exact ⟨rfl, by repeat (first | (with_reducible first | exact HB | apply below_alloc | apply pw_below_drewN | apply below_drew1) | exact HB)⟩
  rw [if_pos c3] at h
  have b3 : decide (a1 ≤ 764) = true := decide_eq_true c3
  by_cases c4 : Int.tmod a1 4 = 0
  case neg =>
    rw [if_neg c4] at h
    simp only [Option.some.injEq, Prod.mk.injEq] at h
    obtain ⟨rfl, rfl⟩ := h
    have b4 : (Int.tmod a1 4 == 0) = false := beq_eq_false_iff_ne.mpr c4
    clear c1 c2 c3 c4
    go_enter Try.func50, Try.ntmps50
    go_wp2
    go_ret2
    exact ⟨rfl, by repeat (first | (with_reducible first | exact HB | apply below_alloc | apply pw_below_drewN | apply below_drew1) | exact HB)⟩
  rw [if_pos c4] at h
  have b4 : (Int.tmod a1 4 == 0) = true := beq_iff_eq.mpr c4
  by_cases c5 : (a2.size : Int) = 4
  case neg =>
    rw [if_neg c5] at h
    simp only [Option.some.injEq, Prod.mk.injEq] at h
    obtain ⟨rfl, rfl⟩ := h
    have b5 : ((a2.size : Int) != 4) = true := bne_iff_ne.mpr c5
    have b5' : ((a2.size : Int) == 4) = false := beq_eq_false_iff_ne.mpr c5
    clear c1 c2 c3 c4 c5
    go_enter Try.func50, Try.ntmps50
    go_wp2
    go_ret2
    exact ⟨rfl, by repeat (first | (with_reducible first | exact HB | apply below_alloc | apply pw_below_drewN | apply below_drew1) | exact HB)⟩
  rw [if_pos c5] at h
  have b5 : ((a2.size : Int) != 4) = false := bne_eq_false_iff_eq.mpr c5
  have b5' : ((a2.size : Int) == 4) = true := beq_iff_eq.mpr c5
  by_cases c6 : a3 ≥ 0
  case neg =>
    rw [if_neg c6] at h
    simp only [Option.some.injEq, Prod.mk.injEq] at h
    obtain ⟨rfl, rfl⟩ := h
    have b6 : decide (0 ≤ a3) = false := decide_eq_false c6
    clear c1 c2 c3 c4 c5 c6
    go_enter Try.func50, Try.ntmps50
    go_wp2
    go_ret2
    exact ⟨rfl, by repeat (first | (with_reducible first | exact HB | apply below_alloc | apply pw_below_drewN | apply below_drew1) | exact HB)⟩
  rw [if_pos c6] at h
  have b6 : decide (0 ≤ a3) = true := decide_eq_true c6
  by_cases c7 : a3 ≤ 32
  case neg =>
    rw [if_neg c7] at h
    simp only [Option.some.injEq, Prod.mk.injEq] at h
    obtain ⟨rfl, rfl⟩ := h
    have b7 : decide (a3 ≤ 32) = false := decide_eq_false c7
    clear c1 c2 c3 c4 c5 c6 c7
    go_enter Try.func50, Try.ntmps50
    go_wp2
    go_ret2
    exact ⟨rfl, by repeat (first | (with_reducible first | exact HB | apply below_alloc | apply pw_below_drewN | apply below_drew1) | exact HB)⟩
  rw [if_pos c7] at h
  simp only [Option.some.injEq, Prod.mk.injEq] at h
  obtain ⟨rfl, rfl⟩ := h
  exact rtorn_yes a0 a1 a2 a3 w c1 c2 c3 c4 c5 c6 c7
end Go.Proofs.Ytjihlabmddfjhaa.Hand
