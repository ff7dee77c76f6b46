/- The program's nor.Torn: what it answers for every flash, place, word and number of bits, and that it changes nothing that was there. -/
import Derived.Test.YtjihlabmddfjhaaHCompl
import Derived.StillTailTactics
import Derived.Outline
import Derived.IntWalk
import Derived.Laws.DeepStrings4
set_option linter.unnecessarySimpa false
set_option linter.unusedSimpArgs false
set_option linter.unusedVariables false
namespace Go.Proofs.Ytjihlabmddfjhaa.Hand
open Go.RowKit Go.Proofs.YtjihlabmddfjhaaW.PrintWords Go.Proofs.YtjihlabmddfjhaaW.PrintLast Go.Proofs.YtjihlabmddfjhaaW.PrintMore Go.Proofs.Ytjihlabmddfjhaa.HWords
attribute [local go_sem] max2_int min2_int max_two min_two

theorem strOfNums_size' (l : List Int) : (strOfNums l).size = l.length := by simp [strOfNums, ByteArray.size]
set_option maxHeartbeats 1000000 in
theorem with_any (f : ByteArray) (n : Nat) (t : ByteArray) (w : World) (h : n + t.size ≤ f.size) (hf : f.size ≤ 4611686018427387904) :
    Calls Try.prog 72 #[.string f, .int .i64 (n : Int), .string t] w fun e w' => e = .returned (.string ((f.extract 0 n ++ t) ++ f.extract (n + t.size) f.size)) ∧ Drawn0 w w' := by
  have e1 : (n : Int) ≤ (f.size : Int) := by omega
  have e2 : IntKind.i64.wrap ((n : Int) + (t.size : Int)) = n + t.size := IntWalk.i64_in _ (by omega)
  have e2n : ((n : Int) + (t.size : Int)).toNat = n + t.size := by omega
  have e3 : (n : Int) + (t.size : Int) ≤ (f.size : Int) := by omega
  have e4 : (0 : Int) ≤ (n : Int) + (t.size : Int) := by omega
  have s1 : (f.extract 0 n).size = n := by rw [ByteArray.size_extract]; omega
  have s2 : (f.extract (n + t.size) f.size).size = f.size - (n + t.size) := by rw [ByteArray.size_extract]; omega
  go_enter Try.func72, Try.ntmps72
  go_wp2
  go_quiet (fail)
  go_wp2
  go_ret
  exact ⟨rfl, ⟨_, rfl⟩⟩
def maskV (b n : Int) : Int := Go.bits .or .u8 b ((255 * 2 ^ (mn (mx n 0) 8).toNat) % 256)
set_option maxHeartbeats 1000000 in
theorem mask_same (b n : Int) (w : World) (h0 : -32 ≤ n) (h1 : n ≤ 32) :
    Calls Try.prog 73 #[.int .u8 b, .int .i64 n] w fun e w' => e = .returned (.int .u8 (maskV b n)) ∧ w' = w := by
  unfold maskV
  obtain ⟨j3, h3⟩ : ∃ j : Int, mx n 0 = j := ⟨_, rfl⟩
  rw [h3]
  have l3 : 0 ≤ j3 := by rw [← h3]; unfold mx; split <;> omega
  have h3' : (if n < 0 then 0 else n) = j3 := h3
  obtain ⟨j4, h4⟩ : ∃ j : Int, mn j3 8 = j := ⟨_, rfl⟩
  rw [h4]
  have h4' : (if 8 < j3 then 8 else j3) = j4 := h4
  have l4 : 0 ≤ j4 := by rw [← h4]; unfold mn; split <;> omega
  have l5 : j4 ≤ 8 := by rw [← h4]; unfold mn; split <;> omega
  clear h3 h4
  go_enter Try.func73, Try.ntmps73
  go_wp2
  go_ret
  exact ⟨rfl, rfl⟩

/-- Byte i of a word that is programmed. -/
def tornB (f : ByteArray) (at_ : Nat) (x : ByteArray) (many : Int) (i : Nat) : Int := Go.bits .and .u8 (bt f ((at_ + i : Nat) : Int)) (maskV (bt x (i : Int)) (many - 8 * (i : Int)))
def tornL (f : ByteArray) (at_ : Nat) (x : ByteArray) (many : Int) (k : Nat) : List Int := (List.range 4).map fun i => if i < k then tornB f at_ x many i else bt f ((at_ + i : Nat) : Int)
theorem tornL_length (f : ByteArray) (at_ : Nat) (x : ByteArray) (many : Int) (k : Nat) : (tornL f at_ x many k).length = 4 := by simp [tornL]
theorem tornL_at (f : ByteArray) (at_ : Nat) (x : ByteArray) (many : Int) (k : Nat) (h : k < 4) : (tornL f at_ x many k).getD k 0 = bt f ((at_ + k : Nat) : Int) := by
  simp [tornL, List.getD_eq_getElem?_getD, h]
theorem tornL_set (f : ByteArray) (at_ : Nat) (x : ByteArray) (many : Int) (k : Nat) (h : k < 4) : (tornL f at_ x many k).set k (tornB f at_ x many k) = tornL f at_ x many (k + 1) := by
  apply List.ext_getElem (by simp [tornL])
  intro i h1 h2
  rw [List.getElem_set]
  simp only [tornL, List.getElem_map, List.getElem_range]
  by_cases e : k = i
  · subst e; simp
  · rw [if_neg e]
    by_cases h3 : i < k
    · rw [if_pos h3, if_pos (by omega)]
    · rw [if_neg h3, if_neg (by omega)]
theorem tornL_zero (f : ByteArray) (at_ : Nat) (x : ByteArray) (many : Int) (h : at_ + 4 ≤ f.size) : bytesOf (f.extract at_ (at_ + 4)) = tornL f at_ x many 0 := by
  have hs : (f.extract at_ (at_ + 4)).size = 4 := by simp [ByteArray.size_extract]; omega
  apply List.ext_getElem
  · rw [bytesOf_length, hs]; simp [tornL]
  · intro i h1 h2
    have hi : i < 4 := by simpa [tornL] using h2
    simp only [tornL, List.getElem_map, List.getElem_range, Nat.not_lt_zero, if_false]
    have e1 := rd_bytesOf (f.extract at_ (at_ + 4)) (i : Int)
    have e2 : rd (bytesOf (f.extract at_ (at_ + 4))) (i : Int) = (bytesOf (f.extract at_ (at_ + 4)))[i] := by unfold rd; simp [List.getD_eq_getElem?_getD, h1]
    rw [← e2, e1]
    unfold bt
    have e3 : ((at_ : Int) + i).toNat = at_ + i := by omega
    simp [hs, hi, show at_ + i < f.size by omega, ByteArray.getElem_extract, e3]
def tornF (f : ByteArray) (at_ : Nat) (x : ByteArray) (many : Int) : ByteArray := (f.extract 0 at_ ++ strOfNums (tornL f at_ x many 4)) ++ f.extract (at_ + 4) f.size
def nor_Torn.f (a0 : ByteArray) (a1 : Int) (a2 : ByteArray) (a3 : Int) : Option (ByteArray × Int) :=
  if (a0.size : Int) = 768 then (if a1 ≥ 0 then (if a1 < 768 then (if Int.tmod a1 4 = 0 then (if (a2.size : Int) = 4 then (if a3 < 0 then some (⟨#[]⟩, 200) else (if a3 > 32 then some (⟨#[]⟩, 200) else some (tornF a0 a1.toNat a2 a3, 0))) else some (⟨#[]⟩, 200)) else some (⟨#[]⟩, 200)) else some (⟨#[]⟩, 200)) else some (⟨#[]⟩, 200)) else some (⟨#[]⟩, 200)

set_option maxRecDepth 100000 in
set_option maxHeartbeats 2000000 in
theorem nor_Torn.calls (a0 : ByteArray) (a1 : Int) (a2 : ByteArray) (a3 : Int) (r1 : ByteArray) (r2 : Int) (w : World) (h : nor_Torn.f a0 a1 a2 a3 = some (r1, r2)) :
    Calls Try.prog 47 #[.string a0, .int .i64 a1, .string a2, .int .i64 a3] w fun e w' => e = .returned (.tuple #[.string r1, .int .i64 r2]) ∧ Below w.heap.size w w' := by
  unfold nor_Torn.f at h
  have HB := Below.refl w.heap.size w
  by_cases c1 : (a0.size : Int) = 768
  case neg =>
    rw [if_neg c1] at h
    simp only [Option.some.injEq, Prod.mk.injEq] at h
    obtain ⟨rfl, rfl⟩ := h
    have b1 : ((a0.size : Int) == 768) = false := beq_eq_false_iff_ne.mpr c1
    clear c1
    go_enter Try.func47, Try.ntmps47
    go_wp2
    go_ret2
    exact ⟨rfl, by repeat (first | (with_reducible first | exact HB | apply below_alloc | apply pw_below_drewN | apply below_drew1) | exact HB)⟩
  rw [if_pos c1] at h
  have b1 : ((a0.size : Int) == 768) = true := beq_iff_eq.mpr c1
  by_cases c2 : a1 ≥ 0
  case neg =>
    rw [if_neg c2] at h
    simp only [Option.some.injEq, Prod.mk.injEq] at h
    obtain ⟨rfl, rfl⟩ := h
    have b2 : decide (0 ≤ a1) = false := decide_eq_false c2
    clear c1 c2
    go_enter Try.func47, Try.ntmps47
    go_wp2
    go_ret2
    exact ⟨rfl, by repeat (first | (with_reducible first | exact HB | apply below_alloc | apply pw_below_drewN | apply below_drew1) | exact HB)⟩
  rw [if_pos c2] at h
  have b2 : decide (0 ≤ a1) = true := decide_eq_true c2
  by_cases c3 : a1 < 768
  case neg =>
    rw [if_neg c3] at h
    simp only [Option.some.injEq, Prod.mk.injEq] at h
    obtain ⟨rfl, rfl⟩ := h
    have b3 : decide (a1 < 768) = false := decide_eq_false c3
    clear c1 c2 c3
    go_enter Try.func47, Try.ntmps47
    go_wp2
    go_ret2
    exact ⟨rfl, by repeat (first | (with_reducible first | exact HB | apply below_alloc | apply pw_below_drewN | apply below_drew1) | exact HB)⟩
  rw [if_pos c3] at h
  have b3 : decide (a1 < 768) = true := decide_eq_true c3
  by_cases c4 : Int.tmod a1 4 = 0
  case neg =>
    rw [if_neg c4] at h
    simp only [Option.some.injEq, Prod.mk.injEq] at h
    obtain ⟨rfl, rfl⟩ := h
    have b4 : (Int.tmod a1 4 == 0) = false := beq_eq_false_iff_ne.mpr c4
    clear c1 c2 c3 c4
    go_enter Try.func47, Try.ntmps47
    go_wp2
    go_ret2
    exact ⟨rfl, by repeat (first | (with_reducible first | exact HB | apply below_alloc | apply pw_below_drewN | apply below_drew1) | exact HB)⟩
  rw [if_pos c4] at h
  have b4 : (Int.tmod a1 4 == 0) = true := beq_iff_eq.mpr c4
  by_cases c5 : (a2.size : Int) = 4
  case neg =>
    rw [if_neg c5] at h
    simp only [Option.some.injEq, Prod.mk.injEq] at h
    obtain ⟨rfl, rfl⟩ := h
    have b5 : ((a2.size : Int) != 4) = true := bne_iff_ne.mpr c5
    have b5' : ((a2.size : Int) == 4) = false := beq_eq_false_iff_ne.mpr c5
    clear c1 c2 c3 c4 c5
    go_enter Try.func47, Try.ntmps47
    go_wp2
    go_ret2
    exact ⟨rfl, by repeat (first | (with_reducible first | exact HB | apply below_alloc | apply pw_below_drewN | apply below_drew1) | exact HB)⟩
  rw [if_pos c5] at h
  have b5 : ((a2.size : Int) != 4) = false := bne_eq_false_iff_eq.mpr c5
  have b5' : ((a2.size : Int) == 4) = true := beq_iff_eq.mpr c5
  by_cases c6 : a3 < 0
  case pos =>
    rw [if_pos c6] at h
    simp only [Option.some.injEq, Prod.mk.injEq] at h
    obtain ⟨rfl, rfl⟩ := h
    have b6 : decide (a3 < 0) = true := decide_eq_true c6
    clear c1 c2 c3 c4 c5 c6
    go_enter Try.func47, Try.ntmps47
    go_wp2
    go_ret2
    exact ⟨rfl, by repeat (first | (with_reducible first | exact HB | apply below_alloc | apply pw_below_drewN | apply below_drew1) | exact HB)⟩
  rw [if_neg c6] at h
  have b6 : decide (a3 < 0) = false := decide_eq_false c6
  by_cases c7 : a3 > 32
  case pos =>
    rw [if_pos c7] at h
    simp only [Option.some.injEq, Prod.mk.injEq] at h
    obtain ⟨rfl, rfl⟩ := h
    have b7 : decide (32 < a3) = true := decide_eq_true c7
    clear c1 c2 c3 c4 c5 c6 c7
    go_enter Try.func47, Try.ntmps47
    go_wp2
    go_ret2
    exact ⟨rfl, by repeat (first | (with_reducible first | exact HB | apply below_alloc | apply pw_below_drewN | apply below_drew1) | exact HB)⟩
  rw [if_neg c7] at h
  have b7 : decide (32 < a3) = false := decide_eq_false c7
  simp only [Option.some.injEq, Prod.mk.injEq] at h
  obtain ⟨rfl, rfl⟩ := h
  have hem : a1 % 4 = 0 := by rw [← Int.tmod_eq_emod_of_nonneg (b := 4) c2]; exact c4
  have h764 : a1 ≤ 764 := by omega
  have b4e : (a1 % 4 == 0) = true := beq_iff_eq.mpr hem
  clear hem b4
  clear c4
  have e1 := eq_true (show 0 ≤ a1 from c2)
  have e2 := eq_true (show a1 ≤ a1 + 4 by omega)
  have e3 := eq_true (show a1 + 4 ≤ (a0.size : Int) by omega)
  have e4 := eq_true (show 0 ≤ a1 + 4 by omega)
  have hsz : (a0.extract a1.toNat (a1 + 4).toNat).size = 4 := by rw [ByteArray.size_extract]; omega
  go_enter Try.func47, Try.ntmps47
  go_wp2_with (first | go_in | (refine conv_event (w0 := w) rfl 9 30 5 _ rfl Try.underlying9 Try.underlying30 Try.underlying5 _ (by first | rfl | (go_simp; rfl)) (Below.refl _ _) ?_))
  intro g c w1 hg hc hm hb hgw
  have ht4 : (a1 + 4).toNat = a1.toNat + 4 := by omega
  rw [ht4, tornL_zero a0 a1.toNat a2 a3 (by omega)] at hm
  clear HB hsz ht4
  go_wp2
  go_loopw [41] (fun i wr => ∃ k : Nat, k ≤ 4 ∧ i = .int .i64 k ∧ MRow wr g (tornL a0 a1.toNat a2 a3 k) ∧ Below w.heap.size w wr) (fun i _ => 4 - (intOf i).toNat)
  case atStart => exact ⟨0, Nat.zero_le _, rfl, hm, hb⟩
  case round =>
    obtain ⟨k, hk, rfl, hm1, hb1⟩ := hrel
    by_cases hlt : k < 4
    · obtain ⟨hcell, hfr⟩ := hm1 k (by rw [tornL_length]; exact hlt)
      rw [tornL_at _ _ _ _ _ hlt] at hcell
      have hm2 := hm1.set k (tornB a0 a1.toNat a2 a3 k)
      rw [tornL_set _ _ _ _ _ hlt] at hm2
      have HM := Lib.hid hm2
      clear hm2 hm1 hm
      have hz : k < a2.size := by omega
      have hbt : bt a2 (k : Int) = ((a2[k]'hz).toNat : Int) := by unfold bt; simp [hz]
      have hmk := mask_same (bt a2 (k : Int)) (a3 - 8 * (k : Int)) wr.drew (by omega) (by omega)
      rw [hbt] at hmk
      have hw1 : IntKind.i64.wrap (8 * (k : Int)) = 8 * k := IntWalk.i64_in _ (by omega)
      have hw2 : IntKind.i64.wrap (a3 - 8 * (k : Int)) = a3 - 8 * k := IntWalk.i64_in _ (by omega)
      have HT : Hid (tornB a0 a1.toNat a2 a3 k = Go.bits .and .u8 (bt a0 ((a1.toNat + k : Nat) : Int)) (maskV ((a2[k]'hz).toNat : Int) (a3 - 8 * (k : Int)))) := by unfold tornB; rw [hbt]; trivial
      clear hbt
      generalize bt a0 ((a1.toNat + k : Nat) : Int) = xb at hcell HT
      generalize maskV ((a2[k]'hz).toNat : Int) (a3 - 8 * (k : Int)) = xm at hmk HT
      go_wp2
      go_still_tail 14, (by kernel_rfl)
      still_call hmk
      repeat still_step
      refine wpStill_nil ?_
      clear hw1 hw2 hmk
      change wpList _ _ _ _ _ wr.drew
      go_wp2
      go_roundw
      case rel => exact ⟨k + 1, by omega, by go_num, by have h_ := HM.out; rw [HT.out] at h_; exact h_, by first | exact below_drew1 (below_set hb1 hg) | exact below_set (below_drew1 hb1) hg⟩
      case measure => simp [intOf]; omega
    · obtain rfl : k = 4 := by omega
      have hconv := run_convert_bytes_arg (P := Try.prog) wr 30 5 Try.underlying30 Try.underlying5 g 0 4 c (tornL a0 a1.toNat a2 a3 4) (tornL_length _ _ _ _ _) (fun i hi => by have := (hm1 i (by rw [tornL_length]; exact hi)).1; rw [Nat.zero_add]; exact this) 9 Try.underlying9
      have hso : (strOfNums (tornL a0 a1.toNat a2 a3 4)).size = 4 := by rw [strOfNums_size', tornL_length]
      have hwith := with_any a0 a1.toNat (strOfNums (tornL a0 a1.toNat a2 a3 4)) wr (by omega) (by omega)
      rw [hso] at hwith
      rw [show ((a1.toNat : Nat) : Int) = a1 by omega] at hwith
      clear hm1 hm hso
      go_wp2_with (go_at_call 72; (with_reducible refine hwith.mono ?_); rintro e w' ⟨rfl, ⟨nd, rfl⟩⟩)
      go_ret2
      exact ⟨rfl, pw_below_drewN hb1 _⟩
end Go.Proofs.Ytjihlabmddfjhaa.Hand
