/- The program's crc.Sum: what it answers for every text of at most 2^47 bytes, and that it changes nothing that was there. -/
import Derived.Test.YtjihlabmddfjhaaHWords
import Derived.Test.YtjihlabmddfjhaaPBasex1
set_option linter.unnecessarySimpa false
set_option linter.unusedSimpArgs false
set_option linter.unusedVariables false
namespace Go.Proofs.Ytjihlabmddfjhaa.Hand
open Go.RowKit Go.Proofs.YtjihlabmddfjhaaW.PrintWords Go.Proofs.YtjihlabmddfjhaaW.PrintLast Go.Proofs.YtjihlabmddfjhaaW.PrintMore Go.Proofs.Ytjihlabmddfjhaa.HWords

def crcStep (x b : Int) : Int := (PBase.crc_step.f 9 x b).getD 0
theorem step_some (d : Nat) : ∀ (k : Nat) (x i : Int), 0 ≤ i → 8 - i = d → d < k → ∃ r, PBase.crc_step.l0 k x i = some r := by
  induction d with
  | zero =>
    intro k x i h0 hd hk
    obtain ⟨k, rfl⟩ : ∃ m, k = m + 1 := ⟨k - 1, by omega⟩
    exact ⟨x, by simp only [PBase.crc_step.l0]; rw [if_neg (by omega)]⟩
  | succ d ih =>
    intro k x i h0 hd hk
    obtain ⟨k, rfl⟩ : ∃ m, k = m + 1 := ⟨k - 1, by omega⟩
    have hw : wrap64 (i + 1) = i + 1 := by unfold wrap64; omega
    simp only [PBase.crc_step.l0]; rw [if_pos (by omega), hw]
    split
    · exact ih k _ _ (by omega) (by omega) (by omega)
    · exact ih k _ _ (by omega) (by omega) (by omega)
theorem crcStep_eq (x b : Int) : PBase.crc_step.f 9 x b = some (crcStep x b) := by
  obtain ⟨r, hr⟩ := step_some 8 9 (Go.bits .xor .u32 x (b % 4294967296)) 0 (by omega) (by omega) (by omega)
  have : PBase.crc_step.f 9 x b = some r := hr
  unfold crcStep
  rw [this]; rfl
def crcL (l : List Int) : Int := l.foldl crcStep 4294967295
theorem crcL_snoc (l : List Int) (b : Int) : crcL (l ++ [b]) = crcStep (crcL l) b := by simp [crcL]
def crc_Sum.f (a0 : ByteArray) : Option Int := if a0.size ≤ 140737488355328 then some (wrap64 (Go.bits .xor .u32 IntKind.u32.max (crcL (bytesOf a0)))) else none
theorem take_snoc' (l : List Int) (k : Nat) (h : k < l.length) : l.take (k + 1) = l.take k ++ [l.getD k 0] := by
  rw [List.take_succ_eq_append_getElem h]; simp [List.getD_eq_getElem?_getD, h]

set_option maxHeartbeats 1000000 in
theorem crc_Sum.calls (a0 : ByteArray) (r : Int) (w : World) (h : crc_Sum.f a0 = some r) :
    Calls Try.prog 39 #[.string a0] w fun e w' => e = .returned (.int .i64 r) ∧ Below w.heap.size w w' := by
  unfold crc_Sum.f at h
  by_cases hs : a0.size ≤ 140737488355328
  · rw [if_pos hs] at h
    obtain rfl := Option.some.inj h
    clear h
    go_enter Try.func39, Try.ntmps39
    go_wp2_with (refine conv_event (w0 := w) rfl 9 30 5 _ rfl Try.underlying9 Try.underlying30 Try.underlying5 a0 rfl (Below.refl _ _) ?_)
    intro g c w1 hg hc hm hb hgw
    go_wp2
    go_loopw [3, 9] (fun x i wr => ∃ k : Nat, k ≤ a0.size ∧ i = .int .i64 k ∧ x = .int .u32 (crcL ((bytesOf a0).take k)) ∧ MRow wr g (bytesOf a0) ∧ Below w.heap.size w wr) (fun _ i _ => a0.size - (intOf i).toNat)
    case atStart => exact ⟨0, Nat.zero_le _, rfl, rfl, hm, hb⟩
    case round =>
      obtain ⟨k, hk, rfl, rfl, hm1, hb1⟩ := hrel
      by_cases hlt : k < a0.size
      · have hk2 : k < (bytesOf a0).length := by rw [bytesOf_length]; exact hlt
        have hcell := (hm1 k hk2).1
        have HX : Hid (crcL ((bytesOf a0).take (k + 1)) = crcStep (crcL ((bytesOf a0).take k)) ((bytesOf a0).getD k 0)) := by rw [take_snoc' _ _ hk2, crcL_snoc]; trivial
        go_wp2_with (go_at_call 61; (with_reducible refine (PBase.crc_step.calls 9 _ _ _ _ (crcStep_eq _ _)).mono ?_); rintro e w' ⟨rfl, ⟨nd, rfl⟩⟩)
        go_roundw
        case rel => exact ⟨k + 1, by omega, by go_num, by rw [HX.out]; simp [List.getD_eq_getElem?_getD, hk2], hm1, pw_below_drewN hb1 _⟩
        case measure => simp [intOf]; omega
      · obtain rfl : k = a0.size := by omega
        go_wp2
        go_ret
        rw [List.take_of_length_le (by rw [bytesOf_length]; exact Nat.le_refl _)]
        exact ⟨rfl, hb1⟩
  · rw [if_neg hs] at h; exact absurd h (by simp)
end Go.Proofs.Ytjihlabmddfjhaa.Hand
