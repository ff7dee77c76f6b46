/- The program's entry.complement: what it answers for every text of at most 2^47 bytes, and that it changes nothing that was there. -/
import Derived.Test.YtjihlabmddfjhaaHSum
import Derived.Lib.Hide
set_option linter.unnecessarySimpa false
set_option linter.unusedSimpArgs false
set_option linter.unusedVariables false
namespace Go.Proofs.Ytjihlabmddfjhaa.Hand
open Go.RowKit Go.Proofs.YtjihlabmddfjhaaW.PrintWords Go.Proofs.YtjihlabmddfjhaaW.PrintLast Go.Proofs.YtjihlabmddfjhaaW.PrintMore Go.Proofs.Ytjihlabmddfjhaa.HWords

def complB (b : Int) : Int := Go.bits .xor .u8 IntKind.u8.max b
def complL (l : List Int) (k : Nat) : List Int := (l.take k).map complB ++ l.drop k
theorem complL_length (l : List Int) (k : Nat) : (complL l k).length = l.length := by simp [complL]; omega
theorem complL_at (l : List Int) (k : Nat) (h : k < l.length) : (complL l k).getD k 0 = l.getD k 0 := by
  simp [complL, List.getD_eq_getElem?_getD, List.getElem?_append, h, Nat.min_eq_left (Nat.le_of_lt h)]
theorem complL_set (l : List Int) (k : Nat) (h : k < l.length) : (complL l k).set k (complB (l.getD k 0)) = complL l (k + 1) := by
  apply List.ext_getElem?
  intro i
  rw [List.getElem?_set]
  simp only [complL, List.getElem?_append, List.length_map, List.length_take, List.getElem?_map, List.getElem?_take, List.getElem?_drop, List.length_append, List.length_drop, List.getD_eq_getElem?_getD]
  rw [Nat.min_eq_left (Nat.le_of_lt h), Nat.min_eq_left h]
  by_cases e : k = i
  · subst e
    simp [h]; omega
  · rw [if_neg e]
    by_cases h1 : i < k
    · simp [h1, show i < k + 1 by omega]
    · rw [if_neg h1, if_neg (by omega)]
      congr 1; omega
def entry_complement.f (a0 : ByteArray) : Option ByteArray := if a0.size ≤ 140737488355328 then some (strOfNums ((bytesOf a0).map complB)) else none

set_option maxHeartbeats 1000000 in
theorem entry_complement.calls (a0 : ByteArray) (r : ByteArray) (w : World) (h : entry_complement.f a0 = some r) :
    Calls Try.prog 74 #[.string a0] w fun e w' => e = .returned (.string r) ∧ Below w.heap.size w w' := by
  unfold entry_complement.f at h
  by_cases hs : a0.size ≤ 140737488355328
  · rw [if_pos hs] at h
    obtain rfl := Option.some.inj h
    clear h
    go_enter Try.func74, Try.ntmps74
    go_wp2_with (refine conv_event (w0 := w) rfl 9 30 5 _ rfl Try.underlying9 Try.underlying30 Try.underlying5 a0 rfl (Below.refl _ _) ?_)
    intro g c w1 hg hc hm hb hgw
    go_wp2
    go_loopw [9] (fun i wr => ∃ k : Nat, k ≤ a0.size ∧ i = .int .i64 k ∧ MRow wr g (complL (bytesOf a0) k) ∧ Below w.heap.size w wr) (fun i _ => a0.size - (intOf i).toNat)
    case atStart => exact ⟨0, Nat.zero_le _, rfl, by simpa [complL] using hm, hb⟩
    case round =>
      obtain ⟨k, hk, rfl, hm1, hb1⟩ := hrel
      by_cases hlt : k < a0.size
      · have hk2 : k < (bytesOf a0).length := by rw [bytesOf_length]; exact hlt
        obtain ⟨hcell, hfr⟩ := hm1 k (by rw [complL_length]; exact hk2)
        rw [complL_at _ _ hk2] at hcell
        have hm2 := hm1.set k (complB ((bytesOf a0).getD k 0))
        rw [complL_set _ _ hk2] at hm2
        have HM := Lib.hid hm2
        clear hm2
        generalize (bytesOf a0).getD k 0 = x at hcell HM
        go_wp2
        go_roundw
        case rel => exact ⟨k + 1, by omega, by go_num, HM.out, below_set hb1 hg⟩
        case measure => simp [intOf]; omega
      · obtain rfl : k = a0.size := by omega
        have hfull : complL (bytesOf a0) a0.size = (bytesOf a0).map complB := by
          unfold complL
          rw [List.take_of_length_le (by rw [bytesOf_length]; exact Nat.le_refl _), List.drop_eq_nil_of_le (by rw [bytesOf_length]; exact Nat.le_refl _), List.append_nil]
        rw [hfull] at hm1
        have hl : ((bytesOf a0).map complB).length = a0.size := by rw [List.length_map, bytesOf_length]
        have hconv := run_convert_bytes_arg (P := Try.prog) wr 30 5 Try.underlying30 Try.underlying5 g 0 a0.size c ((bytesOf a0).map complB) hl (fun i hi => by have := (hm1 i (by omega)).1; rw [Nat.zero_add]; exact this) 9 Try.underlying9
        clear hm1 hfull hl
        go_wp2
        go_ret
        exact ⟨rfl, hb1⟩
  · rw [if_neg hs] at h; exact absurd h (by simp)
end Go.Proofs.Ytjihlabmddfjhaa.Hand
