/- strings.Repeat as a function of numbers and bytes: many copies of a text, if they take at most 2^47 bytes. -/
import Derived.Test.YtjihlabmddfjhaaHShelf
namespace Go.Proofs.Ytjihlabmddfjhaa.Hand
open Go.RowKit
def strings_Repeat.f (a0 : ByteArray) (a1 : Int) : Option ByteArray :=
  if 0 ≤ a1 then (if a1 ≤ 9223372036854775807 then (if a0.size * a1.toNat ≤ 140737488355328 then some ⟨(Lib.repeatL a0.data.toList a1.toNat).toArray⟩ else none) else none) else none
theorem strings_Repeat.calls (a0 : ByteArray) (a1 : Int) (r : ByteArray) (w : World) (h : strings_Repeat.f a0 a1 = some r) :
    Calls Try.prog 42 #[.string a0, .int .i64 a1] w fun e w' => e = .returned (.string r) ∧ Below w.heap.size w w' := by
  unfold strings_Repeat.f at h
  by_cases c1 : 0 ≤ a1
  · rw [if_pos c1] at h
    by_cases c2 : a1 ≤ 9223372036854775807
    · rw [if_pos c2] at h
      by_cases c3 : a0.size * a1.toNat ≤ 140737488355328
      · rw [if_pos c3] at h
        obtain rfl := Option.some.inj h
        have hk := Try.strings_Repeat a0 a1.toNat w (by omega) c3
        rw [show ((a1.toNat : Nat) : Int) = a1 by omega] at hk
        exact hk
      · rw [if_neg c3] at h; exact absurd h (by simp)
    · rw [if_neg c2] at h; exact absurd h (by simp)
  · rw [if_neg c1] at h; exact absurd h (by simp)
end Go.Proofs.Ytjihlabmddfjhaa.Hand
