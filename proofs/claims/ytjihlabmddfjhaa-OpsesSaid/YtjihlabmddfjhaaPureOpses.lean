/- Steps of a flash, words of a text, cuts: the program answers what the document's reference answers, for every flash, step, place, text and cut. -/
import Derived.Test.YtjihlabmddfjhaaMAwake3
import Derived.Test.YtjihlabmddfjhaaPAllx0
import Derived.Test.YtjihlabmddfjhaaPAllx5
import Derived.Test.YtjihlabmddfjhaaPAllx6
import Derived.Test.YtjihlabmddfjhaaPAllx7
set_option linter.unnecessarySimpa false
set_option linter.unusedSimpArgs false
set_option linter.unusedVariables false
namespace Go.Proofs.Ytjihlabmddfjhaa.Pure
open Go.RowKit Go.Proofs.Ytjihlabmddfjhaa.Hand Go.Proofs.Ytjihlabmddfjhaa.PAll Go.Proofs.YtjihlabmddfjhaaW.PrintWords Go.Proofs.YtjihlabmddfjhaaW.PrintLast Go.Proofs.Ytjihlabmddfjhaa.M

theorem same_go (l : List S35) (hl : l.length ≤ 4611686018427387904) (d : Nat) : ∀ (k i : Nat), i ≤ l.length → l.length - i = d → d < k → skifflaw0_SameOps.l0 k l l (i : Int) = some true := by
  induction d with
  | zero =>
    intro k i hi hd hk
    obtain ⟨k, rfl⟩ : ∃ m, k = m + 1 := ⟨k - 1, by omega⟩
    simp only [skifflaw0_SameOps.l0]
    rw [if_neg (by omega)]
  | succ d ih =>
    intro k i hi hd hk
    obtain ⟨k, rfl⟩ : ∃ m, k = m + 1 := ⟨k - 1, by omega⟩
    simp only [skifflaw0_SameOps.l0]
    rw [if_pos (by omega), if_pos (by omega), if_pos (by omega), if_neg (by simp), wrap_id (by omega)]
    have := ih k (i + 1) (by omega) (by omega) (by omega)
    exact this
theorem same_ev (l : List S35) (hl : l.length ≤ 4611686018427387904) : Ev (fun k => skifflaw0_SameOps.f k l l) true := by
  refine Ev.of (fun k => skifflaw0_SameOps.mono _ _ _) (k := l.length + 1) ?_
  unfold skifflaw0_SameOps.f
  rw [if_pos rfl]
  exact same_go l hl l.length _ 0 (by omega) (by omega) (by omega)
theorem spoil_go (n : Nat) (hl : n ≤ 4611686018427387904) (d : Nat) : ∀ (k i : Nat) (l : List S35), l.length = n → i ≤ n → n - i = d → d < k → ∃ r, skifflaw0_SpoilOps.l0 k l (i : Int) = some r := by
  induction d with
  | zero =>
    intro k i l hn hi hd hk
    obtain ⟨k, rfl⟩ : ∃ m, k = m + 1 := ⟨k - 1, by omega⟩
    exact ⟨l, by simp only [skifflaw0_SpoilOps.l0]; rw [if_neg (by omega)]⟩
  | succ d ih =>
    intro k i l hn hi hd hk
    obtain ⟨k, rfl⟩ : ∃ m, k = m + 1 := ⟨k - 1, by omega⟩
    simp only [skifflaw0_SpoilOps.l0]
    rw [if_pos (by omega), if_pos (by omega), wrap_id (by omega)]
    exact ih k (i + 1) _ (by rw [List.length_set]; exact hn) (by omega) (by omega) (by omega)
theorem spoil_ev (l : List S35) (hl : l.length ≤ 4611686018427387904) : ∃ r, Ev (fun k => skifflaw0_SpoilOps.f k l) r := by
  obtain ⟨r, hr⟩ := spoil_go l.length hl l.length (l.length + 1) 0 l rfl (by omega) (by omega) (by omega)
  exact ⟨r, Ev.of (fun k => skifflaw0_SpoilOps.mono _ _) (k := l.length + 1) hr⟩
theorem wordsV_length (a : Int) (t : ByteArray) : (wordsV a t).1.length ≤ 1000 := by
  unfold wordsV
  split
  · rename_i h; obtain ⟨h0, h1, h2, h3⟩ := h; rw [wl_length]; unfold many; omega
  · simp
def OpsesPure : Prop := ∀ (a0 : ByteArray) (a1_0 : Bool) (a1_1 : Int) (a1_2 : ByteArray) (a2 : Int) (a3 : ByteArray) (a4 : Int), I64 a1_1 → I64 a2 → a3.size ≤ 140737488351232 → ∃ k, skifflaw3_Opses.f k a0 a1_0 a1_1 a1_2 a2 a3 a4 = some true
theorem Opses : OpsesPure := by
  intro f e a t p s cut ha hp hs
  refine Ev.rounds (g := fun k => skifflaw3_Opses.f k f e a t p s cut) ?_
  unfold skifflaw3_Opses.f
  refine Ev.bind (ops_Words_ev p s hp hs) (Ev.bind (ref_Words_ev p s hp hs) (Ev.bind (ops_Do_ev f e a t ha) (Ev.bind (ref_Do_ev f e a t) ?_)))
  simp only [ref_OpMay_eq, Option.bind_some]
  have hl := wordsV_length p s
  generalize wordsV p s = W at hl ⊢
  obtain ⟨l, n⟩ := W
  simp only at hl ⊢
  obtain ⟨r, hr⟩ := spoil_ev l (by omega)
  have hj1 : Ev (fun k => skifflaw3_Opses.j1 k l false) true := by
    refine Ev.step (f := fun k => (skifflaw0_SpoilOps.f k l).bind fun t409 => ((skifflaw3_awake.f k).bind fun t410 => (some t410))) (fun k => by simp only [skifflaw3_Opses.j1, Bool.false_eq_true, if_false]) ?_
    exact Ev.bind hr (Ev.bind awake3 (Ev.always fun k => rfl))
  have key : ∀ (y : ByteArray) (q : Int), Ev (fun k => skifflaw3_Opses.j0 k f cut l n l n y q y q e a t) true := by
    intro y q
    refine Ev.step (fun k => by rw [skifflaw3_Opses.j0]) ?_
    refine Ev.bind (ops_Cut_ev f e a t cut ha) (Ev.bind (ref_Cut_ev f e a t cut) (Ev.bind (same_ev l (by omega)) ?_))
    simp only [num_eq, Option.bind_some, if_true, ops_May_eq e a t ha, ref_OpMay_eq, bne_self_eq_false]
    exact hj1
  cases h : opMay e a t with
  | true =>
    simp only [if_true]
    exact key _ _
  | false =>
    simp only [Bool.false_eq_true, if_false]
    have hno : ¬ cutOk f e a t 96 := by unfold cutOk; rw [h]; simp
    rw [cutV_no hno]
    exact key _ _
end Go.Proofs.Ytjihlabmddfjhaa.Pure
