/- A text has as many words as it needs, one behind the other: for every place and every text of at most 2^47 - 4096 bytes. -/
import Derived.Test.YtjihlabmddfjhaaMAwake3
import Derived.Test.YtjihlabmddfjhaaPAllx10
set_option linter.unnecessarySimpa false
set_option linter.unusedSimpArgs false
set_option linter.unusedVariables false
namespace Go.Proofs.Ytjihlabmddfjhaa.Pure
open Go.RowKit Go.Proofs.Ytjihlabmddfjhaa.Hand Go.Proofs.Ytjihlabmddfjhaa.PAll Go.Proofs.YtjihlabmddfjhaaW.PrintWords Go.Proofs.YtjihlabmddfjhaaW.PrintLast Go.Proofs.Ytjihlabmddfjhaa.M

theorem wf_I64' {n : Int} (h : (Lit.int .i64 n).wf = true) : I64 n := by
  simp [Lit.wf, IntKind.min, IntKind.max, IntKind.signed, IntKind.bits] at h
  omega
/-- s is the first m bytes of t, and 255 behind t's end. -/
def joined (t : ByteArray) (m : Nat) (s : ByteArray) : Prop := s.size = m ∧ ∀ i : Nat, i < m → bt s i = if i < t.size then bt t i else 255
theorem joined_step (t s : ByteArray) (j : Nat) (h : joined t (4 * j) s) (hj : 4 * j < t.size) : joined t (4 * (j + 1)) (s ++ wordAt t j) := by
  obtain ⟨h1, h2⟩ := h
  refine ⟨by rw [ByteArray.size_append, wordAt_size t j hj]; omega, fun i hi => ?_⟩
  rw [bt_append, h1]
  by_cases c : i < 4 * j
  · rw [if_pos c, h2 i c]
  · rw [if_neg c, wordAt_bt t j _ hj (by omega)]
    rw [show 4 * j + (i - 4 * j) = i by omega]
theorem tail_go (s : ByteArray) (n : Nat) (hs : s.size ≤ 1000) (h : ∀ i : Nat, n ≤ i → i < s.size → bt s i = 255) (d : Nat) : ∀ (k i : Nat), n ≤ i → i ≤ s.size → s.size - i = d → d < k → skifflaw3_OpsMany.l1 k s (i : Int) = some true := by
  induction d with
  | zero =>
    intro k i h0 hi hd hk
    obtain ⟨k, rfl⟩ : ∃ m, k = m + 1 := ⟨k - 1, by omega⟩
    rw [skifflaw3_OpsMany.l1, if_neg (by omega)]
  | succ d ih =>
    intro k i h0 hi hd hk
    obtain ⟨k, rfl⟩ : ∃ m, k = m + 1 := ⟨k - 1, by omega⟩
    rw [skifflaw3_OpsMany.l1, if_pos (by omega), if_pos (by omega), if_pos (h i h0 (by omega)), wrap_id (by omega)]
    exact ih k (i + 1) (by omega) (by omega) (by omega) (by omega)
theorem many_go (a : Int) (t : ByteArray) (h0 : 0 ≤ a) (ha : a % 4 = 0) (hr : a + t.size ≤ 768) (d : Nat) : ∀ (j : Nat) (s : ByteArray), j ≤ many t → many t - j = d → joined t (4 * j) s →
    Ev (fun k => skifflaw3_OpsMany.l0 k a t (wl a t (many t)) s (j : Int)) true := by
  induction d with
  | zero =>
    intro j s hj hd hs
    obtain rfl : j = many t := by omega
    obtain ⟨h1, h2⟩ := hs
    have hm : t.size ≤ 4 * many t := by unfold many; omega
    have hm2 : 4 * many t < t.size + 4 := by unfold many; omega
    have e1 : s.extract 0 t.size = t := by
      apply bt_ext
      · rw [ByteArray.size_extract]; omega
      · intro i hi
        rw [ByteArray.size_extract] at hi
        rw [bt_extract _ _ _ _ (by omega), Nat.zero_add, h2 _ (by omega), if_pos (by omega)]
    have w1 : wrap64 ((t.size : Int) + 4) = t.size + 4 := wrap_id (by omega)
    refine Ev.step (f := fun k => skifflaw3_OpsMany.j1 k t s false) (fun k => ?_) ?_
    · rw [skifflaw3_OpsMany.l0, if_neg (by rw [wl_length]; omega), if_neg (by omega), w1, if_neg (by omega), if_pos (by omega), if_pos (by omega), Int.toNat_natCast, e1]
      simp only [bne_self_eq_false]
    · refine Ev.step (f := fun k => skifflaw3_OpsMany.l1 k s (t.size : Int)) (fun k => by rw [skifflaw3_OpsMany.j1, if_neg (by decide)]) ?_
      refine ⟨s.size + 1, fun k hk => ?_⟩
      exact tail_go s t.size (by omega) (fun i hi hi2 => by rw [h2 i (by omega), if_neg (by omega)]) (s.size - t.size) k t.size (by omega) (by omega) rfl (by omega)
  | succ d ih =>
    intro j s hj hd hs
    have hlt : 4 * j < t.size := by unfold many at hd hj; omega
    have h2 := joined_step t s j hs hlt
    have hi := ih (j + 1) _ (by omega) (by omega) h2
    have hok : opMay false (a + 4 * (j : Int)) (wordAt t j) = true := by
      unfold opMay; rw [if_neg (by decide)]; exact decide_eq_true ⟨by omega, by omega, by omega, wordAt_size t j hlt⟩
    have w1 : wrap64 (4 * (j : Int)) = 4 * j := wrap_id (by omega)
    have w2 : wrap64 (a + 4 * (j : Int)) = a + 4 * j := wrap_id (by omega)
    have w3 : wrap64 ((j : Int) + 1) = ((j + 1 : Nat) : Int) := by rw [wrap_id (by omega)]; omega
    refine Ev.step (fun k => ?_) hi
    rw [skifflaw3_OpsMany.l0, if_pos (by rw [wl_length]; omega), if_pos (by omega), wl_rd _ _ _ _ (by omega), w1, w2]
    have q := ops_May_eq false (a + 4 * (j : Int)) (wordAt t j) (by omega)
    rw [hok] at q
    have q2 : ((wordAt t j).size : Int) = 4 := by rw [wordAt_size t j hlt]; rfl
    have q3 : s.size + (wordAt t j).size ≤ 9223372036854775807 := by rw [hs.1, wordAt_size t j hlt]; omega
    simp only [Bool.false_eq_true, if_false, if_true, if_pos q2, q, Option.bind_some, w3, if_pos q3]
theorem OpsMany : skifflaw3_OpsMany.Pure := by
  intro a t ha ht
  have hI := wf_I64' ha
  refine Ev.rounds (g := fun k => skifflaw3_OpsMany.f k a t) ?_
  unfold skifflaw3_OpsMany.f
  refine Ev.bind awake3 ?_
  simp only [if_true]
  refine Ev.bind (ops_Words_ev a t hI ht) ?_
  unfold wordsV
  by_cases h : wordsOk a t
  · simp only [if_pos h, num_eq, Option.bind_some, if_true]
    obtain ⟨h0, h1, h2, h3⟩ := h
    exact many_go a t h0 h2 (by omega) (many t) 0 ⟨#[]⟩ (by omega) (by omega) ⟨rfl, fun i hi => by omega⟩
  · simp only [if_neg h, num_eq, Option.bind_some]
    exact Ev.always fun k => rfl
end Go.Proofs.Ytjihlabmddfjhaa.Pure
