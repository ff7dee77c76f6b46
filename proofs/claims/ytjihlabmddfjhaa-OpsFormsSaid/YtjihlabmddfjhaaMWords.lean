/- Plain facts: a text in words, by the program and by the reference: the same; no memory in sight. -/
import Derived.Test.YtjihlabmddfjhaaPAllx0
import Derived.Test.YtjihlabmddfjhaaPAllx3
import Derived.Test.YtjihlabmddfjhaaMCut
set_option linter.unnecessarySimpa false
set_option linter.unusedSimpArgs false
set_option linter.unusedVariables false
namespace Go.Proofs.Ytjihlabmddfjhaa.M
open Go.RowKit Go.Proofs.YtjihlabmddfjhaaW.PrintWords Go.Proofs.YtjihlabmddfjhaaW.PrintLast Go.Proofs.YtjihlabmddfjhaaW.PrintMore Go.Proofs.Ytjihlabmddfjhaa.Hand Go.Proofs.Ytjihlabmddfjhaa.PAll

/-- Word i of a text: its four bytes from 4 i on, the last ones 255. -/
def wordAt (t : ByteArray) (i : Nat) : ByteArray := t.extract (4 * i) (4 * i + 4) ++ ff (4 - (t.size - 4 * i))
def many (t : ByteArray) : Nat := (t.size + 3) / 4
/-- A text in words. -/
def wl (a : Int) (t : ByteArray) (n : Nat) : List S35 := (List.range n).map fun (i : Nat) => (⟨false, a + 4 * (i : Int), wordAt t i⟩ : S35)
theorem wl_succ (a : Int) (t : ByteArray) (n : Nat) : wl a t (n + 1) = wl a t n ++ [⟨false, a + 4 * (n : Int), wordAt t n⟩] := by
  unfold wl; rw [List.range_succ, List.map_append]; rfl
theorem wl_length (a : Int) (t : ByteArray) (n : Nat) : (wl a t n).length = n := by simp [wl]
theorem wl_rd (a : Int) (t : ByteArray) (n i : Nat) (h : i < n) : rd_T35 (wl a t n) i = ⟨false, a + 4 * (i : Int), wordAt t i⟩ := by
  unfold rd_T35 wl
  simp [List.getD_eq_getElem?_getD, h]
theorem wordAt_size (t : ByteArray) (i : Nat) (h : 4 * i < t.size) : (wordAt t i).size = 4 := by
  unfold wordAt; rw [ByteArray.size_append, ByteArray.size_extract, ff_size]; omega
theorem wordAt_bt (t : ByteArray) (i j : Nat) (h : 4 * i < t.size) (hj : j < 4) : bt (wordAt t i) j = if 4 * i + j < t.size then bt t ((4 * i + j : Nat) : Int) else 255 := by
  have s1 : (t.extract (4 * i) (4 * i + 4)).size = min (4 * i + 4) t.size - 4 * i := by rw [ByteArray.size_extract]
  unfold wordAt
  rw [bt_append, s1]
  by_cases c : 4 * i + j < t.size
  · rw [if_pos (by omega), if_pos c, bt_extract _ _ _ _ (by omega)]
  · rw [if_neg (by omega), if_neg c, ff_bt _ _ (by omega)]
def wordsOk (a : Int) (t : ByteArray) : Prop := 0 ≤ a ∧ a ≤ 768 ∧ a % 4 = 0 ∧ (t.size : Int) ≤ 768 - a
instance (a : Int) (t : ByteArray) : Decidable (wordsOk a t) := by unfold wordsOk; exact inferInstance
def wordsV (a : Int) (t : ByteArray) : List S35 × Int := if wordsOk a t then (wl a t (many t), 0) else ([], 300)

theorem extract_extract0 (t : ByteArray) (i n : Nat) (hn : n = t.size) : (t.extract i n).size = n - i := by rw [ByteArray.size_extract]; omega
theorem words_go (a : Int) (t : ByteArray) (h0 : 0 ≤ a) (h1 : a ≤ 768) (ht : t.size ≤ 768) (d : Nat) : ∀ (k i : Nat), i ≤ many t → many t - i = d → d < k →
    ops_Words.l0 k (a + 4 * (i : Int)) (t.extract (4 * i) t.size) (wl a t i) = some (wl a t (many t), 0) := by
  induction d with
  | zero =>
    intro k i hi hd hk
    obtain ⟨k, rfl⟩ : ∃ m, k = m + 1 := ⟨k - 1, by omega⟩
    obtain rfl : i = many t := by omega
    simp only [ops_Words.l0]
    rw [if_pos ?_]
    rw [ByteArray.toList_eq]
    apply List.eq_nil_of_length_eq_zero
    rw [data_length, ByteArray.size_extract]
    unfold many; omega
  | succ d ih =>
    intro k i hi hd hk
    obtain ⟨k, rfl⟩ : ∃ m, k = m + 1 := ⟨k - 1, by omega⟩
    have hlt : 4 * i < t.size := by unfold many at hd hi; omega
    have hs : (t.extract (4 * i) t.size).size = t.size - 4 * i := extract_extract0 t _ _ rfl
    obtain ⟨x, hx⟩ : ∃ x, t.extract (4 * i) t.size = x := ⟨_, rfl⟩
    rw [hx] at hs
    have hm : mn (x.size : Int) 4 = ((min (t.size - 4 * i) 4 : Nat) : Int) := by rw [hs]; unfold mn; split <;> omega
    obtain ⟨m, hmm⟩ : ∃ m, min (t.size - 4 * i) 4 = m := ⟨_, rfl⟩
    rw [hmm] at hm
    have e1 : x.extract 0 m = t.extract (4 * i) (4 * i + 4) := by
      apply bt_ext
      · rw [ByteArray.size_extract, ByteArray.size_extract]; omega
      · intro j hj
        rw [ByteArray.size_extract] at hj
        rw [bt_extract _ _ _ _ (by omega), bt_extract _ _ _ _ (by omega), ← hx, bt_extract _ _ _ _ (by omega)]
        congr 1; omega
    have s1 : (x.extract 0 m).size = m := by rw [ByteArray.size_extract]; omega
    have e2 : x.extract m x.size = t.extract (4 * (i + 1)) t.size := by
      apply bt_ext
      · rw [ByteArray.size_extract, ByteArray.size_extract]; omega
      · intro j hj
        rw [ByteArray.size_extract] at hj
        rw [bt_extract _ _ _ _ (by omega), bt_extract _ _ _ _ (by omega), ← hx, bt_extract _ _ _ _ (by omega)]
        congr 1; omega
    rw [hx]
    simp only [ops_Words.l0, hm, Int.toNat_natCast, s1]
    rw [if_neg ?_]
    · rw [if_pos (by omega), if_pos (by omega), if_pos (by omega), if_pos (by omega), wrap_id (by omega), repeat_ff _ (by omega) (by omega)]
      simp only [Option.bind_some]
      rw [ff_size, if_pos (by omega), if_pos (by rw [wl_length]; unfold many at hi; omega), wrap_id (by omega), e2, e1]
      have := ih k (i + 1) (by omega) (by omega) (by omega)
      rw [wl_succ] at this
      unfold wordAt at this
      rw [show ((4 : Int) - (m : Int)).toNat = 4 - (t.size - 4 * i) by omega]
      rw [show a + 4 * ((i + 1 : Nat) : Int) = a + 4 * (i : Int) + 4 by omega] at this
      exact this
    · rw [ByteArray.toList_eq]
      intro h
      have := data_length x
      rw [h] at this
      simp at this
      omega
theorem ops_Words_no (a : Int) (t : ByteArray) : Ev (fun k => ops_Words.j0 k a t true) ([], 300) := Ev.one fun k => by simp only [ops_Words.j0, if_true]
theorem ops_Words_ev (a : Int) (t : ByteArray) (ha : I64 a) (ht : t.size ≤ 140737488351232) : Ev (fun k => ops_Words.f k a t) (wordsV a t) := by
  unfold ops_Words.f wordsV
  by_cases h0 : a < 0
  · simp only [if_pos h0]
    rw [if_neg (by unfold wordsOk; omega)]
    exact ops_Words_no a t
  · simp only [if_neg h0]
    by_cases h1 : a > 768
    · simp only [if_pos h1]
      rw [if_neg (by unfold wordsOk; omega)]
      exact ops_Words_no a t
    · simp only [if_neg h1]
      have hm : Int.tmod a 4 = a % 4 := Int.tmod_eq_emod_of_nonneg (by omega)
      simp only [hm]
      by_cases h2 : a % 4 = 0
      · simp only [if_pos h2]
        have hw : wrap64 (768 - a) = 768 - a := wrap_id (by omega)
        simp only [hw]
        by_cases h3 : (t.size : Int) > 768 - a
        · have e3 : decide ((t.size : Int) > 768 - a) = true := decide_eq_true h3
          simp only [e3]
          rw [if_neg (by unfold wordsOk; omega)]
          exact ops_Words_no a t
        · have e3 : decide ((t.size : Int) > 768 - a) = false := decide_eq_false h3
          simp only [e3]
          rw [if_pos ⟨by omega, by omega, h2, by omega⟩]
          refine Ev.step (f := fun k => ops_Words.l0 k a t []) (fun k => by simp only [ops_Words.j0, Bool.false_eq_true, if_false]) ?_
          refine Ev.of (fun k => (ops_Words.mono_l k).2 _ _ _) (k := many t + 1) ?_
          have := words_go a t (by omega) (by omega) (by omega) (many t) (many t + 1) 0 (by omega) (by omega) (by omega)
          have hfull : t.extract (4 * 0) t.size = t := by
            apply bt_ext
            · rw [ByteArray.size_extract]; omega
            · intro j hj
              rw [ByteArray.size_extract] at hj
              rw [bt_extract _ _ _ _ (by omega)]; congr 1; omega
          rw [hfull] at this
          simpa [wl] using this
      · simp only [if_neg h2]
        rw [if_neg (by unfold wordsOk; omega)]
        exact ops_Words_no a t
theorem refwords_go (a : Int) (t u : ByteArray) (h0 : 0 ≤ a) (h1 : a ≤ 768) (ht : t.size ≤ 768) (hu : u.size = 4 * many t) (hut : ∀ i, i < many t → u.extract (4 * i) (4 * i + 4) = wordAt t i) (d : Nat) : ∀ (k i : Nat), i ≤ many t → many t - i = d → d < k →
    skiffref1_Words.l0 k a u (wl a t i) (4 * (i : Int)) = some (wl a t (many t), 0) := by
  have hmt : many t ≤ 192 := by unfold many; omega
  induction d with
  | zero =>
    intro k i hi hd hk
    obtain ⟨k, rfl⟩ : ∃ m, k = m + 1 := ⟨k - 1, by omega⟩
    obtain rfl : i = many t := by omega
    simp only [skiffref1_Words.l0]
    rw [if_neg (by omega)]
  | succ d ih =>
    intro k i hi hd hk
    obtain ⟨k, rfl⟩ : ∃ m, k = m + 1 := ⟨k - 1, by omega⟩
    simp only [skiffref1_Words.l0]
    have hw : wrap64 (4 * (i : Int) + 4) = 4 * (i : Int) + 4 := wrap_id (by omega)
    have hw2 : wrap64 (a + 4 * (i : Int)) = a + 4 * (i : Int) := wrap_id (by omega)
    rw [if_pos (by omega), if_pos (by omega), hw, hw2, if_pos (by omega), if_pos (by omega), if_pos (by rw [wl_length]; omega)]
    rw [show (4 * (i : Int)).toNat = 4 * i by omega, show (4 * (i : Int) + 4).toNat = 4 * i + 4 by omega, hut i (by omega)]
    have := ih k (i + 1) (by omega) (by omega) (by omega)
    rw [wl_succ, show 4 * ((i + 1 : Nat) : Int) = 4 * (i : Int) + 4 by omega] at this
    exact this
theorem ref_Words_no (a : Int) (t : ByteArray) : Ev (fun k => skiffref1_Words.j0 k a t true) ([], 300) := Ev.one fun k => by simp only [skiffref1_Words.j0, if_true]
theorem ref_Words_ev (a : Int) (t : ByteArray) (ha : I64 a) (ht : t.size ≤ 140737488351232) : Ev (fun k => skiffref1_Words.f k a t) (wordsV a t) := by
  unfold skiffref1_Words.f wordsV
  simp only [upTo_eq, Option.bind_some]
  by_cases h0 : 0 ≤ a ∧ a ≤ 768
  · have e0 : decide (0 ≤ a ∧ a ≤ 768) = true := decide_eq_true h0
    simp only [e0, if_true]
    have hm : Int.tmod a 4 = a % 4 := Int.tmod_eq_emod_of_nonneg (by omega)
    simp only [hm]
    by_cases h2 : a % 4 = 0
    · simp only [if_pos h2]
      have hw : wrap64 (768 - a) = 768 - a := wrap_id (by omega)
      simp only [hw]
      by_cases h3 : (t.size : Int) > 768 - a
      · have e3 : decide ((t.size : Int) > 768 - a) = true := decide_eq_true h3
        simp only [e3]
        rw [if_neg (by unfold wordsOk; omega)]
        exact ref_Words_no a t
      · have e3 : decide ((t.size : Int) > 768 - a) = false := decide_eq_false h3
        simp only [e3]
        rw [if_pos ⟨by omega, by omega, h2, by omega⟩]
        refine Ev.step (f := fun k => (skiffref1_full.f k ((4 - ((t.size : Int) % 4)) % 4)).bind fun t150 => (if t.size + t150.size ≤ 9223372036854775807 then (skiffref1_Words.l0 k a (t ++ t150) ([] : List (S35)) 0) else (none))) (fun k => by simp only [skiffref1_Words.j0, Bool.false_eq_true, if_false]) ?_
        refine Ev.bind (full_ev _ (by omega) (by omega)) ?_
        obtain ⟨p, hp⟩ : ∃ p : Nat, ((4 - ((t.size : Int) % 4)) % 4).toNat = p := ⟨_, rfl⟩
        rw [hp]
        have hpm : t.size + p = 4 * many t := by unfold many; omega
        simp only [ff_size, if_pos (show t.size + p ≤ 9223372036854775807 by omega)]
        refine Ev.of (fun k => (skiffref1_Words.mono_l k).2 _ _ _ _) (k := many t + 1) ?_
        have hu : (t ++ ff p).size = 4 * many t := by rw [ByteArray.size_append, ff_size]; omega
        have := refwords_go a t (t ++ ff p) (by omega) (by omega) (by omega) hu (fun i hi => ?_) (many t) (many t + 1) 0 (by omega) (by omega) (by omega)
        · simpa [wl] using this
        · have hlt : 4 * i < t.size := by unfold many at hi; omega
          apply bt_ext
          · rw [wordAt_size t i hlt, ByteArray.size_extract, hu]; omega
          · intro j hj
            rw [ByteArray.size_extract, hu] at hj
            rw [wordAt_bt t i j hlt (by omega), bt_extract _ _ _ _ (by omega), bt_append]
            by_cases c : 4 * i + j < t.size
            · rw [if_pos c, if_pos c]
            · rw [if_neg c, if_neg c, ff_bt _ _ (by omega)]
    · simp only [if_neg h2]
      rw [if_neg (by unfold wordsOk; omega)]
      exact ref_Words_no a t
  · have e0 : decide (0 ≤ a ∧ a ≤ 768) = false := decide_eq_false h0
    simp only [e0, Bool.false_eq_true, if_false]
    rw [if_neg (by unfold wordsOk; omega)]
    exact ref_Words_no a t
end Go.Proofs.Ytjihlabmddfjhaa.M
