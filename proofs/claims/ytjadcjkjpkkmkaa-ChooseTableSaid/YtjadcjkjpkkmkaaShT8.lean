import Derived.Test.YtjadcjkjpkkmkaaShT7
-- Laid together from this session's own texts by its program wip/tools/shake.py.
/- Plain facts: what container/heap makes of a list of places, and so choose.Active's answer: the greatest of the places that are good; no memory in sight. -/
set_option linter.unnecessarySimpa false
set_option linter.unusedSimpArgs false
set_option linter.unusedVariables false
namespace Go.Proofs.Ytjadcjkjpkkmkaa.M
open Go.RowKit Go.Proofs.YtjadcjkjpkkmkaaW.PrintWords Go.Proofs.YtjadcjkjpkkmkaaW.PrintLast Go.Proofs.YtjadcjkjpkkmkaaW.PrintMore Go.Proofs.Ytjadcjkjpkkmkaa.Hand Go.Proofs.Ytjadcjkjpkkmkaa.PSc
/-- a stands ahead of b, or they are alike: the greater number, of these the later place. -/
def ge (a b : S25) : Prop := b.f1.f0 < a.f1.f0 ∨ (b.f1.f0 = a.f1.f0 ∧ b.f0 ≤ a.f0)
theorem lessB_iff (a b : S25) : lessB a b = true ↔ ¬ ge b a := by
 unfold lessB ge
 by_cases h : a.f1.f0 = b.f1.f0
 ·rw [if_neg (by simpa using h), decide_eq_true_eq]; omega
 ·rw [if_pos (by simpa using h), decide_eq_true_eq]; omega
theorem ge_refl (a : S25) : ge a a := by unfold ge; omega
theorem ge_trans {a b c : S25} (h1 : ge a b) (h2 : ge b c) : ge a c := by unfold ge at *; omega
theorem ge_total (a b : S25) : ge a b ∨ ge b a := by unfold ge; omega
theorem ge_less {a b : S25} (h : lessB a b = true) : ge a b := by
 have := (lessB_iff a b).1 h
 rcases ge_total a b with h1 | h1
 ·exact h1
 ·exact absurd h1 this
theorem ge_not {a b : S25} (h : ¬ lessB a b = true) : ge b a := by
 rcases Classical.em (ge b a) with h1 | h1
 ·exact h1
 ·exact absurd ((lessB_iff a b).2 h1) h
def g (xs : List S25) (i : Nat) : S25 := rd_T25 xs (i : Int)
theorem g_eq (xs : List S25) (i : Nat) : g xs i = xs.getD i z25 := by simp [g, rd_T25]
theorem g_at (xs : List S25) (i : Nat) (h : i < xs.length) : g xs i = xs[i] := by rw [g_eq, List.getD_eq_getElem?_getD, List.getElem?_eq_getElem h]; rfl
theorem g_swap (xs : List S25) (i j t : Nat) (hi : i < xs.length) (hj : j < xs.length) : g (swapL xs i j) t = if t = j then g xs i else if t = i then g xs j else g xs t := by
 have e : ∀ q : Nat, rd_T25 xs (q : Int) = g xs q := fun _ => rfl
 unfold swapL
 rw [e, e, g_eq, List.getD_eq_getElem?_getD, List.getElem?_set, List.getElem?_set]
 by_cases c1 : t = j
 ·subst c1; simp [hj]
 ·rw [if_neg (fun x => c1 x.symm), if_neg c1]
  by_cases c2 : t = i
  ·subst c2; simp [hi]
  ·rw [if_neg (fun x => c2 x.symm), if_neg c2, g_eq, List.getD_eq_getElem?_getD]
/-- x stands among the first n. -/
def has (xs : List S25) (n : Nat) (x : S25) : Prop := ∃ i, i < n ∧ g xs i = x
theorem has_swap (xs : List S25) (i j n : Nat) (hi : i < n) (hj : j < n) (hn : n ≤ xs.length) (x : S25) : has (swapL xs i j) n x ↔ has xs n x := by
 constructor
 ·rintro ⟨t, ht, h⟩
  rw [g_swap xs i j t (by omega) (by omega)] at h
  by_cases c1 : t = j
  ·rw [if_pos c1] at h; exact ⟨i, hi, h⟩
  ·rw [if_neg c1] at h
   by_cases c2 : t = i
   ·rw [if_pos c2] at h; exact ⟨j, hj, h⟩
   ·rw [if_neg c2] at h; exact ⟨t, ht, h⟩
 ·rintro ⟨t, ht, h⟩
  by_cases c1 : t = j
  ·by_cases c2 : i = j
   ·exact ⟨t, ht, by rw [g_swap xs i j t (by omega) (by omega), if_pos c1, c2, ← c1]; exact h⟩
   ·exact ⟨i, hi, by rw [g_swap xs i j i (by omega) (by omega), if_neg c2, if_pos rfl, ← c1]; exact h⟩
  ·by_cases c2 : t = i
   ·exact ⟨j, hj, by rw [g_swap xs i j j (by omega) (by omega), if_pos rfl, ← c2]; exact h⟩
   ·exact ⟨t, ht, by rw [g_swap xs i j t (by omega) (by omega), if_neg c1, if_neg c2]; exact h⟩
def Kid (p c : Nat) : Prop := c = 2 * p + 1 ∨ c = 2 * p + 2
def Heap (lo n : Nat) (xs : List S25) : Prop := ∀ p c, lo ≤ p → Kid p c → c < n → ge (g xs p) (g xs c)
/-- A heap but at place i, whose value is to go down. -/
def Hole (lo n i : Nat) (xs : List S25) : Prop := (∀ p c, lo ≤ p → p ≠ i → Kid p c → c < n → ge (g xs p) (g xs c)) ∧ (∀ p c, lo ≤ p → Kid p i → Kid i c → c < n → ge (g xs p) (g xs c))
theorem hole_end {lo n i : Nat} {xs : List S25} (h : Hole lo n i xs) (h2 : ∀ c, Kid i c → c < n → ge (g xs i) (g xs c)) : Heap lo n xs := by
 intro p c hp hk hc
 by_cases e : p = i
 ·subst e; exact h2 c hk hc
 ·exact h.1 p c hp e hk hc
theorem hole_down {lo n i c : Nat} {xs : List S25} (h : Hole lo n i xs) (hlo : lo ≤ i) (hk : Kid i c) (hc : c < n) (hn : n ≤ xs.length) (h1 : ge (g xs c) (g xs i)) (h2 : ∀ d, Kid i d → d < n → ge (g xs c) (g xs d)) : Hole lo n c (swapL xs i c) := by
 have hic : i < c := by unfold Kid at hk; omega
 have gs := fun t => g_swap xs i c t (by omega) (by omega)
 constructor
 ·intro p d hp hpc hpd hd
  rw [gs p, gs d, if_neg hpc]
  by_cases e1 : p = i
  ·subst e1
   rw [if_pos rfl]
   by_cases e2 : d = c
   ·rw [if_pos e2]; exact h1
   ·rw [if_neg e2, if_neg (by unfold Kid at hpd; omega)]; exact h2 d hpd hd
  ·rw [if_neg e1]
   have e2 : d ≠ c := by unfold Kid at *; omega
   rw [if_neg e2]
   by_cases e3 : d = i
   ·rw [if_pos e3]; subst e3; exact h.2 p c hp hpd hk hc
   ·rw [if_neg e3]; exact h.1 p d hp e1 hpd hd
 ·intro p d hp hpc hcd hd
  obtain rfl : p = i := by unfold Kid at *; omega
  rw [gs p, gs d, if_neg (by omega), if_pos rfl, if_neg (by unfold Kid at hcd; omega), if_neg (by unfold Kid at *; omega)]
  exact h.1 c d (by omega) (by omega) hcd hd
/-- What 'down' tells of its answer. -/
def DownOk (lo n : Nat) (xs ys : List S25) : Prop := ys.length = xs.length ∧ Heap lo n ys ∧ (∀ j, n ≤ j → g ys j = g xs j) ∧ ∀ x, has ys n x ↔ has xs n x
theorem dn_ok (lo n : Nat) : ∀ (k i : Nat) (xs : List S25), n - i < k → n ≤ xs.length → lo ≤ i → Hole lo n i xs → ∃ ys, dn k xs i n = some ys ∧ DownOk lo n xs ys
 | 0, _, _, h, _, _, _ => absurd h (by omega)
 | k + 1, i, xs, hk, hn, hlo, h => by
  have stop : (∀ c, Kid i c → c < n → ge (g xs i) (g xs c)) → DownOk lo n xs xs := fun h2 => ⟨rfl, hole_end h h2, fun _ _ => rfl, fun _ => Iff.rfl⟩
  have down : ∀ c, Kid i c → c < n → ge (g xs c) (g xs i) → (∀ d, Kid i d → d < n → ge (g xs c) (g xs d)) → ∃ ys, dn k (swapL xs i c) c n = some ys ∧ DownOk lo n xs ys := by
   intro c hkc hc h1 h2
   have hic : i < c := by unfold Kid at hkc; omega
   obtain ⟨ys, e, l, hh, far, mem⟩ := dn_ok lo n k c (swapL xs i c) (by omega) (by rw [swapL_length]; exact hn) (by omega) (hole_down h hlo hkc hc hn h1 h2)
   refine ⟨ys, e, by rw [l, swapL_length], hh, fun j hj => ?_, fun x => (mem x).trans (has_swap xs i c n (by omega) hc hn x)⟩
   rw [far j hj, g_swap xs i c j (by omega) (by omega), if_neg (by omega), if_neg (by omega)]
  rw [dn]
  by_cases c1 : 2 * i + 1 < n
  ·rw [if_pos c1]
   by_cases c2 : 2 * i + 2 < n
   ·rw [if_pos c2]
    by_cases c3 : lessB (rd_T25 xs ((2 * i + 2 : Nat) : Int)) (rd_T25 xs ((2 * i + 1 : Nat) : Int)) = true
    ·rw [if_pos c3]
     have g3 : ge (g xs (2 * i + 2)) (g xs (2 * i + 1)) := ge_less c3
     by_cases c4 : lessB (rd_T25 xs ((2 * i + 2 : Nat) : Int)) (rd_T25 xs (i : Int)) = true
     ·rw [if_pos c4]
      refine down _ (Or.inr rfl) c2 (ge_less c4) fun d hd _ => ?_
      rcases hd with rfl | rfl
      ·exact g3
      ·exact ge_refl _
     ·rw [if_neg c4]
      refine ⟨xs, rfl, stop fun c hc _ => ?_⟩
      have g4 : ge (g xs i) (g xs (2 * i + 2)) := ge_not c4
      rcases hc with rfl | rfl
      ·exact ge_trans g4 g3
      ·exact g4
    ·rw [if_neg c3]
     have g3 : ge (g xs (2 * i + 1)) (g xs (2 * i + 2)) := ge_not c3
     by_cases c4 : lessB (rd_T25 xs ((2 * i + 1 : Nat) : Int)) (rd_T25 xs (i : Int)) = true
     ·rw [if_pos c4]
      refine down _ (Or.inl rfl) c1 (ge_less c4) fun d hd _ => ?_
      rcases hd with rfl | rfl
      ·exact ge_refl _
      ·exact g3
     ·rw [if_neg c4]
      refine ⟨xs, rfl, stop fun c hc _ => ?_⟩
      have g4 : ge (g xs i) (g xs (2 * i + 1)) := ge_not c4
      rcases hc with rfl | rfl
      ·exact g4
      ·exact ge_trans g4 g3
   ·rw [if_neg c2]
    by_cases c4 : lessB (rd_T25 xs ((2 * i + 1 : Nat) : Int)) (rd_T25 xs (i : Int)) = true
    ·rw [if_pos c4]
     refine down _ (Or.inl rfl) c1 (ge_less c4) fun d hd hdn => ?_
     rcases hd with rfl | rfl
     ·exact ge_refl _
     ·exact absurd hdn c2
    ·rw [if_neg c4]
     refine ⟨xs, rfl, stop fun c hc hcn => ?_⟩
     rcases hc with rfl | rfl
     ·exact ge_not c4
     ·exact absurd hcn c2
  ·rw [if_neg c1]
   exact ⟨xs, rfl, stop fun c hc hcn => by unfold Kid at hc; omega⟩
theorem down_heap {lo n : Nat} {xs : List S25} (h : Heap (lo + 1) n xs) : Hole lo n lo xs :=
 ⟨fun p c hp hne hk hc => h p c (by omega) hk hc, fun p c hp hk _ _ => by unfold Kid at hk; omega⟩
theorem ini_ok (n : Nat) : ∀ (m k : Nat) (xs : List S25), n < k → n ≤ xs.length → Heap m n xs → ∃ ys, ini k m xs n = some ys ∧ DownOk 0 n xs ys
 | 0, k, xs, _, _, h => ⟨xs, rfl, rfl, h, fun _ _ => rfl, fun _ => Iff.rfl⟩
 | m + 1, k, xs, hk, hn, h => by
  obtain ⟨ys, e, l, hh, far, mem⟩ := dn_ok m n k m xs (by omega) hn (Nat.le_refl _) (down_heap h)
  obtain ⟨zs, e2, l2, hh2, far2, mem2⟩ := ini_ok n m k ys hk (by omega) hh
  exact ⟨zs, by rw [ini, e]; exact e2, by omega, hh2, fun j hj => by rw [far2 j hj, far j hj], fun x => (mem2 x).trans (mem x)⟩
theorem heap_half (n : Nat) (xs : List S25) : Heap (n / 2) n xs := fun p c hp hk hc => by unfold Kid at hk; omega
/-- The first one is the greatest. -/
theorem heap_top {n : Nat} {xs : List S25} (h : Heap 0 n xs) : ∀ j, j < n → ge (g xs 0) (g xs j) := by
 intro j
 induction j using Nat.strongRecOn with
 | _ j ih =>
  intro hj
  by_cases c : j = 0
  ·subst c; exact ge_refl _
  ·exact ge_trans (ih ((j - 1) / 2) (by omega) (by omega)) (h ((j - 1) / 2) j (by omega) (by unfold Kid; omega) hj)
theorem g_take (xs : List S25) (m i : Nat) (h : i < m) : g (xs.take m) i = g xs i := by
 rw [g_eq, g_eq, List.getD_eq_getElem?_getD, List.getD_eq_getElem?_getD, List.getElem?_take_of_lt h]
theorem pop_ok (m k : Nat) (xs : List S25) (hk : m < k) (hl : xs.length = m + 1) (h : Heap 0 (m + 1) xs) :
  ∃ ys, popF k xs m = some ys ∧ g ys m = g xs 0 ∧ (ys.take m).length = m ∧ Heap 0 m (ys.take m) ∧ (∀ x, has xs (m + 1) x ↔ has (ys.take m) m x ∨ x = g xs 0) := by
 have hs := fun t => g_swap xs 0 m t (by omega) (by omega)
 have hole : Hole 0 m 0 (swapL xs 0 m) := by
  constructor
  ·intro p c _ hp hk hc
   rw [hs p, hs c, if_neg (by unfold Kid at hk; omega), if_neg hp, if_neg (by omega), if_neg (by unfold Kid at hk; omega)]
   exact h p c (by omega) hk (by omega)
  ·intro p c _ hk; unfold Kid at hk; omega
 obtain ⟨ys, e, l, hh, far, mem⟩ := dn_ok 0 m k 0 (swapL xs 0 m) (by omega) (by rw [swapL_length]; omega) (Nat.le_refl _) hole
 rw [swapL_length] at l
 have top : g ys m = g xs 0 := by rw [far m (Nat.le_refl _), hs m, if_pos rfl]
 refine ⟨ys, e, top, by rw [List.length_take]; omega, ?_, fun x => ?_⟩
 ·intro p c hp hk hc
  rw [g_take _ _ _ (by unfold Kid at hk; omega), g_take _ _ _ hc]
  exact hh p c hp hk hc
 ·have e1 : has (ys.take m) m x ↔ has (swapL xs 0 m) m x := by
   refine Iff.trans ?_ (mem x)
   constructor
   ·rintro ⟨i, hi, hx⟩; exact ⟨i, hi, by rw [← g_take ys m i hi]; exact hx⟩
   ·rintro ⟨i, hi, hx⟩; exact ⟨i, hi, by rw [g_take ys m i hi]; exact hx⟩
  rw [e1, ← has_swap xs 0 m (m + 1) (by omega) (by omega) (by omega) x]
  constructor
  ·rintro ⟨i, hi, hx⟩
   by_cases c : i = m
   ·subst c; rw [hs i, if_pos rfl] at hx; exact Or.inr hx.symm
   ·exact Or.inl ⟨i, by omega, hx⟩
  ·rintro (⟨i, hi, hx⟩ | rfl)
   ·exact ⟨i, by omega, hx⟩
   ·exact ⟨m, by omega, by rw [hs m, if_pos rfl]⟩
/-- The answer of Active, told of a list: the greatest of those that are good. -/
def Best (good : S25 → Bool) (P : S25 → Prop) (r : Option S25) : Prop :=
 (∃ x, r = some x ∧ P x ∧ good x = true ∧ ∀ y, P y → good y = true → ge x y) ∨ (r = none ∧ ∀ y, P y → good y = false)
def ans : Option S25 → Int × Int × Int × Int × Int × Int
 | some x => (x.f0, x.f1.f0, x.f1.f1, x.f1.f2, x.f1.f3, 0)
 | none => (0, 0, 0, 0, 0, 701)
theorem act_ok (f : ByteArray) (good : S25 → Bool) (hg : ∀ x : S25, ∃ e, image_Good.f f x.f1.f0 x.f1.f1 x.f1.f2 x.f1.f3 = some (good x, e)) :
  ∀ (m k : Nat) (xs : List S25), m < k → xs.length = m → Heap 0 m xs → ∃ r, actL k f m xs = some (ans r) ∧ Best good (has xs m) r
 | 0, k, xs, _, _, _ => ⟨none, rfl, Or.inr ⟨rfl, fun y ⟨i, hi, _⟩ => absurd hi (by omega)⟩⟩
 | m + 1, k, xs, hk, hl, h => by
  obtain ⟨ys, e, top, l, hh, mem⟩ := pop_ok m k xs (by omega) hl h
  obtain ⟨er, he⟩ := hg (g xs 0)
  have he2 : image_Good.f f (rd_T25 ys m).f1.f0 (rd_T25 ys m).f1.f1 (rd_T25 ys m).f1.f2 (rd_T25 ys m).f1.f3 = some (good (g xs 0), er) := by
   rw [show rd_T25 ys (m : Int) = g xs 0 from top]; exact he
  rw [actL, e, Option.bind_some, he2, Option.bind_some]
  rw [show rd_T25 ys (m : Int) = g xs 0 from top]
  by_cases c : good (g xs 0) = true
  ·rw [if_pos c]
   refine ⟨some (g xs 0), rfl, Or.inl ⟨_, rfl, ⟨0, by omega, rfl⟩, c, fun y ⟨i, hi, hy⟩ _ => ?_⟩⟩
   rw [← hy]; exact heap_top h i hi
  ·rw [if_neg c]
   obtain ⟨r, e3, hb⟩ := act_ok f good hg m k (ys.take m) (by omega) l hh
   refine ⟨r, e3, ?_⟩
   rcases hb with ⟨x, hr, hx, hgx, hmax⟩ | ⟨hr, hno⟩
   ·refine Or.inl ⟨x, hr, (mem x).2 (Or.inl hx), hgx, fun y hy hgy => ?_⟩
    rcases (mem y).1 hy with h1 | rfl
    ·exact hmax y h1 hgy
    ·exact absurd hgy c
   ·refine Or.inr ⟨hr, fun y hy => ?_⟩
    rcases (mem y).1 hy with h1 | rfl
    ·exact hno y h1
    ·simpa using c
theorem has_mem (xs : List S25) (x : S25) : has xs xs.length x ↔ x ∈ xs := by
 constructor
 ·rintro ⟨i, hi, hx⟩; rw [← hx, g_at xs i hi]; exact List.getElem_mem hi
 ·intro h
  obtain ⟨i, hi, e⟩ := List.getElem_of_mem h
  exact ⟨i, hi, by rw [g_at xs i hi]; exact e⟩
theorem Best_of_iff {good : S25 → Bool} {P Q : S25 → Prop} {r : Option S25} (h : Best good P r) (e : ∀ x, Q x ↔ P x) : Best good Q r := by
 rcases h with ⟨x, hr, hx, hgx, hmax⟩ | ⟨hr, hno⟩
 ·exact Or.inl ⟨x, hr, (e x).2 hx, hgx, fun y hy => hmax y ((e y).1 hy)⟩
 ·exact Or.inr ⟨hr, fun y hy => hno y ((e y).1 hy)⟩
/-- One answer alone is right, where no two places are one. -/
theorem Best_one {good : S25 → Bool} {P : S25 → Prop} {r s : Option S25} (hP : ∀ x y, P x → P y → x.f0 = y.f0 → x = y) (h1 : Best good P r) (h2 : Best good P s) : r = s := by
 rcases h1 with ⟨x, hr, hx, hgx, hmx⟩ | ⟨hr, hn⟩ <;> rcases h2 with ⟨y, hs, hy, hgy, hmy⟩ | ⟨hs, hn2⟩
 ·have a := hmx y hy hgy
  have b := hmy x hx hgx
  have : x.f0 = y.f0 := by unfold ge at a b; omega
  rw [hr, hs, hP x y hx hy this]
 ·rw [hn2 x hx] at hgx; cases hgx
 ·rw [hn y hy] at hgy; cases hgy
 ·rw [hr, hs]
/-- choose.Active behind the scan. -/
theorem queue_ok (f : ByteArray) (good : S25 → Bool) (hg : ∀ x : S25, ∃ e, image_Good.f f x.f1.f0 x.f1.f1 x.f1.f2 x.f1.f3 = some (good x, e)) (xs : List S25) (k : Nat) (hk : xs.length < k) :
  ∃ r, ((ini k (xs.length / 2) xs xs.length).bind fun ys => actL k f xs.length ys) = some (ans r) ∧ Best good (fun x => x ∈ xs) r := by
 obtain ⟨ys, e, l, hh, _, mem⟩ := ini_ok xs.length (xs.length / 2) k xs hk (Nat.le_refl _) (heap_half _ xs)
 obtain ⟨r, e2, hb⟩ := act_ok f good hg xs.length k ys hk l hh
 refine ⟨r, by rw [e]; exact e2, Best_of_iff hb fun x => ?_⟩
 rw [mem x, has_mem]
end Go.Proofs.Ytjadcjkjpkkmkaa.M

/- Plain facts: the sum of a text, by the program and by the reference: the same; no memory in sight. -/
set_option linter.unnecessarySimpa false
set_option linter.unusedSimpArgs false
set_option linter.unusedVariables false
namespace Go.Proofs.Ytjadcjkjpkkmkaa.M
open Go.RowKit Go.Proofs.YtjadcjkjpkkmkaaW.PrintWords Go.Proofs.YtjadcjkjpkkmkaaW.PrintLast Go.Proofs.YtjadcjkjpkkmkaaW.PrintMore Go.Proofs.Ytjadcjkjpkkmkaa.Hand Go.Proofs.Ytjadcjkjpkkmkaa.PAll
abbrev B4 (x : Int) : BitVec 32 := BitVec.ofInt 32 x
theorem wrap32 (b : BitVec 32) : IntKind.u32.wrap (b.toNat : Int) = b.toNat := by
 rw [IntKind.wrap_u32]; have := b.isLt; omega
theorem bits_and_u32 (x y : Int) : Go.bits .and .u32 x y = ((B4 x &&& B4 y).toNat : Int) := wrap32 _
theorem and1_u32 (x : Int) : Go.bits .and .u32 x 1 = 0 ∨ Go.bits .and .u32 x 1 = 1 := by
 rw [bits_and_u32]
 have : (B4 x &&& B4 1).toNat = (B4 x).toNat % 2 := by rw [BitVec.toNat_and, show (B4 1).toNat = 1 from rfl, Nat.and_one_is_mod]
 rw [this]; omega
/-- One bit goes out of the sum. -/
def bitS (x : Int) : Int := if Go.bits .and .u32 x 1 = 0 then x / 2 else Go.bits .xor .u32 (x / 2) 3988292384
def itS : Nat → Int → Int
 | 0, x => x
 | n + 1, x => itS n (bitS x)
theorem stepl (d : Nat) : ∀ (k i : Nat) (x : Int), i + d = 8 → d < k → PBase.crc_step.l0 k x (i : Int) = some (itS d x) := by
 induction d with
 | zero =>
  intro k i x hi hk
  obtain ⟨k, rfl⟩ : ∃ m, k = m + 1 := ⟨k - 1, by omega⟩
  rw [PBase.crc_step.l0, if_neg (by omega)]; rfl
 | succ d ih =>
  intro k i x hi hk
  obtain ⟨k, rfl⟩ : ∃ m, k = m + 1 := ⟨k - 1, by omega⟩
  have hw : wrap64 ((i : Int) + 1) = ((i + 1 : Nat) : Int) := by unfold wrap64; omega
  rw [PBase.crc_step.l0, if_pos (by omega), hw, itS, bitS]
  by_cases c : Go.bits .and .u32 x 1 = 0
  ·rw [if_pos c, if_pos c]; exact ih k (i + 1) _ (by omega) (by omega)
  ·rw [if_neg c, if_neg c]; exact ih k (i + 1) _ (by omega) (by omega)
theorem crcStep_it (x b : Int) : crcStep x b = itS 8 (Go.bits .xor .u32 x (b % 4294967296)) := by
 have h := stepl 8 9 0 (Go.bits .xor .u32 x (b % 4294967296)) (by omega) (by omega)
 have h2 : PBase.crc_step.f 9 x b = some (itS 8 (Go.bits .xor .u32 x (b % 4294967296))) := h
 unfold crcStep
 rw [h2]; rfl
def crcV (s : ByteArray) : Int := wrap64 (Go.bits .xor .u32 IntKind.u32.max (crcL (bytesOf s)))
theorem crc_Sum_eq (s : ByteArray) (h : s.size ≤ 140737488355328) : crc_Sum.f s = some (crcV s) := by
 unfold crc_Sum.f; rw [if_pos h]; rfl
theorem Crc_bits (s : ByteArray) (j : Int) (r : Int) (d : Nat) : ∀ (i : Nat) (x : Int), i + d = 8 → Ev (fun k => skiffref1_Crc.l0 k s (itS d x) (wrap64 (j + 1))) r → Ev (fun k => skiffref1_Crc.l1 k s x j (i : Int)) r := by
 induction d with
 | zero =>
  intro i x hi h
  exact Ev.step (fun k => by rw [skiffref1_Crc.l1, if_neg (by omega)]; rfl) h
 | succ d ih =>
  intro i x hi h
  have hw : wrap64 ((i : Int) + 1) = ((i + 1 : Nat) : Int) := by unfold wrap64; omega
  have h1 := ih (i + 1) (bitS x) (by omega) h
  refine Ev.step (fun k => ?_) h1
  rw [skiffref1_Crc.l1, if_pos (by omega), hw, bitS]
  rcases and1_u32 x with c | c
  ·rw [if_neg (by omega), if_pos c]
  ·rw [if_pos c, if_neg (by omega)]
theorem Crc_go (s : ByteArray) (hs : s.size ≤ 140737488355328) (d : Nat) : ∀ (j : Nat) (x : Int), j + d = s.size → Ev (fun k => skiffref1_Crc.l0 k s x (j : Int)) (wrap64 (Go.bits .xor .u32 IntKind.u32.max (((bytesOf s).drop j).foldl crcStep x))) := by
 induction d with
 | zero =>
  intro j x hj
  refine Ev.one fun k => ?_
  rw [skiffref1_Crc.l0, if_neg (by omega), List.drop_eq_nil_of_le (by rw [bytesOf_length]; omega)]; rfl
 | succ d ih =>
  intro j x hj
  have hl : j < (bytesOf s).length := by rw [bytesOf_length]; omega
  have hw : wrap64 ((j : Int) + 1) = ((j + 1 : Nat) : Int) := by unfold wrap64; omega
  have e : (bytesOf s)[j] = bt s (j : Int) := by
   have := rd_bytesOf s (j : Int)
   rw [← this]; simp [rd, List.getElem?_eq_getElem hl]
  have h1 := ih (j + 1) (crcStep x (bt s (j : Int))) (by omega)
  rw [List.drop_eq_getElem_cons hl, List.foldl_cons, e]
  refine Ev.step (fun k => by rw [skiffref1_Crc.l0, if_pos (by omega), if_pos (by omega)]) ?_
  refine Crc_bits s (j : Int) _ 8 0 _ rfl ?_
  rw [hw, ← crcStep_it]
  exact h1
theorem Crc_ev (s : ByteArray) (hs : s.size ≤ 140737488355328) : Ev (fun k => skiffref1_Crc.f k s) (crcV s) := by
 unfold skiffref1_Crc.f crcV crcL
 exact Crc_go s hs s.size 0 4294967295 (by omega)
end Go.Proofs.Ytjadcjkjpkkmkaa.M

/- Plain facts: which record is active, by the program and by the reference: the same; no memory in sight. -/
set_option linter.unnecessarySimpa false
set_option linter.unusedSimpArgs false
set_option linter.unusedVariables false
namespace Go.Proofs.Ytjadcjkjpkkmkaa.M
open Go.RowKit Go.Proofs.YtjadcjkjpkkmkaaW.PrintWords Go.Proofs.YtjadcjkjpkkmkaaW.PrintLast Go.Proofs.YtjadcjkjpkkmkaaW.PrintMore Go.Proofs.Ytjadcjkjpkkmkaa.Hand Go.Proofs.Ytjadcjkjpkkmkaa.PAll
/-- The bytes of a slot, so many. -/
def imgF (f : ByteArray) (sl sz : Int) : ByteArray := f.extract (192 + 288 * sl).toNat (192 + 288 * sl + sz).toNat
def goodV (f : ByteArray) (q sl sz sm : Int) : Bool × Int := if f.size = 768 ∧ recMay q sl sz sm = true then (crcV (imgF f sl sz) == sm, 0) else (false, 600)
def ofV (f : ByteArray) (q sl sz sm : Int) : ByteArray × Int := if f.size = 768 ∧ recMay q sl sz sm = true then (imgF f sl sz, 0) else (⟨#[]⟩, 600)
theorem recMay_bounds {q sl sz sm : Int} (h : recMay q sl sz sm = true) : 1 ≤ q ∧ q ≤ 1048576 ∧ 0 ≤ sl ∧ sl ≤ 1 ∧ 1 ≤ sz ∧ sz ≤ 288 ∧ 0 ≤ sm ∧ sm ≤ 4294967295 := of_decide_eq_true h
theorem imgF_size (f : ByteArray) (sl sz : Int) : (imgF f sl sz).size ≤ f.size := by unfold imgF; rw [ByteArray.size_extract]; omega
theorem base_eq {sl : Int} (h0 : 0 ≤ sl) (h1 : sl ≤ 1) : wrap64 ((wrap64 (2 + (wrap64 (3 * sl)))) * 96) = 192 + 288 * sl := by
 rw [wrap_id (x := 3 * sl) (by omega), wrap_id (x := 2 + 3 * sl) (by omega), wrap_id (by omega)]; omega
theorem image_Of_eq (f : ByteArray) (q sl sz sm : Int) : PSc.image_Of.f f q sl sz sm = some (ofV f q sl sz sm) := by
 unfold PSc.image_Of.f PSc.nor_May.f ofV
 simp only [Option.bind_some, May_eq]
 by_cases h : f.size = 768
 ·have e : ((f.size : Int) == 768) = true := by simp; omega
  simp only [e, if_true]
  by_cases hr : recMay q sl sz sm = true
  ·obtain ⟨_, _, s0, s1, z0, z1, _, _⟩ := recMay_bounds hr
   simp only [hr, if_true]
   unfold PSc.image_Base.f PSc.entry_Slot.f PSc.image_Sector.f PSc.journal_Begin.f
   simp only [in_eq, Option.bind_some]
   rw [if_pos (by simpa using ⟨s0, s1⟩), if_pos ⟨h, trivial⟩]
   simp only [Option.bind_some, base_eq s0 s1, wrap_id (x := 192 + 288 * sl + sz) (by omega)]
   rw [if_pos (by omega), if_pos (by omega), if_pos (by omega)]; rfl
  ·rw [if_neg hr, if_neg (fun x => hr x.2)]
 ·have e : ((f.size : Int) == 768) = false := by simp; omega
  rw [e, if_neg (by decide), if_neg (fun x => h x.1)]
theorem image_Good_eq (f : ByteArray) (q sl sz sm : Int) : PSc.image_Good.f f q sl sz sm = some (goodV f q sl sz sm) := by
 unfold PSc.image_Good.f
 rw [image_Of_eq, Option.bind_some]
 unfold ofV goodV
 by_cases h : f.size = 768 ∧ recMay q sl sz sm = true
 ·have := imgF_size f sl sz
  rw [if_pos h, if_pos h]
  simp only [if_true]
  rw [crc_Sum_eq _ (by omega)]; rfl
 ·rw [if_neg h, if_neg h]; rfl
/-- Is a place's record good? -/
def good (f : ByteArray) (x : S25) : Bool := (goodV f x.f1.f0 x.f1.f1 x.f1.f2 x.f1.f3).1
def goodSc (f : ByteArray) (x : PSc.S25) : Bool := (goodV f x.f1.f0 x.f1.f1 x.f1.f2 x.f1.f3).1
def pickS (p : S25 → Bool) (b : Option S25) (x : S25) : Option S25 := if p x = true then (match b with | none => some x | some y => if x.f1.f0 ≥ y.f1.f0 then some x else some y) else b
/-- The greatest of those that are good; of these the last one. -/
def pick (p : S25 → Bool) (l : List S25) : Option S25 := l.foldl (pickS p) none
def ansV : Option S25 → Int × Int × Int × Int × Int × Int
 | some x => (x.f0, x.f1.f0, x.f1.f1, x.f1.f2, x.f1.f3, 0)
 | none => (0, 0, 0, 0, 0, 701)
def act (f : ByteArray) : Option S25 := pick (good f) (scanL f 8)
def actV (f : ByteArray) : Int × Int × Int × Int × Int × Int := if f.size = 768 then ansV (act f) else (0, 0, 0, 0, 0, 700)
/-- What pick gives: as Best, without the heap. -/
def Top (p : S25 → Bool) (P : S25 → Prop) (r : Option S25) : Prop :=
 (∃ x, r = some x ∧ P x ∧ p x = true ∧ ∀ y, P y → p y = true → y.f1.f0 < x.f1.f0 ∨ (y.f1.f0 = x.f1.f0 ∧ y.f0 ≤ x.f0)) ∨ (r = none ∧ ∀ y, P y → p y = false)
theorem Top_snoc {p : S25 → Bool} {l : List S25} {b : Option S25} {x : S25} (h : Top p (fun y => y ∈ l) b) (hx : ∀ y, y ∈ l → y.f0 ≤ x.f0) : Top p (fun y => y ∈ l ++ [x]) (pickS p b x) := by
 have mem : ∀ y, y ∈ l ++ [x] ↔ y ∈ l ∨ y = x := fun y => by simp
 unfold pickS
 by_cases c : p x = true
 ·rw [if_pos c]
  rcases h with ⟨z, rfl, hz, hgz, hmax⟩ | ⟨rfl, hno⟩
  ·show Top p _ (if x.f1.f0 ≥ z.f1.f0 then some x else some z)
   by_cases c2 : x.f1.f0 ≥ z.f1.f0
   ·rw [if_pos c2]
    refine Or.inl ⟨x, rfl, (mem x).2 (Or.inr rfl), c, fun y hy hgy => ?_⟩
    rcases (mem y).1 hy with h1 | rfl
    ·have := hmax y h1 hgy; have := hx y h1; have := hx z hz; omega
    ·omega
   ·rw [if_neg c2]
    refine Or.inl ⟨z, rfl, (mem z).2 (Or.inl hz), hgz, fun y hy hgy => ?_⟩
    rcases (mem y).1 hy with h1 | rfl
    ·exact hmax y h1 hgy
    ·omega
  ·refine Or.inl ⟨x, rfl, (mem x).2 (Or.inr rfl), c, fun y hy hgy => ?_⟩
   rcases (mem y).1 hy with h1 | rfl
   ·rw [hno y h1] at hgy; cases hgy
   ·omega
 ·rw [if_neg c]
  rcases h with ⟨z, rfl, hz, hgz, hmax⟩ | ⟨rfl, hno⟩
  ·refine Or.inl ⟨z, rfl, (mem z).2 (Or.inl hz), hgz, fun y hy hgy => ?_⟩
   rcases (mem y).1 hy with h1 | rfl
   ·exact hmax y h1 hgy
   ·exact absurd hgy c
  ·refine Or.inr ⟨rfl, fun y hy => ?_⟩
   rcases (mem y).1 hy with h1 | rfl
   ·exact hno y h1
   ·simpa using c
theorem Top_fold {p : S25 → Bool} : ∀ (l2 l1 : List S25) (b : Option S25), (l1 ++ l2).Pairwise (fun a b => a.f0 < b.f0) → Top p (fun y => y ∈ l1) b → Top p (fun y => y ∈ l1 ++ l2) (l2.foldl (pickS p) b)
 | [], l1, b, _, h => by rw [List.append_nil]; exact h
 | x :: l2, l1, b, hs, h => by
  have e : l1 ++ x :: l2 = (l1 ++ [x]) ++ l2 := by simp
  rw [e] at hs ⊢
  have h1 : (l1 ++ [x]).Pairwise (fun a b => a.f0 < b.f0) := (List.pairwise_append.1 hs).1
  have h2 := (List.pairwise_append.1 h1).2.2
  exact Top_fold l2 (l1 ++ [x]) _ hs (Top_snoc h fun y hy => Int.le_of_lt (h2 y hy x (by simp)))
theorem pick_Top {p : S25 → Bool} {l : List S25} (h : l.Pairwise (fun a b => a.f0 < b.f0)) : Top p (fun y => y ∈ l) (pick p l) := by
 have := Top_fold (p := p) l [] none (by simpa using h) (Or.inr ⟨rfl, fun y hy => by simp at hy⟩)
 simpa [pick] using this
theorem mem_told {j : Nat} {g : Int × Int × Int × Int × Int} {x : S25} : x ∈ told j g ↔ g.2.2.2.2 = 0 ∧ x = ⟨24 * (j : Int), ⟨g.1, g.2.1, g.2.2.1, g.2.2.2.1⟩⟩ := by
 unfold told
 by_cases h : g.2.2.2.2 = 0
 ·rw [if_pos h]; simp [h]
 ·rw [if_neg h]; simp [h]
theorem mem_scanL {f : ByteArray} {n : Nat} {x : S25} : x ∈ scanL f n ↔ ∃ j, j < n ∧ x ∈ told j (getV (pl f j)) := by
 induction n with
 | zero => simp [scanL]
 | succ n ih =>
  rw [scanL, List.mem_append, ih]
  constructor
  ·rintro (⟨j, hj, h⟩ | h)
   ·exact ⟨j, by omega, h⟩
   ·exact ⟨n, by omega, h⟩
  ·rintro ⟨j, hj, h⟩
   by_cases c : j = n
   ·subst c; exact Or.inr h
   ·exact Or.inl ⟨j, by omega, h⟩
theorem scanL_at {f : ByteArray} {n : Nat} {x : S25} (h : x ∈ scanL f n) : ∃ j : Nat, j < n ∧ x.f0 = 24 * (j : Int) ∧ (getV (pl f j)) = (x.f1.f0, x.f1.f1, x.f1.f2, x.f1.f3, 0) := by
 obtain ⟨j, hj, hx⟩ := mem_scanL.1 h
 obtain ⟨h0, rfl⟩ := mem_told.1 hx
 refine ⟨j, hj, rfl, ?_⟩
 show getV (pl f j) = ((getV (pl f j)).1, (getV (pl f j)).2.1, (getV (pl f j)).2.2.1, (getV (pl f j)).2.2.2.1, 0)
 rw [← h0]
theorem scanL_sorted (f : ByteArray) (n : Nat) : (scanL f n).Pairwise (fun a b => a.f0 < b.f0) := by
 induction n with
 | zero => exact List.Pairwise.nil
 | succ n ih =>
  rw [scanL, List.pairwise_append]
  refine ⟨ih, ?_, fun a ha b hb => ?_⟩
  ·unfold told; split
   ·exact List.pairwise_singleton _ _
   ·exact List.Pairwise.nil
  ·obtain ⟨j, hj, e, _⟩ := scanL_at ha
   obtain ⟨_, rfl⟩ := mem_told.1 hb
   show a.f0 < 24 * (n : Int)
   omega
theorem scanL_one {f : ByteArray} {n : Nat} {x y : S25} (hx : x ∈ scanL f n) (hy : y ∈ scanL f n) (h : x.f0 = y.f0) : x = y := by
 obtain ⟨i, hi, h1⟩ := mem_scanL.1 hx
 obtain ⟨j, hj, h2⟩ := mem_scanL.1 hy
 obtain ⟨_, rfl⟩ := mem_told.1 h1
 obtain ⟨_, rfl⟩ := mem_told.1 h2
 have : i = j := by
  have h' : 24 * (i : Int) = 24 * (j : Int) := h
  omega
 subst this; rfl
theorem getV_may {s : ByteArray} {q sl sz sm : Int} (h : getV s = (q, sl, sz, sm, 0)) : recMay q sl sz sm = true := by
 unfold getV at h
 by_cases c : getOk s
 ·rw [if_pos c] at h
  injection h with h1 h; injection h with h2 h; injection h with h3 h; injection h with h4 h
  rw [← h1, ← h2, ← h3, ← h4]; exact c.2.2
 ·rw [if_neg c] at h
  injection h with h1 h; injection h with h2 h; injection h with h3 h; injection h with h4 h
  exact absurd h (by decide)
theorem scanL_may {f : ByteArray} {n : Nat} {x : S25} (h : x ∈ scanL f n) : recMay x.f1.f0 x.f1.f1 x.f1.f2 x.f1.f3 = true := by
 obtain ⟨j, _, _, e⟩ := scanL_at h; exact getV_may e
theorem act_Top (f : ByteArray) : Top (good f) (fun x => x ∈ scanL f 8) (act f) := pick_Top (scanL_sorted f 8)
theorem act_mem {f : ByteArray} {x : S25} (h : act f = some x) : x ∈ scanL f 8 ∧ good f x = true ∧ ∀ y, y ∈ scanL f 8 → good f y = true → y.f1.f0 < x.f1.f0 ∨ (y.f1.f0 = x.f1.f0 ∧ y.f0 ≤ x.f0) := by
 rcases act_Top f with ⟨z, hr, hz, hgz, hmax⟩ | ⟨hr, _⟩
 ·rw [h] at hr; injection hr with hr; subst hr; exact ⟨hz, hgz, hmax⟩
 ·rw [h] at hr; cases hr
theorem act_none {f : ByteArray} (h : act f = none) : ∀ y, y ∈ scanL f 8 → good f y = false := by
 rcases act_Top f with ⟨z, hr, _⟩ | ⟨_, hno⟩
 ·rw [h] at hr; cases hr
 ·exact hno
theorem toSc_Best {f : ByteArray} {l : List S25} {r : Option S25} (h : Top (good f) (fun x => x ∈ l) r) : Best (goodSc f) (fun x => x ∈ l.map toSc) (r.map toSc) := by
 rcases h with ⟨x, rfl, hx, hgx, hmax⟩ | ⟨rfl, hno⟩
 ·refine Or.inl ⟨toSc x, rfl, List.mem_map_of_mem hx, hgx, fun y hy hgy => ?_⟩
  obtain ⟨z, hz, rfl⟩ := List.mem_map.1 hy
  exact hmax z hz hgy
 ·refine Or.inr ⟨rfl, fun y hy => ?_⟩
  obtain ⟨z, hz, rfl⟩ := List.mem_map.1 hy
  exact hno z hz
theorem ans_toSc (r : Option S25) : ans (r.map toSc) = ansV r := by cases r <;> rfl
theorem Active_ev (f : ByteArray) : Ev (fun k => choose_Active.f k f) (actV f) := by
 have hs := Scan_ev f
 unfold choose_Active.f
 refine Ev.bind hs ?_
 unfold scanV actV
 by_cases h : f.size = 768
 ·simp only [if_pos h, if_true]
  have hl := scanL_length f 8
  have hl2 : ((scanL f 8).map toSc).length ≤ 999 := by rw [List.length_map]; omega
  simp only [if_pos hl2]
  have hg : ∀ x : PSc.S25, ∃ e, PSc.image_Good.f f x.f1.f0 x.f1.f1 x.f1.f2 x.f1.f3 = some (goodSc f x, e) := fun x => ⟨_, image_Good_eq f _ _ _ _⟩
  refine ⟨9, fun k hk => ?_⟩
  obtain ⟨r, e, hb⟩ := queue_ok f (goodSc f) hg ((scanL f 8).map toSc) k (by rw [List.length_map]; omega)
  have hb2 := toSc_Best (act_Top f)
  have : r = (act f).map toSc := Best_one (fun x y hx hy hxy => by
   obtain ⟨a, ha, rfl⟩ := List.mem_map.1 hx
   obtain ⟨b, hb, rfl⟩ := List.mem_map.1 hy
   rw [scanL_one ha hb hxy]) hb hb2
  rw [this, ans_toSc] at e
  exact e
 ·simp only [if_neg h, show ¬ ((500 : Int) = 0) by decide, if_false]
  exact Ev.now _
/-- The slot that is not the active one's. -/
def othV (f : ByteArray) : Int × Int := if f.size = 768 then (match act f with | some x => (1 - x.f1.f1, 0) | none => (0, 0)) else (0, 700)
theorem Other_ev (f : ByteArray) : Ev (fun k => choose_Other.f k f) (othV f) := by
 unfold choose_Other.f
 refine Ev.bind (Active_ev f) ?_
 unfold actV othV
 by_cases h : f.size = 768
 ·simp only [if_pos h]
  cases ha : act f with
  | none => exact Ev.now _
  | some x =>
   obtain ⟨_, _, s0, s1, _⟩ := recMay_bounds (scanL_may (act_mem ha).1)
   simp only [ansV, if_true, if_neg (show ¬ ((0 : Int) = 700) by decide), wrap_id (x := 1 - x.f1.f1) (by omega)]
   exact Ev.now _
 ·simp only [if_neg h, if_true]
  exact Ev.now _
end Go.Proofs.Ytjadcjkjpkkmkaa.M

/- Plain facts: what every program answers that is one, of package choose; no memory in sight. -/
set_option linter.unnecessarySimpa false
set_option linter.unusedSimpArgs false
set_option linter.unusedVariables false
namespace Go.Proofs.Ytjadcjkjpkkmkaa.M
open Go.RowKit Go.Proofs.YtjadcjkjpkkmkaaW.PrintWords Go.Proofs.YtjadcjkjpkkmkaaW.PrintLast Go.Proofs.YtjadcjkjpkkmkaaW.PrintMore Go.Proofs.Ytjadcjkjpkkmkaa.Hand Go.Proofs.Ytjadcjkjpkkmkaa.PAll
theorem Num_eq (x : Int) : skifflaw0_Num.f x = some x := rfl
theorem held7_l1 (l : List S87) (hl : l.length ≤ 1000) (d : Nat) : ∀ (i : Nat) (F : ByteArray), i + d = l.length → Ev (fun k => skifflaw7_held.l1 k F l (i : Int)) (doL F (l.drop i)) := by
 induction d with
 | zero =>
  intro i F hi
  obtain rfl : i = l.length := by omega
  rw [doL_end]
  exact Ev.one fun k => by rw [skifflaw7_held.l1, if_neg (by omega)]
 | succ d ih =>
  intro i F hi
  rw [doL_at F l i (by omega)]
  have w : wrap64 ((i : Int) + 1) = ((i + 1 : Nat) : Int) := by rw [wrap_id (by omega)]; omega
  refine Ev.step (fun k => by rw [skifflaw7_held.l1, if_pos (by omega), if_pos (by omega), w]) ?_
  refine Ev.bind (ref_Do_ev F _ _ _) ?_
  exact ih (i + 1) _ (by omega)
theorem held7_l0 (l : List S87) (hl : l.length ≤ 1000) (r : ByteArray) (hr : Ev (fun k => skifflaw7_held.l0 k (doL (ff 768) l) l (l.length : Int)) r) (d : Nat) : ∀ (i : Nat) (F : ByteArray), i + d = l.length → doL F (l.drop i) = doL (ff 768) l → Ev (fun k => skifflaw7_held.l0 k F l (i : Int)) r := by
 induction d with
 | zero =>
  intro i F hi he
  obtain rfl : i = l.length := by omega
  rw [doL_end] at he
  rw [he]; exact hr
 | succ d ih =>
  intro i F hi he
  rw [doL_at F l i (by omega)] at he
  have w : wrap64 ((i : Int) + 1) = ((i + 1 : Nat) : Int) := by rw [wrap_id (by omega)]; omega
  refine Ev.step (fun k => by rw [skifflaw7_held.l0, if_pos (by omega), if_pos (by omega), w]) ?_
  refine Ev.bind (ref_Do_ev F _ _ _) ?_
  exact ih (i + 1) _ (by omega) he
theorem held7 : Ev (fun k => skifflaw7_held.f k) heldF := by
 have hw := ref_Words_ev 192 ab (by omega) (by rw [ab_size]; omega)
 rw [wordsV_ab] at hw
 unfold skifflaw7_held.f
 refine Ev.bind Blank_ev ?_
 refine Ev.bind hw ?_
 have hl : (wl (192 : Nat) ab (many ab)).length ≤ 1000 := by rw [wl_length, ab_many]; omega
 refine held7_l0 _ hl heldF ?_ (wl (192 : Nat) ab (many ab)).length 0 (ff 768) (by omega) rfl
 refine Ev.step (fun k => by rw [skifflaw7_held.l0, if_neg (by omega)]) ?_
 refine Ev.bind RecordOf_held1 ?_
 refine Ev.bind Append_held1 ?_
 have hl2 : (wl (0 : Nat) rec1 (many rec1)).length ≤ 1000 := by rw [wl_length, rec1_many]; omega
 exact held7_l1 _ hl2 (wl (0 : Nat) rec1 (many rec1)).length 0 held1 (by omega)
theorem Ev.same {α : Type} {g : Nat → Option α} {r s : α} (h1 : Ev g r) (h2 : Ev g s) : r = s := by
 obtain ⟨a, ha⟩ := h1; obtain ⟨b, hb⟩ := h2
 have e1 := ha (max a b) (Nat.le_max_left _ _)
 have e2 := hb (max a b) (Nat.le_max_right _ _)
 rw [e1] at e2; exact Option.some.inj e2
theorem crcV_ab : crcV ab = abSum := Ev.same (Crc_ev ab (by rw [ab_size]; omega)) ab_crc
theorem imgF_at (f : ByteArray) (sz : Int) (n : Nat) (h : sz = (n : Int)) : imgF f 0 sz = f.extract 192 (192 + n) := by
 subst h; unfold imgF; congr 1
theorem heldF_ab : imgF heldF 0 12 = ab := by
 rw [imgF_at heldF 12 12 rfl]
 apply bt_ext
 ·rw [ByteArray.size_extract, heldF_size, ab_size]; omega
 ·intro i hi
  rw [ByteArray.size_extract, heldF_size] at hi
  rw [bt_extract _ _ _ _ (by rw [heldF_size]; omega), heldF_bt _ (by omega), if_neg (by omega), if_pos (by omega), show 192 + i - 192 = i by omega]
theorem good_of (f : ByteArray) (x : S25) (q sl sz sm : Int) (hs : f.size = 768) (hx : x.f1 = ⟨q, sl, sz, sm⟩) (hr : recMay q sl sz sm = true) : good f x = (crcV (imgF f sl sz) == sm) := by
 unfold good goodV
 rw [hx]
 show (if f.size = 768 ∧ recMay q sl sz sm = true then (crcV (imgF f sl sz) == sm, (0 : Int)) else (false, 600)).1 = _
 rw [if_pos ⟨hs, hr⟩]
theorem good_held : good heldF place1 = true := by
 rw [good_of heldF place1 1 0 12 abSum heldF_size rfl rec1_may, heldF_ab, crcV_ab]
 exact beq_self_eq_true _
theorem pick_one (p : S25 → Bool) (x : S25) (h : p x = true) : pick p [x] = some x := by
 show pickS p none x = _
 unfold pickS; rw [if_pos h]
theorem act_held : act heldF = some place1 := by
 unfold act
 rw [scanL_heldF 8 (by omega) (by omega)]
 exact pick_one _ _ good_held
theorem actV_some {f : ByteArray} {x : S25} (hs : f.size = 768) (h : act f = some x) : actV f = (x.f0, x.f1.f0, x.f1.f1, x.f1.f2, x.f1.f3, 0) := by unfold actV; rw [if_pos hs, h]; rfl
theorem actV_none {f : ByteArray} (hs : f.size = 768) (h : act f = none) : actV f = (0, 0, 0, 0, 0, 701) := by unfold actV; rw [if_pos hs, h]; rfl
theorem othV_some {f : ByteArray} {x : S25} (hs : f.size = 768) (h : act f = some x) : othV f = (1 - x.f1.f1, 0) := by unfold othV; rw [if_pos hs, h]
theorem othV_none {f : ByteArray} (hs : f.size = 768) (h : act f = none) : othV f = (0, 0) := by unfold othV; rw [if_pos hs, h]
theorem actV_held : actV heldF = (0, 1, 0, 12, abSum, 0) := actV_some heldF_size act_held
theorem othV_held : othV heldF = (1, 0) := othV_some heldF_size act_held
theorem act_blank : act (ff 768) = none := by
 unfold act
 rw [scanL_blank (ff 768) 8 (fun j hj => pl_blank _ j (ff_size 768) hj (fun i h1 h2 => ff_bt 768 i (by omega)))]; rfl
theorem actV_blank : actV (ff 768) = (0, 0, 0, 0, 0, 701) := actV_none (ff_size 768) act_blank
theorem othV_blank : othV (ff 768) = (0, 0) := othV_none (ff_size 768) act_blank
theorem actV_empty : actV ⟨#[]⟩ = (0, 0, 0, 0, 0, 700) := by unfold actV; rw [if_neg (by decide)]
theorem awake7 : Ev (fun k => skifflaw7_awake.f k) true := by
 have h1 := Active_ev heldF
 rw [actV_held] at h1
 have h2 := Other_ev heldF
 rw [othV_held] at h2
 have h3 := Active_ev (ff 768)
 rw [actV_blank] at h3
 have h4 := Other_ev (ff 768)
 rw [othV_blank] at h4
 have h5 := Active_ev ⟨#[]⟩
 rw [actV_empty] at h5
 unfold skifflaw7_awake.f
 refine Ev.bind held7 (Ev.bind h1 (Ev.bind held7 (Ev.bind h2 (Ev.bind Blank_ev (Ev.bind h3 (Ev.bind Blank_ev (Ev.bind h4 (Ev.bind h5 ?_))))))))
 exact Ev.always fun k => by
  simp only [Num_eq, Option.bind_some]
  rw [if_pos (by decide), if_pos (by decide), if_pos (by decide), if_pos (by decide), if_pos (by decide), if_pos (by decide), if_pos (by decide), if_pos (by decide)]
  simp
end Go.Proofs.Ytjadcjkjpkkmkaa.M

/- Plain facts: what of a flash the active record hangs on; no memory in sight. -/
set_option linter.unnecessarySimpa false
set_option linter.unusedSimpArgs false
set_option linter.unusedVariables false
namespace Go.Proofs.Ytjadcjkjpkkmkaa.M
open Go.RowKit Go.Proofs.YtjadcjkjpkkmkaaW.PrintWords Go.Proofs.YtjadcjkjpkkmkaaW.PrintLast Go.Proofs.YtjadcjkjpkkmkaaW.PrintMore Go.Proofs.Ytjadcjkjpkkmkaa.Hand Go.Proofs.Ytjadcjkjpkkmkaa.PAll
theorem pl_same {f f' : ByteArray} (h1 : f.size = 768) (h2 : f'.size = 768) (h : ∀ i : Nat, i < 192 → bt f' (i : Int) = bt f (i : Int)) (j : Nat) (hj : j < 8) : pl f' j = pl f j := by
 apply bt_ext
 ·rw [pl_size _ _ h2 hj, pl_size _ _ h1 hj]
 ·intro i hi
  rw [pl_size _ _ h2 hj] at hi
  rw [pl_bt _ _ h2 hj i hi, pl_bt _ _ h1 hj i hi]
  exact h _ (by omega)
theorem scanL_same {f f' : ByteArray} (h1 : f.size = 768) (h2 : f'.size = 768) (h : ∀ i : Nat, i < 192 → bt f' (i : Int) = bt f (i : Int)) (n : Nat) (hn : n ≤ 8) : scanL f' n = scanL f n := by
 induction n with
 | zero => rfl
 | succ n ih => rw [scanL, scanL, ih (by omega), pl_same h1 h2 h n (by omega)]
theorem imgF_same {f f' : ByteArray} (h1 : f.size = 768) (h2 : f'.size = 768) (sl sz : Int) (s0 : 0 ≤ sl) (s1 : sl ≤ 1) (z0 : 1 ≤ sz) (z1 : sz ≤ 288) (h : ∀ i : Nat, 192 + 288 * sl ≤ (i : Int) → (i : Int) < 192 + 288 * sl + sz → bt f' (i : Int) = bt f (i : Int)) : imgF f' sl sz = imgF f sl sz := by
 unfold imgF
 apply bt_ext
 ·rw [ByteArray.size_extract, ByteArray.size_extract, h1, h2]
 ·intro i hi
  rw [ByteArray.size_extract, h2] at hi
  rw [bt_extract _ _ _ _ (by omega), bt_extract _ _ _ _ (by omega)]
  exact h _ (by omega) (by omega)
theorem good_same {f f' : ByteArray} (h1 : f.size = 768) (h2 : f'.size = 768) (x : S25) (hm : recMay x.f1.f0 x.f1.f1 x.f1.f2 x.f1.f3 = true) (h : ∀ i : Nat, 192 + 288 * x.f1.f1 ≤ (i : Int) → (i : Int) < 192 + 288 * x.f1.f1 + 288 → bt f' (i : Int) = bt f (i : Int)) : good f' x = good f x := by
 obtain ⟨_, _, s0, s1, z0, z1, _, _⟩ := recMay_bounds hm
 rw [good_of f' x _ _ _ _ h2 rfl hm, good_of f x _ _ _ _ h1 rfl hm, imgF_same h1 h2 _ _ s0 s1 z0 z1 (fun i a b => h i a (by omega))]
/-- The other slot turned: the active one is still good. -/
structure Stays (f f' : ByteArray) (x : S25) : Prop where
 scan : scanL f' 8 = scanL f 8
 mine : good f' x = true
 same : ∀ y, y ∈ scanL f 8 → y.f1.f1 = x.f1.f1 → good f' y = good f y
theorem stays {f f' : ByteArray} {x : S25} (h1 : f.size = 768) (h2 : f'.size = 768) (hx : act f = some x) (h : ∀ i : Nat, i < 768 → ¬ (192 + 288 * (1 - x.f1.f1) ≤ (i : Int) ∧ (i : Int) < 192 + 288 * (1 - x.f1.f1) + 288) → bt f' (i : Int) = bt f (i : Int)) : Stays f f' x := by
 obtain ⟨m, g, _⟩ := act_mem hx
 obtain ⟨_, _, s0, s1, _⟩ := recMay_bounds (scanL_may m)
 have far : ∀ y : S25, y ∈ scanL f 8 → y.f1.f1 = x.f1.f1 → good f' y = good f y := fun y hy e => good_same h1 h2 y (scanL_may hy) (fun i a b => h i (by omega) (by omega))
 exact ⟨scanL_same h1 h2 (fun i hi => h i (by omega) (by omega)) 8 (by omega), by rw [far x m rfl]; exact g, far⟩
theorem Stays.is {f f' : ByteArray} {x : S25} (h : Stays f f' x) (hx : act f = some x) : ∃ y, act f' = some y := by
 cases e : act f' with
 | some y => exact ⟨y, rfl⟩
 | none =>
  have := act_none e x (by rw [h.scan]; exact (act_mem hx).1)
  rw [h.mine] at this; cases this
end Go.Proofs.Ytjadcjkjpkkmkaa.M

/- ChooseTable: of two records, each good or not, which is active: told of plain numbers and lists, no memory in sight. -/
set_option linter.unusedSimpArgs false
set_option linter.unusedVariables false
set_option linter.unusedSectionVars false
namespace Go.Proofs.Ytjadcjkjpkkmkaa.Pure
open Go.RowKit Go.Proofs.Ytjadcjkjpkkmkaa.PAll Go.Proofs.YtjadcjkjpkkmkaaW.PrintWords Go.Proofs.YtjadcjkjpkkmkaaW.PrintLast Go.Proofs.YtjadcjkjpkkmkaaW.PrintMore Go.Proofs.Ytjadcjkjpkkmkaa.M Go.Proofs.Ytjadcjkjpkkmkaa.Hand
def fst : ByteArray := ⟨#[102, 105, 114, 115, 116]⟩
def snd : ByteArray := ⟨#[115, 101, 99, 111, 110, 100]⟩
theorem fst_size : fst.size = 5 := rfl
theorem snd_size : snd.size = 6 := rfl
/-- What stands in the slots. -/
def f0 (B : ByteArray) : ByteArray := (((B.extract 0 192 ++ fst) ++ B.extract 197 480) ++ snd) ++ B.extract 486 B.size
/-- And the records. -/
def f1 (F s t : ByteArray) : ByteArray := ((s ++ F.extract 24 96) ++ t) ++ F.extract 120 F.size
theorem bt_app {a b : ByteArray} (n : Nat) (h : a.size = n) (i : Nat) : bt (a ++ b) i = if i < n then bt a i else bt b ((i - n : Nat) : Int) := by rw [bt_append, h]
section
variable {B : ByteArray} (hB : B.size = 768)
include hB
theorem e1 : (B.extract 0 192).size = 192 := by rw [ByteArray.size_extract]; omega
theorem e2 : (B.extract 0 192 ++ fst).size = 197 := by rw [ByteArray.size_append, e1 hB, fst_size]
theorem e3 : (B.extract 197 480).size = 283 := by rw [ByteArray.size_extract]; omega
theorem e4 : ((B.extract 0 192 ++ fst) ++ B.extract 197 480).size = 480 := by rw [ByteArray.size_append, e2 hB, e3 hB]
theorem e5 : (((B.extract 0 192 ++ fst) ++ B.extract 197 480) ++ snd).size = 486 := by rw [ByteArray.size_append, e4 hB, snd_size]
theorem e6 : (B.extract 486 B.size).size = 282 := by rw [ByteArray.size_extract]; omega
theorem f0_size : (f0 B).size = 768 := by unfold f0; rw [ByteArray.size_append, e5 hB, e6 hB]
theorem f0_bt (h : ∀ i : Nat, i < 768 → bt B i = 255) (i : Nat) (hi : i < 768) : bt (f0 B) i = if 192 ≤ i ∧ i < 197 then bt fst ((i - 192 : Nat) : Int) else if 480 ≤ i ∧ i < 486 then bt snd ((i - 480 : Nat) : Int) else 255 := by
 unfold f0
 rw [bt_app 486 (e5 hB)]
 by_cases c1 : i < 486
 ·rw [if_pos c1, bt_app 480 (e4 hB)]
  by_cases c2 : i < 480
  ·rw [if_pos c2, bt_app 197 (e2 hB)]
   by_cases c3 : i < 197
   ·rw [if_pos c3, bt_app 192 (e1 hB)]
    by_cases c4 : i < 192
    ·rw [if_pos c4, if_neg (by omega), if_neg (by omega), bt_extract _ _ _ _ (by omega)]; exact h _ (by omega)
    ·rw [if_neg c4, if_pos (by omega)]
   ·rw [if_neg c3, if_neg (by omega), if_neg (by omega), bt_extract _ _ _ _ (by omega)]; exact h _ (by omega)
  ·rw [if_neg c2, if_neg (by omega), if_pos (by omega)]
 ·rw [if_neg c1, if_neg (by omega), if_neg (by omega), bt_extract _ _ _ _ (by omega)]; exact h _ (by omega)
end
section
variable {F s t : ByteArray} (hF : F.size = 768) (hs : s.size = 24) (ht : t.size = 24)
include hF hs
theorem g1 : (F.extract 24 96).size = 72 := by rw [ByteArray.size_extract]; omega
theorem g2 : (s ++ F.extract 24 96).size = 96 := by rw [ByteArray.size_append, g1 hF hs, hs]
include ht
theorem g3 : ((s ++ F.extract 24 96) ++ t).size = 120 := by rw [ByteArray.size_append, g2 hF hs, ht]
theorem g4 : (F.extract 120 F.size).size = 648 := by rw [ByteArray.size_extract]; omega
theorem f1_size : (f1 F s t).size = 768 := by unfold f1; rw [ByteArray.size_append, g3 hF hs ht, g4 hF hs ht]
theorem f1_bt (i : Nat) (hi : i < 768) : bt (f1 F s t) i = if i < 24 then bt s i else if 96 ≤ i ∧ i < 120 then bt t ((i - 96 : Nat) : Int) else bt F i := by
 unfold f1
 rw [bt_app 120 (g3 hF hs ht)]
 by_cases c1 : i < 120
 ·rw [if_pos c1, bt_app 96 (g2 hF hs)]
  by_cases c2 : i < 96
  ·rw [if_pos c2, bt_app 24 hs]
   by_cases c3 : i < 24
   ·rw [if_pos c3, if_pos c3]
   ·rw [if_neg c3, if_neg c3, if_neg (by omega), bt_extract _ _ _ _ (by omega), show 24 + (i - 24) = i by omega]
  ·rw [if_neg c2, if_neg (by omega), if_pos (by omega)]
 ·rw [if_neg c1, if_neg (by omega), if_neg (by omega), bt_extract _ _ _ _ (by omega), show 120 + (i - 120) = i by omega]
end
theorem pick_two (p : S25 → Bool) (x y : S25) : pick p [x, y] = pickS p (pickS p none x) y := rfl
def pX (p sx : Int) : S25 := ⟨0, ⟨p, 0, 5, sx⟩⟩
def pY (q sy : Int) : S25 := ⟨96, ⟨q, 1, 6, sy⟩⟩
/-- The flash that is asked. -/
def tabF (B : ByteArray) (p q sx sy : Int) : ByteArray := f1 (f0 B) (ent p 0 5 sx) (ent q 1 6 sy)
section
variable {B : ByteArray} (hB : B.size = 768) (hb : ∀ i : Nat, i < 768 → bt B i = 255)
variable (p q sx sy : Int)
include hB
theorem tabF_size : (tabF B p q sx sy).size = 768 := f1_size (f0_size hB) (ent_size _ _ _ _) (ent_size _ _ _ _)
include hb
theorem tabF_bt (i : Nat) (hi : i < 768) : bt (tabF B p q sx sy) i = if i < 24 then bt (ent p 0 5 sx) i else if 96 ≤ i ∧ i < 120 then bt (ent q 1 6 sy) ((i - 96 : Nat) : Int) else if 192 ≤ i ∧ i < 197 then bt fst ((i - 192 : Nat) : Int) else if 480 ≤ i ∧ i < 486 then bt snd ((i - 480 : Nat) : Int) else 255 := by
 unfold tabF
 rw [f1_bt (f0_size hB) (ent_size _ _ _ _) (ent_size _ _ _ _) i hi, f0_bt hB hb i hi]
theorem tab_pl0 : pl (tabF B p q sx sy) 0 = ent p 0 5 sx := by
 apply bt_ext
 ·rw [pl_size _ _ (tabF_size hB p q sx sy) (by omega), ent_size]
 ·intro i hi
  rw [pl_size _ _ (tabF_size hB p q sx sy) (by omega)] at hi
  rw [pl_bt _ _ (tabF_size hB p q sx sy) (by omega) i hi, tabF_bt hB hb _ _ _ _ _ (by omega), if_pos (by omega)]
  congr 1; omega
theorem tab_pl4 : pl (tabF B p q sx sy) 4 = ent q 1 6 sy := by
 apply bt_ext
 ·rw [pl_size _ _ (tabF_size hB p q sx sy) (by omega), ent_size]
 ·intro i hi
  rw [pl_size _ _ (tabF_size hB p q sx sy) (by omega)] at hi
  rw [pl_bt _ _ (tabF_size hB p q sx sy) (by omega) i hi, tabF_bt hB hb _ _ _ _ _ (by omega), if_neg (by omega), if_pos (by omega), show 24 * 4 + i - 96 = i by omega]
theorem tab_pl (j : Nat) (h : j < 8) (h0 : j ≠ 0) (h4 : j ≠ 4) : pl (tabF B p q sx sy) j = ff 24 :=
 pl_blank _ j (tabF_size hB p q sx sy) h (fun i a b => by rw [tabF_bt hB hb _ _ _ _ _ (by omega), if_neg (by omega), if_neg (by omega), if_neg (by omega), if_neg (by omega)])
variable (hx : recMay p 0 5 sx = true) (hy : recMay q 1 6 sy = true)
include hx hy
theorem tab_scan : scanL (tabF B p q sx sy) 8 = [pX p sx, pY q sy] := by
 have n : ∀ j, j < 8 → j ≠ 0 → j ≠ 4 → told j (getV (pl (tabF B p q sx sy) j)) = [] := fun j a b c => by rw [tab_pl hB hb p q sx sy j a b c, told_ff]
 have n0 : told 0 (getV (pl (tabF B p q sx sy) 0)) = [pX p sx] := by rw [tab_pl0 hB hb, getV_ent _ _ _ _ hx]; rfl
 have n4 : told 4 (getV (pl (tabF B p q sx sy) 4)) = [pY q sy] := by rw [tab_pl4 hB hb, getV_ent _ _ _ _ hy]; rfl
 simp only [scanL]
 rw [n0, n4, n 1 (by omega) (by omega) (by omega), n 2 (by omega) (by omega) (by omega), n 3 (by omega) (by omega) (by omega), n 5 (by omega) (by omega) (by omega), n 6 (by omega) (by omega) (by omega), n 7 (by omega) (by omega) (by omega)]
 rfl
omit hx hy
theorem tab_im0 : imgF (tabF B p q sx sy) 0 5 = fst := by
 have h5 : (192 + 288 * (0 : Int)).toNat = 192 ∧ (192 + 288 * (0 : Int) + 5).toNat = 197 := by decide
 unfold imgF
 rw [h5.1, h5.2]
 apply bt_ext
 ·rw [ByteArray.size_extract, tabF_size hB, fst_size]; omega
 ·intro i hi
  rw [ByteArray.size_extract, tabF_size hB] at hi
  rw [bt_extract _ _ _ _ (by rw [tabF_size hB]; omega), tabF_bt hB hb _ _ _ _ _ (by omega), if_neg (by omega), if_neg (by omega), if_pos (by omega), show 192 + i - 192 = i by omega]
theorem tab_im1 : imgF (tabF B p q sx sy) 1 6 = snd := by
 have h5 : (192 + 288 * (1 : Int)).toNat = 480 ∧ (192 + 288 * (1 : Int) + 6).toNat = 486 := by decide
 unfold imgF
 rw [h5.1, h5.2]
 apply bt_ext
 ·rw [ByteArray.size_extract, tabF_size hB, snd_size]; omega
 ·intro i hi
  rw [ByteArray.size_extract, tabF_size hB] at hi
  rw [bt_extract _ _ _ _ (by rw [tabF_size hB]; omega), tabF_bt hB hb _ _ _ _ _ (by omega), if_neg (by omega), if_neg (by omega), if_neg (by omega), if_pos (by omega), show 480 + i - 480 = i by omega]
include hx hy
theorem tab_goodX : good (tabF B p q sx sy) (pX p sx) = (crcV fst == sx) := by rw [good_of _ (pX p sx) p 0 5 sx (tabF_size hB p q sx sy) rfl hx, tab_im0 hB hb]
theorem tab_goodY : good (tabF B p q sx sy) (pY q sy) = (crcV snd == sy) := by rw [good_of _ (pY q sy) q 1 6 sy (tabF_size hB p q sx sy) rfl hy, tab_im1 hB hb]
theorem tab_act : act (tabF B p q sx sy) = if (crcV snd == sy) = true then (if (crcV fst == sx) = true then (if q ≥ p then some (pY q sy) else some (pX p sx)) else some (pY q sy)) else (if (crcV fst == sx) = true then some (pX p sx) else none) := by
 unfold act
 rw [tab_scan hB hb p q sx sy hx hy]
 rw [pick_two]
 unfold pickS
 rw [tab_goodX hB hb p q sx sy hx hy, tab_goodY hB hb p q sx sy hx hy]
 by_cases c1 : (crcV fst == sx) = true
 ·simp only [if_pos c1]; rfl
 ·simp only [if_neg c1]
end
def c1 : Int := (PAll.skiffref1_Crc.f 100 fst).getD 0
def c2 : Int := (PAll.skiffref1_Crc.f 100 snd).getD 0
theorem crc1 : Ev (fun k => skiffref1_Crc.f k fst) c1 := Ev.of (fun k => skiffref1_Crc.mono fst k) (k := 100) (by kernel_rfl)
theorem crc2 : Ev (fun k => skiffref1_Crc.f k snd) c2 := Ev.of (fun k => skiffref1_Crc.mono snd k) (k := 100) (by kernel_rfl)
theorem crcV1 : crcV fst = c1 := Ev.same (Crc_ev fst (by rw [fst_size]; omega)) crc1
theorem crcV2 : crcV snd = c2 := Ev.same (Crc_ev snd (by rw [snd_size]; omega)) crc2
theorem sums : (0 ≤ c1 ∧ c1 ≤ 4294967295) ∧ (0 ≤ c2 ∧ c2 ≤ 4294967295) ∧ (0 ≤ Go.bits .xor .i64 c1 1 ∧ Go.bits .xor .i64 c1 1 ≤ 4294967295 ∧ c1 ≠ Go.bits .xor .i64 c1 1) ∧ (0 ≤ Go.bits .xor .i64 c2 1 ∧ Go.bits .xor .i64 c2 1 ≤ 4294967295 ∧ c2 ≠ Go.bits .xor .i64 c2 1) := by decide +kernel
abbrev B8 (x : Int) : BitVec 64 := BitVec.ofInt 64 x
theorem bits_and_i64 (x : Int) (m : Nat) (hm : m < 1000) : Go.bits .and .i64 x (m : Int) = (((B8 x).toNat &&& m : Nat) : Int) := by
 have e : (B8 x &&& B8 (m : Int)).toNat = (B8 x).toNat &&& m := by
  rw [BitVec.toNat_and]
  have e2 : (B8 (m : Int)).toNat = m := by
   show (BitVec.ofInt 64 (m : Int)).toNat = m
   rw [BitVec.ofInt_natCast, BitVec.toNat_ofNat, Nat.mod_eq_of_lt (by omega)]
  rw [e2]
 have hlt : (B8 x).toNat &&& m ≤ m := Nat.and_le_right
 show IntKind.i64.wrap ((B8 x &&& B8 (m : Int)).toNat : Int) = _
 rw [e, IntKind.wrap_i64]; omega
theorem and_7 (x : Int) : 0 ≤ Go.bits .and .i64 x 7 ∧ Go.bits .and .i64 x 7 ≤ 7 := by
 have h := bits_and_i64 x 7 (by omega)
 have hlt : (B8 x).toNat &&& 7 ≤ 7 := Nat.and_le_right
 have h' : Go.bits .and .i64 x 7 = (((B8 x).toNat &&& 7 : Nat) : Int) := h
 omega
theorem and_3 (x : Int) : (Go.bits .and .i64 x 1 = 0 ∨ Go.bits .and .i64 x 1 = 1) ∧ (Go.bits .and .i64 x 3 = 3 ↔ Go.bits .and .i64 x 1 = 1 ∧ Go.bits .and .i64 x 2 = 2) := by
 have h1 : Go.bits .and .i64 x 1 = (((B8 x).toNat &&& 1 : Nat) : Int) := bits_and_i64 x 1 (by omega)
 have h2 : Go.bits .and .i64 x 2 = (((B8 x).toNat &&& 2 : Nat) : Int) := bits_and_i64 x 2 (by omega)
 have h3 : Go.bits .and .i64 x 3 = (((B8 x).toNat &&& 3 : Nat) : Int) := bits_and_i64 x 3 (by omega)
 rw [h1, h2, h3]
 generalize (B8 x).toNat = n
 have a1 : n &&& 1 = n % 2 := Nat.and_one_is_mod n
 have a3 : n &&& 3 = n % 4 := Nat.and_two_pow_sub_one_eq_mod n 2
 have a2 : n &&& 2 = (n % 4) &&& 2 := by rw [← a3, Nat.and_assoc]; rfl
 rw [a1, a3, a2]
 have h4 : n % 4 = 0 ∨ n % 4 = 1 ∨ n % 4 = 2 ∨ n % 4 = 3 := by omega
 rcases h4 with c | c | c | c <;> rw [c] <;> simp <;> omega
theorem table_go {B : ByteArray} (hB : B.size = 768) (hb : ∀ i : Nat, i < 768 → bt B i = 255) (a0 p q sx sy : Int) (hp : 1 ≤ p ∧ p ≤ 8) (hq : 1 ≤ q ∧ q ≤ 8) (hsx : 0 ≤ sx ∧ sx ≤ 4294967295) (hsy : 0 ≤ sy ∧ sy ≤ 4294967295) (h1 : (c1 == sx) = !decide (Go.bits .and .i64 a0 1 = 1)) (h2 : (c2 == sy) = !decide (Go.bits .and .i64 a0 2 = 2)) :
  Ev (fun k => skifflaw7_ChooseTable.j1 k a0 p q (f0 B) p 0 5 sx q 1 6 sy) true := by
 have hx : recMay p 0 5 sx = true := by unfold recMay; rw [decide_eq_true_eq]; omega
 have hy : recMay q 1 6 sy = true := by unfold recMay; rw [decide_eq_true_eq]; omega
 have ha := tab_act hB hb p q sx sy hx hy
 rw [crcV1, crcV2, h1, h2] at ha
 have hA := Active_ev (tabF B p q sx sy)
 have hO := Other_ev (tabF B p q sx sy)
 have sz := tabF_size hB p q sx sy
 have p1 := PutEntry_ev p 0 5 sx
 have p2 := PutEntry_ev q 1 6 sy
 rw [show putV p 0 5 sx = (ent p 0 5 sx, 0) by unfold putV; rw [if_pos hx]] at p1
 rw [show putV q 1 6 sy = (ent q 1 6 sy, 0) by unfold putV; rw [if_pos hy]] at p2
 have hF := f0_size hB
 have hs := ent_size p 0 5 sx
 have ht := ent_size q 1 6 sy
 have z1 := g1 hF hs
 have z2 := g2 hF hs
 have z3 := g3 hF hs ht
 have z4 : ((f0 B).extract 120 768).size = 648 := by rw [← hF]; exact g4 hF hs ht
 obtain ⟨b1, b3⟩ := and_3 a0
 refine Ev.step (fun k => by rw [skifflaw7_ChooseTable.j1]) ?_
 refine Ev.bind p1 (Ev.bind p2 ?_)
 simp only [hF, hs, ht, z1, z2, z3, z4, if_pos (show (24 : Int) ≤ 96 by decide), if_pos (show (24 : Nat) ≤ 96 by decide), if_pos (show (96 : Int) ≤ ((768 : Nat) : Int) by decide), if_pos (show (120 : Int) ≤ ((768 : Nat) : Int) by decide), if_pos (show 24 + 72 ≤ 9223372036854775807 by decide), if_pos (show 96 + 24 ≤ 9223372036854775807 by decide), if_pos (show 120 + 648 ≤ 9223372036854775807 by decide)]
 have fold : ((ent p 0 5 sx ++ (f0 B).extract 24 96) ++ ent q 1 6 sy) ++ (f0 B).extract 120 768 = tabF B p q sx sy := by unfold tabF f1; rw [hF]
 rw [fold]
 refine Ev.bind hA (Ev.bind hO ?_)
 by_cases k1 : Go.bits .and .i64 a0 1 = 1
 ·have n0 : ¬ Go.bits .and .i64 a0 1 = 0 := by omega
  by_cases k2 : Go.bits .and .i64 a0 2 = 2
  ·have k3 : Go.bits .and .i64 a0 3 = 3 := b3.2 ⟨k1, k2⟩
   have ha' : act (tabF B p q sx sy) = none := by simpa [k1, k2] using ha
   simp only [actV_none sz ha', othV_none sz ha', if_pos k2]
   refine Ev.step (fun k => by rw [skifflaw7_ChooseTable.j2, if_pos rfl]) ?_
   exact Ev.one fun k => by rw [skifflaw7_ChooseTable.j3, if_pos k3, Num_eq, Option.bind_some, if_pos rfl, if_pos (by decide), if_pos rfl]; rfl
  ·have k3 : ¬ Go.bits .and .i64 a0 3 = 3 := fun h => k2 (b3.1 h).2
   have ha' : act (tabF B p q sx sy) = some (pY q sy) := by simpa [k1, k2] using ha
   simp only [actV_some sz ha', othV_some sz ha', if_neg k2, if_neg n0]
   refine Ev.step (fun k => by rw [skifflaw7_ChooseTable.j2, if_neg (by decide)]) ?_
   exact Ev.one fun k => by rw [skifflaw7_ChooseTable.j3, if_neg k3, Num_eq, Option.bind_some, if_pos rfl, if_pos (by simp [pY]), if_pos (by show (1 : Int) - 1 = 0; decide)]; rfl
 ·have k0 : Go.bits .and .i64 a0 1 = 0 := by omega
  have k3 : ¬ Go.bits .and .i64 a0 3 = 3 := fun h => k1 (b3.1 h).1
  by_cases k2 : Go.bits .and .i64 a0 2 = 2
  ·have ha' : act (tabF B p q sx sy) = some (pX p sx) := by simpa [k1, k2] using ha
   simp only [actV_some sz ha', othV_some sz ha', if_pos k2]
   refine Ev.step (fun k => by rw [skifflaw7_ChooseTable.j2, if_pos rfl]) ?_
   exact Ev.one fun k => by rw [skifflaw7_ChooseTable.j3, if_neg k3, Num_eq, Option.bind_some, if_pos rfl, if_pos (by simp [pX]), if_pos (by show (1 : Int) - 0 = 1; decide)]; rfl
  ·by_cases k4 : p > q
   ·have ha' : act (tabF B p q sx sy) = some (pX p sx) := by simpa [k1, k2, show ¬ p ≤ q by omega] using ha
    simp only [actV_some sz ha', othV_some sz ha', if_neg k2, if_pos k0, decide_eq_true k4]
    refine Ev.step (fun k => by rw [skifflaw7_ChooseTable.j2, if_pos rfl]) ?_
    exact Ev.one fun k => by rw [skifflaw7_ChooseTable.j3, if_neg k3, Num_eq, Option.bind_some, if_pos rfl, if_pos (by simp [pX]), if_pos (by show (1 : Int) - 0 = 1; decide)]; rfl
   ·have ha' : act (tabF B p q sx sy) = some (pY q sy) := by simpa [k1, k2, show p ≤ q by omega] using ha
    simp only [actV_some sz ha', othV_some sz ha', if_neg k2, if_pos k0, decide_eq_false k4]
    refine Ev.step (fun k => by rw [skifflaw7_ChooseTable.j2, if_neg (by decide)]) ?_
    exact Ev.one fun k => by rw [skifflaw7_ChooseTable.j3, if_neg k3, Num_eq, Option.bind_some, if_pos rfl, if_pos (by simp [pY]), if_pos (by show (1 : Int) - 1 = 0; decide)]; rfl
theorem ChooseTable : skifflaw7_ChooseTable.Pure := by
 intro a0 a1 a2 _ _ _
 have h : Ev (fun k => skifflaw7_ChooseTable.f k a0 a1 a2) true := by
  have w1 := and_7 a1
  have w2 := and_7 a2
  obtain ⟨s1, s2, s3, s4⟩ := sums
  have hB := ff_size 768
  have hb : ∀ i : Nat, i < 768 → bt (ff 768) i = 255 := fun i h => ff_bt 768 i h
  have hBl := Blank_ev
  generalize ff 768 = B at hB hb hBl
  have z1 := e1 hB
  have z2 := e2 hB
  have z3 := e3 hB
  have z4 := e4 hB
  have z5 := e5 hB
  have z6 := e6 hB
  unfold skifflaw7_ChooseTable.f
  refine Ev.bind awake7 ?_
  simp only [if_true]
  refine Ev.bind hBl ?_
  rw [wrap_id (x := 1 + Go.bits .and .i64 a1 7) (by omega), wrap_id (x := 1 + Go.bits .and .i64 a2 7) (by omega)]
  show Ev (fun k => (if (0 : Int) ≤ 192 then (if (192 : Int) ≤ (B.size : Int) then (if (B.extract 0 192).size + 5 ≤ 9223372036854775807 then (if (197 : Int) ≤ 480 then (if (480 : Int) ≤ (B.size : Int) then (if (B.extract 0 192 ++ fst).size + (B.extract 197 480).size ≤ 9223372036854775807 then (if ((B.extract 0 192 ++ fst) ++ B.extract 197 480).size + 6 ≤ 9223372036854775807 then (if (486 : Int) ≤ (B.size : Int) then (if (((B.extract 0 192 ++ fst) ++ B.extract 197 480) ++ snd).size + (B.extract 486 B.size).size ≤ 9223372036854775807 then ((skiffref1_Crc.f k fst).bind fun t353 => ((skiffref1_Crc.f k snd).bind fun t355 => (if Go.bits .and .i64 a0 1 = 1 then (skifflaw7_ChooseTable.j0 k a0 (1 + Go.bits .and .i64 a1 7) (1 + Go.bits .and .i64 a2 7) (f0 B) (1 + Go.bits .and .i64 a1 7) 0 5 (Go.bits .xor .i64 t353 1) (1 + Go.bits .and .i64 a2 7) 1 6 t355) else (skifflaw7_ChooseTable.j0 k a0 (1 + Go.bits .and .i64 a1 7) (1 + Go.bits .and .i64 a2 7) (f0 B) (1 + Go.bits .and .i64 a1 7) 0 5 t353 (1 + Go.bits .and .i64 a2 7) 1 6 t355)))) else (none)) else (none)) else (none)) else (none)) else (none)) else (none)) else (none)) else (none)) else (none))) true
  simp only [z1, z2, z3, z4, z5, z6, hB, if_pos (show (0 : Int) ≤ 192 by decide), if_pos (show (192 : Int) ≤ ((768 : Nat) : Int) by decide), if_pos (show 192 + 5 ≤ 9223372036854775807 by decide), if_pos (show (197 : Int) ≤ 480 by decide), if_pos (show (480 : Int) ≤ ((768 : Nat) : Int) by decide), if_pos (show 197 + 283 ≤ 9223372036854775807 by decide), if_pos (show 480 + 6 ≤ 9223372036854775807 by decide), if_pos (show (486 : Int) ≤ ((768 : Nat) : Int) by decide)]
  have z6' : (B.extract 486 768).size = 282 := by rw [← hB]; exact z6
  simp only [z6', if_pos (show 486 + 282 ≤ 9223372036854775807 by decide)]
  refine Ev.bind crc1 (Ev.bind crc2 ?_)
  have fin : ∀ sx, 0 ≤ sx ∧ sx ≤ 4294967295 → (c1 == sx) = !decide (Go.bits .and .i64 a0 1 = 1) → Ev (fun k => skifflaw7_ChooseTable.j0 k a0 (1 + Go.bits .and .i64 a1 7) (1 + Go.bits .and .i64 a2 7) (f0 B) (1 + Go.bits .and .i64 a1 7) 0 5 sx (1 + Go.bits .and .i64 a2 7) 1 6 c2) true := by
   intro sx hsx h1
   by_cases k2 : Go.bits .and .i64 a0 2 = 2
   ·refine Ev.step (fun k => by rw [skifflaw7_ChooseTable.j0, if_pos k2]) ?_
    exact table_go hB hb a0 _ _ sx _ (by omega) (by omega) hsx ⟨s4.1, s4.2.1⟩ h1 (by rw [decide_eq_true k2]; exact beq_eq_false_iff_ne.2 s4.2.2)
   ·refine Ev.step (fun k => by rw [skifflaw7_ChooseTable.j0, if_neg k2]) ?_
    exact table_go hB hb a0 _ _ sx _ (by omega) (by omega) hsx s2 h1 (by rw [decide_eq_false k2]; exact beq_self_eq_true _)
  by_cases k1 : Go.bits .and .i64 a0 1 = 1
  ·simp only [if_pos k1]
   exact fin _ ⟨s3.1, s3.2.1⟩ (by rw [decide_eq_true k1]; exact beq_eq_false_iff_ne.2 s3.2.2)
  ·simp only [if_neg k1]
   exact fin _ s1 (by rw [decide_eq_false k1]; exact beq_self_eq_true _)
 exact h.rounds
end Go.Proofs.Ytjadcjkjpkkmkaa.Pure

