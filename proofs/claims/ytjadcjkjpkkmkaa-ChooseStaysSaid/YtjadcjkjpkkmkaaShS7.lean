import Derived.Test.YtjadcjkjpkkmkaaShS6
-- Laid together from this session's own texts by its program wip/tools/shake.py.
/- Plain facts: the sum of a text, by the program and by the reference: the same; no memory in sight. -/
set_option linter.unnecessarySimpa false
set_option linter.unusedSimpArgs false
set_option linter.unusedVariables false
namespace Go.Proofs.Ytjadcjkjpkkmkaa.M
open Go.RowKit Go.Proofs.YtjadcjkjpkkmkaaW.PrintWords Go.Proofs.YtjadcjkjpkkmkaaW.PrintLast Go.Proofs.YtjadcjkjpkkmkaaW.PrintMore Go.Proofs.Ytjadcjkjpkkmkaa.Hand Go.Proofs.Ytjadcjkjpkkmkaa.PAll
abbrev B4 (x : Int) : BitVec 32 := BitVec.ofInt 32 x
theorem wrap32 (b : BitVec 32) : IntKind.u32.wrap (b.toNat : Int) = b.toNat := by
 rw [IntKind.wrap_u32]; have := b.isLt; omega
theorem bits_and_u32 (x y : Int) : Go.bits .and .u32 x y = ((B4 x &&& B4 y).toNat : Int) := wrap32 _
theorem and1_u32 (x : Int) : Go.bits .and .u32 x 1 = 0 ∨ Go.bits .and .u32 x 1 = 1 := by
 rw [bits_and_u32]
 have : (B4 x &&& B4 1).toNat = (B4 x).toNat % 2 := by rw [BitVec.toNat_and, show (B4 1).toNat = 1 from rfl, Nat.and_one_is_mod]
 rw [this]; omega
/-- One bit goes out of the sum. -/
def bitS (x : Int) : Int := if Go.bits .and .u32 x 1 = 0 then x / 2 else Go.bits .xor .u32 (x / 2) 3988292384
def itS : Nat → Int → Int
 | 0, x => x
 | n + 1, x => itS n (bitS x)
theorem stepl (d : Nat) : ∀ (k i : Nat) (x : Int), i + d = 8 → d < k → PBase.crc_step.l0 k x (i : Int) = some (itS d x) := by
 induction d with
 | zero =>
  intro k i x hi hk
  obtain ⟨k, rfl⟩ : ∃ m, k = m + 1 := ⟨k - 1, by omega⟩
  rw [PBase.crc_step.l0, if_neg (by omega)]; rfl
 | succ d ih =>
  intro k i x hi hk
  obtain ⟨k, rfl⟩ : ∃ m, k = m + 1 := ⟨k - 1, by omega⟩
  have hw : wrap64 ((i : Int) + 1) = ((i + 1 : Nat) : Int) := by unfold wrap64; omega
  rw [PBase.crc_step.l0, if_pos (by omega), hw, itS, bitS]
  by_cases c : Go.bits .and .u32 x 1 = 0
  ·rw [if_pos c, if_pos c]; exact ih k (i + 1) _ (by omega) (by omega)
  ·rw [if_neg c, if_neg c]; exact ih k (i + 1) _ (by omega) (by omega)
theorem crcStep_it (x b : Int) : crcStep x b = itS 8 (Go.bits .xor .u32 x (b % 4294967296)) := by
 have h := stepl 8 9 0 (Go.bits .xor .u32 x (b % 4294967296)) (by omega) (by omega)
 have h2 : PBase.crc_step.f 9 x b = some (itS 8 (Go.bits .xor .u32 x (b % 4294967296))) := h
 unfold crcStep
 rw [h2]; rfl
def crcV (s : ByteArray) : Int := wrap64 (Go.bits .xor .u32 IntKind.u32.max (crcL (bytesOf s)))
theorem crc_Sum_eq (s : ByteArray) (h : s.size ≤ 140737488355328) : crc_Sum.f s = some (crcV s) := by
 unfold crc_Sum.f; rw [if_pos h]; rfl
theorem Crc_bits (s : ByteArray) (j : Int) (r : Int) (d : Nat) : ∀ (i : Nat) (x : Int), i + d = 8 → Ev (fun k => skiffref1_Crc.l0 k s (itS d x) (wrap64 (j + 1))) r → Ev (fun k => skiffref1_Crc.l1 k s x j (i : Int)) r := by
 induction d with
 | zero =>
  intro i x hi h
  exact Ev.step (fun k => by rw [skiffref1_Crc.l1, if_neg (by omega)]; rfl) h
 | succ d ih =>
  intro i x hi h
  have hw : wrap64 ((i : Int) + 1) = ((i + 1 : Nat) : Int) := by unfold wrap64; omega
  have h1 := ih (i + 1) (bitS x) (by omega) h
  refine Ev.step (fun k => ?_) h1
  rw [skiffref1_Crc.l1, if_pos (by omega), hw, bitS]
  rcases and1_u32 x with c | c
  ·rw [if_neg (by omega), if_pos c]
  ·rw [if_pos c, if_neg (by omega)]
theorem Crc_go (s : ByteArray) (hs : s.size ≤ 140737488355328) (d : Nat) : ∀ (j : Nat) (x : Int), j + d = s.size → Ev (fun k => skiffref1_Crc.l0 k s x (j : Int)) (wrap64 (Go.bits .xor .u32 IntKind.u32.max (((bytesOf s).drop j).foldl crcStep x))) := by
 induction d with
 | zero =>
  intro j x hj
  refine Ev.one fun k => ?_
  rw [skiffref1_Crc.l0, if_neg (by omega), List.drop_eq_nil_of_le (by rw [bytesOf_length]; omega)]; rfl
 | succ d ih =>
  intro j x hj
  have hl : j < (bytesOf s).length := by rw [bytesOf_length]; omega
  have hw : wrap64 ((j : Int) + 1) = ((j + 1 : Nat) : Int) := by unfold wrap64; omega
  have e : (bytesOf s)[j] = bt s (j : Int) := by
   have := rd_bytesOf s (j : Int)
   rw [← this]; simp [rd, List.getElem?_eq_getElem hl]
  have h1 := ih (j + 1) (crcStep x (bt s (j : Int))) (by omega)
  rw [List.drop_eq_getElem_cons hl, List.foldl_cons, e]
  refine Ev.step (fun k => by rw [skiffref1_Crc.l0, if_pos (by omega), if_pos (by omega)]) ?_
  refine Crc_bits s (j : Int) _ 8 0 _ rfl ?_
  rw [hw, ← crcStep_it]
  exact h1
theorem Crc_ev (s : ByteArray) (hs : s.size ≤ 140737488355328) : Ev (fun k => skiffref1_Crc.f k s) (crcV s) := by
 unfold skiffref1_Crc.f crcV crcL
 exact Crc_go s hs s.size 0 4294967295 (by omega)
end Go.Proofs.Ytjadcjkjpkkmkaa.M

/- Plain facts: which record is active, by the program and by the reference: the same; no memory in sight. -/
set_option linter.unnecessarySimpa false
set_option linter.unusedSimpArgs false
set_option linter.unusedVariables false
namespace Go.Proofs.Ytjadcjkjpkkmkaa.M
open Go.RowKit Go.Proofs.YtjadcjkjpkkmkaaW.PrintWords Go.Proofs.YtjadcjkjpkkmkaaW.PrintLast Go.Proofs.YtjadcjkjpkkmkaaW.PrintMore Go.Proofs.Ytjadcjkjpkkmkaa.Hand Go.Proofs.Ytjadcjkjpkkmkaa.PAll
/-- The bytes of a slot, so many. -/
def imgF (f : ByteArray) (sl sz : Int) : ByteArray := f.extract (192 + 288 * sl).toNat (192 + 288 * sl + sz).toNat
def goodV (f : ByteArray) (q sl sz sm : Int) : Bool × Int := if f.size = 768 ∧ recMay q sl sz sm = true then (crcV (imgF f sl sz) == sm, 0) else (false, 600)
def ofV (f : ByteArray) (q sl sz sm : Int) : ByteArray × Int := if f.size = 768 ∧ recMay q sl sz sm = true then (imgF f sl sz, 0) else (⟨#[]⟩, 600)
theorem recMay_bounds {q sl sz sm : Int} (h : recMay q sl sz sm = true) : 1 ≤ q ∧ q ≤ 1048576 ∧ 0 ≤ sl ∧ sl ≤ 1 ∧ 1 ≤ sz ∧ sz ≤ 288 ∧ 0 ≤ sm ∧ sm ≤ 4294967295 := of_decide_eq_true h
theorem imgF_size (f : ByteArray) (sl sz : Int) : (imgF f sl sz).size ≤ f.size := by unfold imgF; rw [ByteArray.size_extract]; omega
theorem base_eq {sl : Int} (h0 : 0 ≤ sl) (h1 : sl ≤ 1) : wrap64 ((wrap64 (2 + (wrap64 (3 * sl)))) * 96) = 192 + 288 * sl := by
 rw [wrap_id (x := 3 * sl) (by omega), wrap_id (x := 2 + 3 * sl) (by omega), wrap_id (by omega)]; omega
theorem image_Of_eq (f : ByteArray) (q sl sz sm : Int) : PSc.image_Of.f f q sl sz sm = some (ofV f q sl sz sm) := by
 unfold PSc.image_Of.f PSc.nor_May.f ofV
 simp only [Option.bind_some, May_eq]
 by_cases h : f.size = 768
 ·have e : ((f.size : Int) == 768) = true := by simp; omega
  simp only [e, if_true]
  by_cases hr : recMay q sl sz sm = true
  ·obtain ⟨_, _, s0, s1, z0, z1, _, _⟩ := recMay_bounds hr
   simp only [hr, if_true]
   unfold PSc.image_Base.f PSc.entry_Slot.f PSc.image_Sector.f PSc.journal_Begin.f
   simp only [in_eq, Option.bind_some]
   rw [if_pos (by simpa using ⟨s0, s1⟩), if_pos ⟨h, trivial⟩]
   simp only [Option.bind_some, base_eq s0 s1, wrap_id (x := 192 + 288 * sl + sz) (by omega)]
   rw [if_pos (by omega), if_pos (by omega), if_pos (by omega)]; rfl
  ·rw [if_neg hr, if_neg (fun x => hr x.2)]
 ·have e : ((f.size : Int) == 768) = false := by simp; omega
  rw [e, if_neg (by decide), if_neg (fun x => h x.1)]
theorem image_Good_eq (f : ByteArray) (q sl sz sm : Int) : PSc.image_Good.f f q sl sz sm = some (goodV f q sl sz sm) := by
 unfold PSc.image_Good.f
 rw [image_Of_eq, Option.bind_some]
 unfold ofV goodV
 by_cases h : f.size = 768 ∧ recMay q sl sz sm = true
 ·have := imgF_size f sl sz
  rw [if_pos h, if_pos h]
  simp only [if_true]
  rw [crc_Sum_eq _ (by omega)]; rfl
 ·rw [if_neg h, if_neg h]; rfl
theorem ref_Of_eq (f : ByteArray) (q sl sz sm : Int) : skiffref1_ImageOf.f f q sl sz sm = some (ofV f q sl sz sm) := by
 unfold skiffref1_ImageOf.f skiffref1_FlashMay.f ofV
 simp only [Option.bind_some, RecordMay_eq]
 by_cases h : f.size = 768
 ·have e : ((f.size : Int) == 768) = true := by simp; omega
  simp only [e, if_true]
  by_cases hr : recMay q sl sz sm = true
  ·obtain ⟨_, _, s0, s1, z0, z1, _, _⟩ := recMay_bounds hr
   simp only [hr, if_true]
   unfold skiffref1_Base.f
   simp only [upTo_eq, Option.bind_some]
   rw [if_pos (by simpa using ⟨s0, s1⟩), if_pos ⟨h, trivial⟩]
   simp only [Option.bind_some, base_eq s0 s1, wrap_id (x := 192 + 288 * sl + sz) (by omega)]
   rw [if_pos (by omega), if_pos (by omega), if_pos (by omega)]; rfl
  ·rw [if_neg hr, if_neg (fun x => hr x.2)]
 ·have e : ((f.size : Int) == 768) = false := by simp; omega
  rw [e, if_neg (by decide), if_neg (fun x => h x.1)]
theorem ref_Good_ev (f : ByteArray) (q sl sz sm : Int) : Ev (fun k => skiffref1_Good.f k f q sl sz sm) (goodV f q sl sz sm) := by
 unfold skiffref1_Good.f
 rw [ref_Of_eq]
 simp only [Option.bind_some]
 unfold ofV goodV
 by_cases h : f.size = 768 ∧ recMay q sl sz sm = true
 ·have := imgF_size f sl sz
  simp only [if_pos h, if_true]
  exact Ev.bind (Crc_ev _ (by omega)) (Ev.now _)
 ·simp only [if_neg h]
  exact Ev.now _
/-- Is a place's record good? -/
def good (f : ByteArray) (x : S25) : Bool := (goodV f x.f1.f0 x.f1.f1 x.f1.f2 x.f1.f3).1
def goodSc (f : ByteArray) (x : PSc.S25) : Bool := (goodV f x.f1.f0 x.f1.f1 x.f1.f2 x.f1.f3).1
def pickS (p : S25 → Bool) (b : Option S25) (x : S25) : Option S25 := if p x = true then (match b with | none => some x | some y => if x.f1.f0 ≥ y.f1.f0 then some x else some y) else b
/-- The greatest of those that are good; of these the last one. -/
def pick (p : S25 → Bool) (l : List S25) : Option S25 := l.foldl (pickS p) none
def ansV : Option S25 → Int × Int × Int × Int × Int × Int
 | some x => (x.f0, x.f1.f0, x.f1.f1, x.f1.f2, x.f1.f3, 0)
 | none => (0, 0, 0, 0, 0, 701)
def act (f : ByteArray) : Option S25 := pick (good f) (scanL f 8)
def actV (f : ByteArray) : Int × Int × Int × Int × Int × Int := if f.size = 768 then ansV (act f) else (0, 0, 0, 0, 0, 700)
/-- What pick gives: as Best, without the heap. -/
def Top (p : S25 → Bool) (P : S25 → Prop) (r : Option S25) : Prop :=
 (∃ x, r = some x ∧ P x ∧ p x = true ∧ ∀ y, P y → p y = true → y.f1.f0 < x.f1.f0 ∨ (y.f1.f0 = x.f1.f0 ∧ y.f0 ≤ x.f0)) ∨ (r = none ∧ ∀ y, P y → p y = false)
theorem Top_one {p : S25 → Bool} {P : S25 → Prop} {r s : Option S25} (hP : ∀ x y, P x → P y → x.f0 = y.f0 → x = y) (h1 : Top p P r) (h2 : Top p P s) : r = s := by
 rcases h1 with ⟨x, hr, hx, hgx, hmx⟩ | ⟨hr, hn⟩ <;> rcases h2 with ⟨y, hs, hy, hgy, hmy⟩ | ⟨hs, hn2⟩
 ·have a := hmx y hy hgy
  have b := hmy x hx hgx
  have : x.f0 = y.f0 := by omega
  rw [hr, hs, hP x y hx hy this]
 ·rw [hn2 x hx] at hgx; cases hgx
 ·rw [hn y hy] at hgy; cases hgy
 ·rw [hr, hs]
theorem Top_snoc {p : S25 → Bool} {l : List S25} {b : Option S25} {x : S25} (h : Top p (fun y => y ∈ l) b) (hx : ∀ y, y ∈ l → y.f0 ≤ x.f0) : Top p (fun y => y ∈ l ++ [x]) (pickS p b x) := by
 have mem : ∀ y, y ∈ l ++ [x] ↔ y ∈ l ∨ y = x := fun y => by simp
 unfold pickS
 by_cases c : p x = true
 ·rw [if_pos c]
  rcases h with ⟨z, rfl, hz, hgz, hmax⟩ | ⟨rfl, hno⟩
  ·show Top p _ (if x.f1.f0 ≥ z.f1.f0 then some x else some z)
   by_cases c2 : x.f1.f0 ≥ z.f1.f0
   ·rw [if_pos c2]
    refine Or.inl ⟨x, rfl, (mem x).2 (Or.inr rfl), c, fun y hy hgy => ?_⟩
    rcases (mem y).1 hy with h1 | rfl
    ·have := hmax y h1 hgy; have := hx y h1; have := hx z hz; omega
    ·omega
   ·rw [if_neg c2]
    refine Or.inl ⟨z, rfl, (mem z).2 (Or.inl hz), hgz, fun y hy hgy => ?_⟩
    rcases (mem y).1 hy with h1 | rfl
    ·exact hmax y h1 hgy
    ·omega
  ·refine Or.inl ⟨x, rfl, (mem x).2 (Or.inr rfl), c, fun y hy hgy => ?_⟩
   rcases (mem y).1 hy with h1 | rfl
   ·rw [hno y h1] at hgy; cases hgy
   ·omega
 ·rw [if_neg c]
  rcases h with ⟨z, rfl, hz, hgz, hmax⟩ | ⟨rfl, hno⟩
  ·refine Or.inl ⟨z, rfl, (mem z).2 (Or.inl hz), hgz, fun y hy hgy => ?_⟩
   rcases (mem y).1 hy with h1 | rfl
   ·exact hmax y h1 hgy
   ·exact absurd hgy c
  ·refine Or.inr ⟨rfl, fun y hy => ?_⟩
   rcases (mem y).1 hy with h1 | rfl
   ·exact hno y h1
   ·simpa using c
theorem Top_fold {p : S25 → Bool} : ∀ (l2 l1 : List S25) (b : Option S25), (l1 ++ l2).Pairwise (fun a b => a.f0 < b.f0) → Top p (fun y => y ∈ l1) b → Top p (fun y => y ∈ l1 ++ l2) (l2.foldl (pickS p) b)
 | [], l1, b, _, h => by rw [List.append_nil]; exact h
 | x :: l2, l1, b, hs, h => by
  have e : l1 ++ x :: l2 = (l1 ++ [x]) ++ l2 := by simp
  rw [e] at hs ⊢
  have h1 : (l1 ++ [x]).Pairwise (fun a b => a.f0 < b.f0) := (List.pairwise_append.1 hs).1
  have h2 := (List.pairwise_append.1 h1).2.2
  exact Top_fold l2 (l1 ++ [x]) _ hs (Top_snoc h fun y hy => Int.le_of_lt (h2 y hy x (by simp)))
theorem pick_Top {p : S25 → Bool} {l : List S25} (h : l.Pairwise (fun a b => a.f0 < b.f0)) : Top p (fun y => y ∈ l) (pick p l) := by
 have := Top_fold (p := p) l [] none (by simpa using h) (Or.inr ⟨rfl, fun y hy => by simp at hy⟩)
 simpa [pick] using this
theorem mem_told {j : Nat} {g : Int × Int × Int × Int × Int} {x : S25} : x ∈ told j g ↔ g.2.2.2.2 = 0 ∧ x = ⟨24 * (j : Int), ⟨g.1, g.2.1, g.2.2.1, g.2.2.2.1⟩⟩ := by
 unfold told
 by_cases h : g.2.2.2.2 = 0
 ·rw [if_pos h]; simp [h]
 ·rw [if_neg h]; simp [h]
theorem mem_scanL {f : ByteArray} {n : Nat} {x : S25} : x ∈ scanL f n ↔ ∃ j, j < n ∧ x ∈ told j (getV (pl f j)) := by
 induction n with
 | zero => simp [scanL]
 | succ n ih =>
  rw [scanL, List.mem_append, ih]
  constructor
  ·rintro (⟨j, hj, h⟩ | h)
   ·exact ⟨j, by omega, h⟩
   ·exact ⟨n, by omega, h⟩
  ·rintro ⟨j, hj, h⟩
   by_cases c : j = n
   ·subst c; exact Or.inr h
   ·exact Or.inl ⟨j, by omega, h⟩
theorem scanL_at {f : ByteArray} {n : Nat} {x : S25} (h : x ∈ scanL f n) : ∃ j : Nat, j < n ∧ x.f0 = 24 * (j : Int) ∧ (getV (pl f j)) = (x.f1.f0, x.f1.f1, x.f1.f2, x.f1.f3, 0) := by
 obtain ⟨j, hj, hx⟩ := mem_scanL.1 h
 obtain ⟨h0, rfl⟩ := mem_told.1 hx
 refine ⟨j, hj, rfl, ?_⟩
 show getV (pl f j) = ((getV (pl f j)).1, (getV (pl f j)).2.1, (getV (pl f j)).2.2.1, (getV (pl f j)).2.2.2.1, 0)
 rw [← h0]
theorem scanL_sorted (f : ByteArray) (n : Nat) : (scanL f n).Pairwise (fun a b => a.f0 < b.f0) := by
 induction n with
 | zero => exact List.Pairwise.nil
 | succ n ih =>
  rw [scanL, List.pairwise_append]
  refine ⟨ih, ?_, fun a ha b hb => ?_⟩
  ·unfold told; split
   ·exact List.pairwise_singleton _ _
   ·exact List.Pairwise.nil
  ·obtain ⟨j, hj, e, _⟩ := scanL_at ha
   obtain ⟨_, rfl⟩ := mem_told.1 hb
   show a.f0 < 24 * (n : Int)
   omega
theorem scanL_one {f : ByteArray} {n : Nat} {x y : S25} (hx : x ∈ scanL f n) (hy : y ∈ scanL f n) (h : x.f0 = y.f0) : x = y := by
 obtain ⟨i, hi, h1⟩ := mem_scanL.1 hx
 obtain ⟨j, hj, h2⟩ := mem_scanL.1 hy
 obtain ⟨_, rfl⟩ := mem_told.1 h1
 obtain ⟨_, rfl⟩ := mem_told.1 h2
 have : i = j := by
  have h' : 24 * (i : Int) = 24 * (j : Int) := h
  omega
 subst this; rfl
theorem getV_may {s : ByteArray} {q sl sz sm : Int} (h : getV s = (q, sl, sz, sm, 0)) : recMay q sl sz sm = true := by
 unfold getV at h
 by_cases c : getOk s
 ·rw [if_pos c] at h
  injection h with h1 h; injection h with h2 h; injection h with h3 h; injection h with h4 h
  rw [← h1, ← h2, ← h3, ← h4]; exact c.2.2
 ·rw [if_neg c] at h
  injection h with h1 h; injection h with h2 h; injection h with h3 h; injection h with h4 h
  exact absurd h (by decide)
theorem scanL_may {f : ByteArray} {n : Nat} {x : S25} (h : x ∈ scanL f n) : recMay x.f1.f0 x.f1.f1 x.f1.f2 x.f1.f3 = true := by
 obtain ⟨j, _, _, e⟩ := scanL_at h; exact getV_may e
theorem act_Top (f : ByteArray) : Top (good f) (fun x => x ∈ scanL f 8) (act f) := pick_Top (scanL_sorted f 8)
theorem act_mem {f : ByteArray} {x : S25} (h : act f = some x) : x ∈ scanL f 8 ∧ good f x = true ∧ ∀ y, y ∈ scanL f 8 → good f y = true → y.f1.f0 < x.f1.f0 ∨ (y.f1.f0 = x.f1.f0 ∧ y.f0 ≤ x.f0) := by
 rcases act_Top f with ⟨z, hr, hz, hgz, hmax⟩ | ⟨hr, _⟩
 ·rw [h] at hr; injection hr with hr; subst hr; exact ⟨hz, hgz, hmax⟩
 ·rw [h] at hr; cases hr
theorem act_none {f : ByteArray} (h : act f = none) : ∀ y, y ∈ scanL f 8 → good f y = false := by
 rcases act_Top f with ⟨z, hr, _⟩ | ⟨_, hno⟩
 ·rw [h] at hr; cases hr
 ·exact hno
theorem toSc_Best {f : ByteArray} {l : List S25} {r : Option S25} (h : Top (good f) (fun x => x ∈ l) r) : Best (goodSc f) (fun x => x ∈ l.map toSc) (r.map toSc) := by
 rcases h with ⟨x, rfl, hx, hgx, hmax⟩ | ⟨rfl, hno⟩
 ·refine Or.inl ⟨toSc x, rfl, List.mem_map_of_mem hx, hgx, fun y hy hgy => ?_⟩
  obtain ⟨z, hz, rfl⟩ := List.mem_map.1 hy
  exact hmax z hz hgy
 ·refine Or.inr ⟨rfl, fun y hy => ?_⟩
  obtain ⟨z, hz, rfl⟩ := List.mem_map.1 hy
  exact hno z hz
theorem ans_toSc (r : Option S25) : ans (r.map toSc) = ansV r := by cases r <;> rfl
theorem Active_ev (f : ByteArray) : Ev (fun k => choose_Active.f k f) (actV f) := by
 have hs := Scan_ev f
 unfold choose_Active.f
 refine Ev.bind hs ?_
 unfold scanV actV
 by_cases h : f.size = 768
 ·simp only [if_pos h, if_true]
  have hl := scanL_length f 8
  have hl2 : ((scanL f 8).map toSc).length ≤ 999 := by rw [List.length_map]; omega
  simp only [if_pos hl2]
  have hg : ∀ x : PSc.S25, ∃ e, PSc.image_Good.f f x.f1.f0 x.f1.f1 x.f1.f2 x.f1.f3 = some (goodSc f x, e) := fun x => ⟨_, image_Good_eq f _ _ _ _⟩
  refine ⟨9, fun k hk => ?_⟩
  obtain ⟨r, e, hb⟩ := queue_ok f (goodSc f) hg ((scanL f 8).map toSc) k (by rw [List.length_map]; omega)
  have hb2 := toSc_Best (act_Top f)
  have : r = (act f).map toSc := Best_one (fun x y hx hy hxy => by
   obtain ⟨a, ha, rfl⟩ := List.mem_map.1 hx
   obtain ⟨b, hb, rfl⟩ := List.mem_map.1 hy
   rw [scanL_one ha hb hxy]) hb hb2
  rw [this, ans_toSc] at e
  exact e
 ·simp only [if_neg h, show ¬ ((500 : Int) = 0) by decide, if_false]
  exact Ev.now _
theorem rd25 (l : List S25) (i : Nat) (h : i < l.length) : rd_T25 l (i : Int) = l[i] := by simp [rd_T25, List.getD_eq_getElem?_getD, List.getElem?_eq_getElem h]
/-- The slot that is not the active one's. -/
def othV (f : ByteArray) : Int × Int := if f.size = 768 then (match act f with | some x => (1 - x.f1.f1, 0) | none => (0, 0)) else (0, 700)
theorem Other_ev (f : ByteArray) : Ev (fun k => choose_Other.f k f) (othV f) := by
 unfold choose_Other.f
 refine Ev.bind (Active_ev f) ?_
 unfold actV othV
 by_cases h : f.size = 768
 ·simp only [if_pos h]
  cases ha : act f with
  | none => exact Ev.now _
  | some x =>
   obtain ⟨_, _, s0, s1, _⟩ := recMay_bounds (scanL_may (act_mem ha).1)
   simp only [ansV, if_true, if_neg (show ¬ ((0 : Int) = 700) by decide), wrap_id (x := 1 - x.f1.f1) (by omega)]
   exact Ev.now _
 ·simp only [if_neg h, if_true]
  exact Ev.now _
end Go.Proofs.Ytjadcjkjpkkmkaa.M

/- Plain facts: what every program answers that is one, of package choose; no memory in sight. -/
set_option linter.unnecessarySimpa false
set_option linter.unusedSimpArgs false
set_option linter.unusedVariables false
namespace Go.Proofs.Ytjadcjkjpkkmkaa.M
open Go.RowKit Go.Proofs.YtjadcjkjpkkmkaaW.PrintWords Go.Proofs.YtjadcjkjpkkmkaaW.PrintLast Go.Proofs.YtjadcjkjpkkmkaaW.PrintMore Go.Proofs.Ytjadcjkjpkkmkaa.Hand Go.Proofs.Ytjadcjkjpkkmkaa.PAll
theorem Num_eq (x : Int) : skifflaw0_Num.f x = some x := rfl
theorem held7_l1 (l : List S87) (hl : l.length ≤ 1000) (d : Nat) : ∀ (i : Nat) (F : ByteArray), i + d = l.length → Ev (fun k => skifflaw7_held.l1 k F l (i : Int)) (doL F (l.drop i)) := by
 induction d with
 | zero =>
  intro i F hi
  obtain rfl : i = l.length := by omega
  rw [doL_end]
  exact Ev.one fun k => by rw [skifflaw7_held.l1, if_neg (by omega)]
 | succ d ih =>
  intro i F hi
  rw [doL_at F l i (by omega)]
  have w : wrap64 ((i : Int) + 1) = ((i + 1 : Nat) : Int) := by rw [wrap_id (by omega)]; omega
  refine Ev.step (fun k => by rw [skifflaw7_held.l1, if_pos (by omega), if_pos (by omega), w]) ?_
  refine Ev.bind (ref_Do_ev F _ _ _) ?_
  exact ih (i + 1) _ (by omega)
theorem held7_l0 (l : List S87) (hl : l.length ≤ 1000) (r : ByteArray) (hr : Ev (fun k => skifflaw7_held.l0 k (doL (ff 768) l) l (l.length : Int)) r) (d : Nat) : ∀ (i : Nat) (F : ByteArray), i + d = l.length → doL F (l.drop i) = doL (ff 768) l → Ev (fun k => skifflaw7_held.l0 k F l (i : Int)) r := by
 induction d with
 | zero =>
  intro i F hi he
  obtain rfl : i = l.length := by omega
  rw [doL_end] at he
  rw [he]; exact hr
 | succ d ih =>
  intro i F hi he
  rw [doL_at F l i (by omega)] at he
  have w : wrap64 ((i : Int) + 1) = ((i + 1 : Nat) : Int) := by rw [wrap_id (by omega)]; omega
  refine Ev.step (fun k => by rw [skifflaw7_held.l0, if_pos (by omega), if_pos (by omega), w]) ?_
  refine Ev.bind (ref_Do_ev F _ _ _) ?_
  exact ih (i + 1) _ (by omega) he
theorem held7 : Ev (fun k => skifflaw7_held.f k) heldF := by
 have hw := ref_Words_ev 192 ab (by omega) (by rw [ab_size]; omega)
 rw [wordsV_ab] at hw
 unfold skifflaw7_held.f
 refine Ev.bind Blank_ev ?_
 refine Ev.bind hw ?_
 have hl : (wl (192 : Nat) ab (many ab)).length ≤ 1000 := by rw [wl_length, ab_many]; omega
 refine held7_l0 _ hl heldF ?_ (wl (192 : Nat) ab (many ab)).length 0 (ff 768) (by omega) rfl
 refine Ev.step (fun k => by rw [skifflaw7_held.l0, if_neg (by omega)]) ?_
 refine Ev.bind RecordOf_held1 ?_
 refine Ev.bind Append_held1 ?_
 have hl2 : (wl (0 : Nat) rec1 (many rec1)).length ≤ 1000 := by rw [wl_length, rec1_many]; omega
 exact held7_l1 _ hl2 (wl (0 : Nat) rec1 (many rec1)).length 0 held1 (by omega)
theorem Ev.same {α : Type} {g : Nat → Option α} {r s : α} (h1 : Ev g r) (h2 : Ev g s) : r = s := by
 obtain ⟨a, ha⟩ := h1; obtain ⟨b, hb⟩ := h2
 have e1 := ha (max a b) (Nat.le_max_left _ _)
 have e2 := hb (max a b) (Nat.le_max_right _ _)
 rw [e1] at e2; exact Option.some.inj e2
theorem crcV_ab : crcV ab = abSum := Ev.same (Crc_ev ab (by rw [ab_size]; omega)) ab_crc
theorem imgF_at (f : ByteArray) (sz : Int) (n : Nat) (h : sz = (n : Int)) : imgF f 0 sz = f.extract 192 (192 + n) := by
 subst h; unfold imgF; congr 1
theorem heldF_ab : imgF heldF 0 12 = ab := by
 rw [imgF_at heldF 12 12 rfl]
 apply bt_ext
 ·rw [ByteArray.size_extract, heldF_size, ab_size]; omega
 ·intro i hi
  rw [ByteArray.size_extract, heldF_size] at hi
  rw [bt_extract _ _ _ _ (by rw [heldF_size]; omega), heldF_bt _ (by omega), if_neg (by omega), if_pos (by omega), show 192 + i - 192 = i by omega]
theorem good_of (f : ByteArray) (x : S25) (q sl sz sm : Int) (hs : f.size = 768) (hx : x.f1 = ⟨q, sl, sz, sm⟩) (hr : recMay q sl sz sm = true) : good f x = (crcV (imgF f sl sz) == sm) := by
 unfold good goodV
 rw [hx]
 show (if f.size = 768 ∧ recMay q sl sz sm = true then (crcV (imgF f sl sz) == sm, (0 : Int)) else (false, 600)).1 = _
 rw [if_pos ⟨hs, hr⟩]
theorem good_held : good heldF place1 = true := by
 rw [good_of heldF place1 1 0 12 abSum heldF_size rfl rec1_may, heldF_ab, crcV_ab]
 exact beq_self_eq_true _
theorem pick_one (p : S25 → Bool) (x : S25) (h : p x = true) : pick p [x] = some x := by
 show pickS p none x = _
 unfold pickS; rw [if_pos h]
theorem act_held : act heldF = some place1 := by
 unfold act
 rw [scanL_heldF 8 (by omega) (by omega)]
 exact pick_one _ _ good_held
theorem actV_some {f : ByteArray} {x : S25} (hs : f.size = 768) (h : act f = some x) : actV f = (x.f0, x.f1.f0, x.f1.f1, x.f1.f2, x.f1.f3, 0) := by unfold actV; rw [if_pos hs, h]; rfl
theorem actV_none {f : ByteArray} (hs : f.size = 768) (h : act f = none) : actV f = (0, 0, 0, 0, 0, 701) := by unfold actV; rw [if_pos hs, h]; rfl
theorem othV_some {f : ByteArray} {x : S25} (hs : f.size = 768) (h : act f = some x) : othV f = (1 - x.f1.f1, 0) := by unfold othV; rw [if_pos hs, h]
theorem othV_none {f : ByteArray} (hs : f.size = 768) (h : act f = none) : othV f = (0, 0) := by unfold othV; rw [if_pos hs, h]
theorem actV_held : actV heldF = (0, 1, 0, 12, abSum, 0) := actV_some heldF_size act_held
theorem othV_held : othV heldF = (1, 0) := othV_some heldF_size act_held
theorem act_blank : act (ff 768) = none := by
 unfold act
 rw [scanL_blank (ff 768) 8 (fun j hj => pl_blank _ j (ff_size 768) hj (fun i h1 h2 => ff_bt 768 i (by omega)))]; rfl
theorem actV_blank : actV (ff 768) = (0, 0, 0, 0, 0, 701) := actV_none (ff_size 768) act_blank
theorem othV_blank : othV (ff 768) = (0, 0) := othV_none (ff_size 768) act_blank
theorem actV_empty : actV ⟨#[]⟩ = (0, 0, 0, 0, 0, 700) := by unfold actV; rw [if_neg (by decide)]
theorem awake7 : Ev (fun k => skifflaw7_awake.f k) true := by
 have h1 := Active_ev heldF
 rw [actV_held] at h1
 have h2 := Other_ev heldF
 rw [othV_held] at h2
 have h3 := Active_ev (ff 768)
 rw [actV_blank] at h3
 have h4 := Other_ev (ff 768)
 rw [othV_blank] at h4
 have h5 := Active_ev ⟨#[]⟩
 rw [actV_empty] at h5
 unfold skifflaw7_awake.f
 refine Ev.bind held7 (Ev.bind h1 (Ev.bind held7 (Ev.bind h2 (Ev.bind Blank_ev (Ev.bind h3 (Ev.bind Blank_ev (Ev.bind h4 (Ev.bind h5 ?_))))))))
 exact Ev.always fun k => by
  simp only [Num_eq, Option.bind_some]
  rw [if_pos (by decide), if_pos (by decide), if_pos (by decide), if_pos (by decide), if_pos (by decide), if_pos (by decide), if_pos (by decide), if_pos (by decide)]
  simp
end Go.Proofs.Ytjadcjkjpkkmkaa.M

/- Plain facts: what of a flash the active record hangs on; no memory in sight. -/
set_option linter.unnecessarySimpa false
set_option linter.unusedSimpArgs false
set_option linter.unusedVariables false
namespace Go.Proofs.Ytjadcjkjpkkmkaa.M
open Go.RowKit Go.Proofs.YtjadcjkjpkkmkaaW.PrintWords Go.Proofs.YtjadcjkjpkkmkaaW.PrintLast Go.Proofs.YtjadcjkjpkkmkaaW.PrintMore Go.Proofs.Ytjadcjkjpkkmkaa.Hand Go.Proofs.Ytjadcjkjpkkmkaa.PAll
theorem pl_same {f f' : ByteArray} (h1 : f.size = 768) (h2 : f'.size = 768) (h : ∀ i : Nat, i < 192 → bt f' (i : Int) = bt f (i : Int)) (j : Nat) (hj : j < 8) : pl f' j = pl f j := by
 apply bt_ext
 ·rw [pl_size _ _ h2 hj, pl_size _ _ h1 hj]
 ·intro i hi
  rw [pl_size _ _ h2 hj] at hi
  rw [pl_bt _ _ h2 hj i hi, pl_bt _ _ h1 hj i hi]
  exact h _ (by omega)
theorem scanL_same {f f' : ByteArray} (h1 : f.size = 768) (h2 : f'.size = 768) (h : ∀ i : Nat, i < 192 → bt f' (i : Int) = bt f (i : Int)) (n : Nat) (hn : n ≤ 8) : scanL f' n = scanL f n := by
 induction n with
 | zero => rfl
 | succ n ih => rw [scanL, scanL, ih (by omega), pl_same h1 h2 h n (by omega)]
theorem imgF_same {f f' : ByteArray} (h1 : f.size = 768) (h2 : f'.size = 768) (sl sz : Int) (s0 : 0 ≤ sl) (s1 : sl ≤ 1) (z0 : 1 ≤ sz) (z1 : sz ≤ 288) (h : ∀ i : Nat, 192 + 288 * sl ≤ (i : Int) → (i : Int) < 192 + 288 * sl + sz → bt f' (i : Int) = bt f (i : Int)) : imgF f' sl sz = imgF f sl sz := by
 unfold imgF
 apply bt_ext
 ·rw [ByteArray.size_extract, ByteArray.size_extract, h1, h2]
 ·intro i hi
  rw [ByteArray.size_extract, h2] at hi
  rw [bt_extract _ _ _ _ (by omega), bt_extract _ _ _ _ (by omega)]
  exact h _ (by omega) (by omega)
theorem good_same {f f' : ByteArray} (h1 : f.size = 768) (h2 : f'.size = 768) (x : S25) (hm : recMay x.f1.f0 x.f1.f1 x.f1.f2 x.f1.f3 = true) (h : ∀ i : Nat, 192 + 288 * x.f1.f1 ≤ (i : Int) → (i : Int) < 192 + 288 * x.f1.f1 + 288 → bt f' (i : Int) = bt f (i : Int)) : good f' x = good f x := by
 obtain ⟨_, _, s0, s1, z0, z1, _, _⟩ := recMay_bounds hm
 rw [good_of f' x _ _ _ _ h2 rfl hm, good_of f x _ _ _ _ h1 rfl hm, imgF_same h1 h2 _ _ s0 s1 z0 z1 (fun i a b => h i a (by omega))]
/-- The other slot turned: the active one is still good. -/
structure Stays (f f' : ByteArray) (x : S25) : Prop where
 scan : scanL f' 8 = scanL f 8
 mine : good f' x = true
 same : ∀ y, y ∈ scanL f 8 → y.f1.f1 = x.f1.f1 → good f' y = good f y
theorem stays {f f' : ByteArray} {x : S25} (h1 : f.size = 768) (h2 : f'.size = 768) (hx : act f = some x) (h : ∀ i : Nat, i < 768 → ¬ (192 + 288 * (1 - x.f1.f1) ≤ (i : Int) ∧ (i : Int) < 192 + 288 * (1 - x.f1.f1) + 288) → bt f' (i : Int) = bt f (i : Int)) : Stays f f' x := by
 obtain ⟨m, g, _⟩ := act_mem hx
 obtain ⟨_, _, s0, s1, _⟩ := recMay_bounds (scanL_may m)
 have far : ∀ y : S25, y ∈ scanL f 8 → y.f1.f1 = x.f1.f1 → good f' y = good f y := fun y hy e => good_same h1 h2 y (scanL_may hy) (fun i a b => h i (by omega) (by omega))
 exact ⟨scanL_same h1 h2 (fun i hi => h i (by omega) (by omega)) 8 (by omega), by rw [far x m rfl]; exact g, far⟩
theorem Stays.is {f f' : ByteArray} {x : S25} (h : Stays f f' x) (hx : act f = some x) : ∃ y, act f' = some y := by
 cases e : act f' with
 | some y => exact ⟨y, rfl⟩
 | none =>
  have := act_none e x (by rw [h.scan]; exact (act_mem hx).1)
  rw [h.mine] at this; cases this
theorem Stays.best {f f' : ByteArray} {x : S25} (h : Stays f f' x) (hx : act f = some x) (hb : ∀ y, y ∈ scanL f 8 → good f' y = true → y.f1.f0 < x.f1.f0 ∨ (y.f1.f0 = x.f1.f0 ∧ y.f0 ≤ x.f0)) : M.act f' = some x := by
 refine (Top_one (fun a b ha hb => scanL_one ha hb) (act_Top f') ?_).trans rfl
 exact Or.inl ⟨x, rfl, by rw [h.scan]; exact (act_mem hx).1, h.mine, fun y hy => hb y (by rw [← h.scan]; exact hy)⟩
end Go.Proofs.Ytjadcjkjpkkmkaa.M

/- ChooseStays: the other slot programmed in part, the active record stays while nothing else becomes good: told of plain numbers and lists, no memory in sight. -/
set_option linter.unusedSimpArgs false
set_option linter.unusedVariables false
namespace Go.Proofs.Ytjadcjkjpkkmkaa.Pure
open Go.RowKit Go.Proofs.Ytjadcjkjpkkmkaa.PAll Go.Proofs.YtjadcjkjpkkmkaaW.PrintWords Go.Proofs.YtjadcjkjpkkmkaaW.PrintLast Go.Proofs.YtjadcjkjpkkmkaaW.PrintMore Go.Proofs.Ytjadcjkjpkkmkaa.M Go.Proofs.Ytjadcjkjpkkmkaa.Hand
theorem stays_go (f : ByteArray) (o p0 p1 p2 p3 p4 q0 q1 q2 q3 q4 : Int) (l : List S25) (hl : l.length ≤ 1000)
  (hr : (∀ y, y ∈ l → good f y = true → y.f1.f1 ≠ o) → Ev (fun k => skifflaw7_ChooseStays.l0 k o f 0 l (l.length : Int) p0 p1 p2 p3 p4 q0 q1 q2 q3 q4) true) (d : Nat) :
  ∀ (i : Nat), i + d = l.length → (∀ y, y ∈ l.take i → good f y = true → y.f1.f1 ≠ o) → Ev (fun k => skifflaw7_ChooseStays.l0 k o f 0 l (i : Int) p0 p1 p2 p3 p4 q0 q1 q2 q3 q4) true := by
 induction d with
 | zero =>
  intro i hi hb
  obtain rfl : i = l.length := by omega
  rw [List.take_length] at hb
  exact hr hb
 | succ d ih =>
  intro i hi hb
  have hil : i < l.length := by omega
  have w : wrap64 ((i : Int) + 1) = ((i + 1 : Nat) : Int) := by rw [wrap_id (by omega)]; omega
  have next : (good f (rd_T25 l (i : Int)) = true → (rd_T25 l (i : Int)).f1.f1 ≠ o) → ∀ y, y ∈ l.take (i + 1) → good f y = true → y.f1.f1 ≠ o := by
   intro h y hy
   rw [List.take_succ_eq_append_getElem hil, List.mem_append, List.mem_singleton] at hy
   rcases hy with hy | rfl
   ·exact hb y hy
   ·rw [← rd25 l i hil]; exact h
  refine Ev.step (fun k => by rw [skifflaw7_ChooseStays.l0, if_pos (by omega), if_pos (by omega), w]) ?_
  refine Ev.bind (ref_Good_ev f _ _ _ _) ?_
  by_cases c : good f (rd_T25 l (i : Int)) = true
  ·have c' : (goodV f (rd_T25 l (i : Int)).f1.f0 (rd_T25 l (i : Int)).f1.f1 (rd_T25 l (i : Int)).f1.f2 (rd_T25 l (i : Int)).f1.f3).1 = true := c
   simp only [c', if_true]
   by_cases c1 : (rd_T25 l (i : Int)).f1.f1 = o
   ·simp only [if_pos c1, Num_eq, Option.bind_some, beq_self_eq_true]; exact Ev.now _
   ·simp only [if_neg c1]; exact ih (i + 1) (by omega) (next fun _ => c1)
  ·have c' : (goodV f (rd_T25 l (i : Int)).f1.f0 (rd_T25 l (i : Int)).f1.f1 (rd_T25 l (i : Int)).f1.f2 (rd_T25 l (i : Int)).f1.f3).1 = false := by simpa [good] using c
   simp only [c', Bool.false_eq_true, if_false]
   exact ih (i + 1) (by omega) (next fun h => absurd h c)
theorem urem (x : Int) (n : Int) (h0 : 0 < n) (h1 : n ≤ 1000) : 0 ≤ wrap64 (Int.tmod (IntKind.u64.wrap x) n) ∧ wrap64 (Int.tmod (IntKind.u64.wrap x) n) < n := by
 have hx : 0 ≤ IntKind.u64.wrap x := by rw [IntKind.wrap_u64]; omega
 rw [Int.tmod_eq_emod_of_nonneg hx]
 have a := Int.emod_nonneg (IntKind.u64.wrap x) (show n ≠ 0 by omega)
 have b := Int.emod_lt_of_pos (IntKind.u64.wrap x) h0
 rw [wrap_id (by omega)]
 exact ⟨a, b⟩
theorem ref_Base_eq {sl : Int} (h0 : 0 ≤ sl) (h1 : sl ≤ 1) : skiffref1_Base.f sl = some (192 + 288 * sl, 0) := by
 unfold skiffref1_Base.f
 simp only [upTo_eq, Option.bind_some]
 rw [if_pos (by simpa using ⟨h0, h1⟩), base_eq h0 h1]
theorem ChooseStays : skifflaw7_ChooseStays.Pure := by
 intro f word t bits hf hw ht hbits
 have h : Ev (fun k => skifflaw7_ChooseStays.f k f word t bits) true := by
  unfold skifflaw7_ChooseStays.f
  refine Ev.bind awake7 ?_
  simp only [if_true]
  refine Ev.bind (Active_ev f) (Ev.bind (Other_ev f) ?_)
  simp only [Num_eq, Option.bind_some]
  by_cases hs : f.size = 768
  ·cases ha : act f with
   | none =>
    simp only [actV_none hs ha, show ¬ ((701 : Int) = 0) by decide, if_false]
    exact Ev.one fun k => by rw [skifflaw7_ChooseStays.j0, if_pos rfl]; rfl
   | some x =>
    simp only [actV_some hs ha, othV_some hs ha, if_true]
    obtain ⟨_, _, s0, s1, _⟩ := recMay_bounds (scanL_may (act_mem ha).1)
    obtain ⟨b0, b1⟩ := urem word 72 (by omega) (by omega)
    obtain ⟨c0, c1⟩ := urem bits 33 (by omega) (by omega)
    obtain ⟨m, hm⟩ : ∃ m, wrap64 (Int.tmod (IntKind.u64.wrap bits) 33) = m := ⟨_, rfl⟩
    obtain ⟨u, hu⟩ : ∃ u, wrap64 (Int.tmod (IntKind.u64.wrap word) 72) = u := ⟨_, rfl⟩
    rw [hu] at b0 b1
    rw [hm] at c0 c1
    obtain ⟨A, hA⟩ := Int.eq_ofNat_of_zero_le (show 0 ≤ 192 + 288 * (1 - x.f1.f1) + 4 * u by omega)
    have hwA : wrap64 (192 + 288 * (1 - x.f1.f1) + wrap64 (4 * u)) = (A : Int) := by rw [wrap_id (x := 4 * u) (by omega), wrap_id (by omega)]; exact hA
    have hbase := ref_Base_eq (sl := 1 - x.f1.f1) (by omega) (by omega)
    by_cases h4 : t.size = 4
    ·have hT : skiffref1_Torn.f f (A : Int) t m = some (tornF f A t m, 0) := by
      have := ref_Torn_eq f (A : Int) t m hs ⟨by omega, by omega, by omega, h4⟩ c0 (by omega)
      rw [Int.toNat_natCast] at this; exact this
     have szx : (tornF f A t m).size = 768 := by rw [tornF_size _ _ _ _ (by omega)]; exact hs
     have st := stays hs szx ha (fun i hi hn => by rw [tornF_bt _ _ _ _ (by omega) i (by omega), if_neg (by omega)])
     obtain ⟨q, hq⟩ := st.is ha
     have hl := scanL_length f 8
     have hsc := ref_Scan_ev (tornF f A t m)
     rw [show scanV (tornF f A t m) = (scanL f 8, 0) by unfold scanV; rw [if_pos szx, st.scan]] at hsc
     have hact := Active_ev (tornF f A t m)
     rw [actV_some szx hq] at hact
     refine Ev.step (f := fun k => skifflaw7_ChooseStays.j1 k (1 - x.f1.f1) 0 (tornF f A t m) false x.f0 x.f1.f0 x.f1.f1 x.f1.f2 x.f1.f3) (fun k => ?_) ?_
     ·rw [skifflaw7_ChooseStays.j0, if_neg (by decide), hbase, Option.bind_some, hu, hm, hwA, hT, Option.bind_some, if_pos rfl]; rfl
     ·refine Ev.step (fun k => by rw [skifflaw7_ChooseStays.j1, if_neg (by decide)]) ?_
      refine Ev.bind hact (Ev.bind hsc ?_)
      refine stays_go (tornF f A t m) (1 - x.f1.f1) _ _ _ _ _ _ _ _ _ _ (scanL f 8) (by omega) (fun hb => ?_) _ 0 (Nat.zero_add _) (fun y hy => by simp at hy)
      have hbest : act (tornF f A t m) = some x := st.best ha fun y hy hg => by
       have h1 := hb y hy hg
       obtain ⟨_, _, r0, r1, _⟩ := recMay_bounds (scanL_may hy)
       have h2 : y.f1.f1 = x.f1.f1 := by omega
       rw [st.same y hy h2] at hg
       exact (act_mem ha).2.2 y hy hg
      have hqx : q = x := Option.some.inj (hq.symm.trans hbest)
      subst hqx
      refine Ev.step (fun k => by rw [skifflaw7_ChooseStays.l0, if_neg (by omega)]) ?_
      simp only [Num_eq, Option.bind_some, beq_self_eq_true, Bool.and_self, if_true]
      refine Ev.bind held7 ?_
      simp only [heldF_size]
      exact Ev.now _
    ·obtain ⟨s, g, hT, hg⟩ : ∃ s g, skiffref1_Torn.f f (A : Int) t m = some (s, g) ∧ g ≠ 0 := by
      unfold skiffref1_Torn.f
      rw [if_pos (by omega), if_pos (by omega), if_pos (by omega), if_pos (by rw [Int.tmod_eq_emod_of_nonneg (by omega)]; omega), if_neg (by omega)]
      exact ⟨_, _, rfl, by decide⟩
     refine Ev.step (f := fun k => skifflaw7_ChooseStays.j1 k (1 - x.f1.f1) 0 s true x.f0 x.f1.f0 x.f1.f1 x.f1.f2 x.f1.f3) (fun k => ?_) ?_
     ·have hgb : (g != 0) = true := bne_iff_ne.mpr hg
      rw [skifflaw7_ChooseStays.j0, if_neg (by decide), hbase, Option.bind_some, hu, hm, hwA, hT, Option.bind_some, if_pos rfl]
      show skifflaw7_ChooseStays.j1 k (1 - x.f1.f1) 0 s (g != 0) _ _ _ _ _ = _
      rw [hgb]
     ·exact Ev.one fun k => by rw [skifflaw7_ChooseStays.j1, if_pos rfl]; rfl
  ·have e1 : actV f = (0, 0, 0, 0, 0, 700) := by unfold actV; rw [if_neg hs]
   simp only [e1, show ¬ ((700 : Int) = 0) by decide, if_false]
   exact Ev.one fun k => by rw [skifflaw7_ChooseStays.j0, if_pos rfl]; rfl
 exact h.rounds
end Go.Proofs.Ytjadcjkjpkkmkaa.Pure

