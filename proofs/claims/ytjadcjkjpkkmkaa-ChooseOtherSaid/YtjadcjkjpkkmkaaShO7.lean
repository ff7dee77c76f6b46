import Derived.Test.YtjadcjkjpkkmkaaShO6
-- Laid together from this session's own texts by its program wip/tools/shake.py.
/- Plain facts: what the program's entry.Get and the reference's GetEntry answer for every string: the same; no memory in sight. -/
set_option linter.unnecessarySimpa false
set_option linter.unusedSimpArgs false
set_option linter.unusedVariables false
namespace Go.Proofs.Ytjadcjkjpkkmkaa.M
open Go.RowKit Go.Proofs.YtjadcjkjpkkmkaaW.PrintWords Go.Proofs.YtjadcjkjpkkmkaaW.PrintLast Go.Proofs.YtjadcjkjpkkmkaaW.PrintMore Go.Proofs.Ytjadcjkjpkkmkaa.Hand Go.Proofs.Ytjadcjkjpkkmkaa.PAll
theorem wraps_i64 (n : Int) (h₀ : 0 ≤ n) (h₁ : n < 2 ^ 62) : IntKind.i64.wrap n = n := by rw [IntKind.wrap_i64]; omega
theorem or_step (x b : Int) (h0 : 0 ≤ x) (h1 : x < 1099511627776) (h2 : 0 ≤ b) (h3 : b < 256) : Go.bits .or .i64 (wrap64 (x * 256)) (wrap64 b) = x * 256 + b := by
 rw [show wrap64 (x * 256) = x * 256 by unfold wrap64; omega, show wrap64 b = b by unfold wrap64; omega]
 exact bits_join .i64 62 (by decide) wraps_i64 8 _ _ (by omega) (by omega) (by omega) h2 (by omega) (by omega)
theorem num_step (k : Nat) (s : ByteArray) (x : Int) (i : Nat) (hi : i < s.size) (hs : s.size < 1000) (h0 : 0 ≤ x) (h1 : x < 1099511627776) : PSc.entry_Num.l0 (k + 1) s x (i : Int) = PSc.entry_Num.l0 k s (x * 256 + bt s (i : Int)) ((i : Int) - 1) := by
 rw [PSc.entry_Num.l0, if_pos (by omega), if_pos (by omega), if_pos (by omega), or_step x _ h0 h1 (bt_u8 _ _).1 (bt_u8 _ _).2, show wrap64 ((i : Int) - 1) = (i : Int) - 1 by unfold wrap64; omega]
theorem num_end (k : Nat) (s : ByteArray) (x : Int) : PSc.entry_Num.l0 (k + 1) s x (-1) = some x := by rw [PSc.entry_Num.l0, if_neg (by omega)]
theorem of_step (k : Nat) (s : ByteArray) (x : Int) (i : Nat) (hi : i < s.size) (hs : s.size < 1000) (h0 : 0 ≤ x) (h1 : x < 1099511627776) : skiffref1_Of.l0 (k + 1) s x (i : Int) = skiffref1_Of.l0 k s (x * 256 + bt s (i : Int)) ((i : Int) - 1) := by
 rw [skiffref1_Of.l0, if_pos (by omega), if_pos (by omega), if_pos (by omega), or_step x _ h0 h1 (bt_u8 _ _).1 (bt_u8 _ _).2, show wrap64 ((i : Int) - 1) = (i : Int) - 1 by unfold wrap64; omega]
theorem of_end (k : Nat) (s : ByteArray) (x : Int) : skiffref1_Of.l0 (k + 1) s x (-1) = some x := by rw [skiffref1_Of.l0, if_neg (by omega)]
def n2 (s : ByteArray) (i : Nat) : Int := bt s i + 256 * bt s ((i + 1 : Nat) : Int)
def n4 (s : ByteArray) (i : Nat) : Int := bt s i + 256 * bt s ((i + 1 : Nat) : Int) + 65536 * bt s ((i + 2 : Nat) : Int) + 16777216 * bt s ((i + 3 : Nat) : Int)
theorem num4_eq (s : ByteArray) (h : s.size = 4) : PSc.entry_Num.f 6 s = some (n4 s 0) := by
 have b0 := bt_u8 s 0; have b1 := bt_u8 s 1; have b2 := bt_u8 s 2; have b3 := bt_u8 s 3
 unfold PSc.entry_Num.f
 rw [h]
 rw [show wrap64 (((4 : Nat) : Int) - 1) = ((3 : Nat) : Int) by unfold wrap64; omega]
 rw [num_step 5 s 0 3 (by omega) (by omega) (by omega) (by omega)]
 show PSc.entry_Num.l0 5 s (0 * 256 + bt s 3) ((2 : Nat) : Int) = _
 rw [num_step 4 s _ 2 (by omega) (by omega) (by omega) (by omega)]
 show PSc.entry_Num.l0 4 s ((0 * 256 + bt s 3) * 256 + bt s 2) ((1 : Nat) : Int) = _
 rw [num_step 3 s _ 1 (by omega) (by omega) (by omega) (by omega)]
 show PSc.entry_Num.l0 3 s (((0 * 256 + bt s 3) * 256 + bt s 2) * 256 + bt s 1) ((0 : Nat) : Int) = _
 rw [num_step 2 s _ 0 (by omega) (by omega) (by omega) (by omega)]
 show PSc.entry_Num.l0 2 s ((((0 * 256 + bt s 3) * 256 + bt s 2) * 256 + bt s 1) * 256 + bt s 0) (-1) = _
 rw [num_end]
 congr 1
 show _ = bt s 0 + 256 * bt s 1 + 65536 * bt s 2 + 16777216 * bt s 3
 omega
theorem num2_eq (s : ByteArray) (h : s.size = 2) : PSc.entry_Num.f 6 s = some (n2 s 0) := by
 have b0 := bt_u8 s 0; have b1 := bt_u8 s 1
 unfold PSc.entry_Num.f
 rw [h]
 rw [show wrap64 (((2 : Nat) : Int) - 1) = ((1 : Nat) : Int) by unfold wrap64; omega]
 rw [num_step 5 s _ 1 (by omega) (by omega) (by omega) (by omega)]
 show PSc.entry_Num.l0 5 s (0 * 256 + bt s 1) ((0 : Nat) : Int) = _
 rw [num_step 4 s _ 0 (by omega) (by omega) (by omega) (by omega)]
 show PSc.entry_Num.l0 4 s ((0 * 256 + bt s 1) * 256 + bt s 0) (-1) = _
 rw [num_end]
 congr 1
 show _ = bt s 0 + 256 * bt s 1
 omega
theorem of4_eq (s : ByteArray) (h : s.size = 4) : skiffref1_Of.f 6 s = some (n4 s 0) := by
 have b0 := bt_u8 s 0; have b1 := bt_u8 s 1; have b2 := bt_u8 s 2; have b3 := bt_u8 s 3
 unfold skiffref1_Of.f
 rw [h]
 rw [show wrap64 (((4 : Nat) : Int) - 1) = ((3 : Nat) : Int) by unfold wrap64; omega]
 rw [of_step 5 s 0 3 (by omega) (by omega) (by omega) (by omega)]
 show skiffref1_Of.l0 5 s (0 * 256 + bt s 3) ((2 : Nat) : Int) = _
 rw [of_step 4 s _ 2 (by omega) (by omega) (by omega) (by omega)]
 show skiffref1_Of.l0 4 s ((0 * 256 + bt s 3) * 256 + bt s 2) ((1 : Nat) : Int) = _
 rw [of_step 3 s _ 1 (by omega) (by omega) (by omega) (by omega)]
 show skiffref1_Of.l0 3 s (((0 * 256 + bt s 3) * 256 + bt s 2) * 256 + bt s 1) ((0 : Nat) : Int) = _
 rw [of_step 2 s _ 0 (by omega) (by omega) (by omega) (by omega)]
 show skiffref1_Of.l0 2 s ((((0 * 256 + bt s 3) * 256 + bt s 2) * 256 + bt s 1) * 256 + bt s 0) (-1) = _
 rw [of_end]
 congr 1
 show _ = bt s 0 + 256 * bt s 1 + 65536 * bt s 2 + 16777216 * bt s 3
 omega
theorem of2_eq (s : ByteArray) (h : s.size = 2) : skiffref1_Of.f 6 s = some (n2 s 0) := by
 have b0 := bt_u8 s 0; have b1 := bt_u8 s 1
 unfold skiffref1_Of.f
 rw [h]
 rw [show wrap64 (((2 : Nat) : Int) - 1) = ((1 : Nat) : Int) by unfold wrap64; omega]
 rw [of_step 5 s _ 1 (by omega) (by omega) (by omega) (by omega)]
 show skiffref1_Of.l0 5 s (0 * 256 + bt s 1) ((0 : Nat) : Int) = _
 rw [of_step 4 s _ 0 (by omega) (by omega) (by omega) (by omega)]
 show skiffref1_Of.l0 4 s ((0 * 256 + bt s 1) * 256 + bt s 0) (-1) = _
 rw [of_end]
 congr 1
 show _ = bt s 0 + 256 * bt s 1
 omega
theorem n4_extract (s : ByteArray) (i : Nat) (h : i + 4 ≤ s.size) : n4 (s.extract i (i + 4)) 0 = n4 s i := by
 unfold n4
 simp only [Nat.zero_add]
 rw [bt_extract s i (i + 4) 0 (by omega), bt_extract s i (i + 4) 1 (by omega), bt_extract s i (i + 4) 2 (by omega), bt_extract s i (i + 4) 3 (by omega), Nat.add_zero]
theorem n2_extract (s : ByteArray) (i : Nat) (h : i + 2 ≤ s.size) : n2 (s.extract i (i + 2)) 0 = n2 s i := by
 unfold n2
 simp only [Nat.zero_add]
 rw [bt_extract s i (i + 2) 0 (by omega), bt_extract s i (i + 2) 1 (by omega), Nat.add_zero]
/-- What stands in a place: the complements are right, and the record may be. -/
def getOk (s : ByteArray) : Prop := s.size = 24 ∧ (∀ i, i < 12 → bt s ((12 + i : Nat) : Int) = 255 - bt s ((i : Nat) : Int)) ∧ recMay (n4 s 0) (n2 s 4) (n2 s 6) (n4 s 8) = true
instance (s : ByteArray) : Decidable (getOk s) := by unfold getOk; exact inferInstance
def getV (s : ByteArray) : Int × Int × Int × Int × Int := if getOk s then (n4 s 0, n2 s 4, n2 s 6, n4 s 8, 0) else (0, 0, 0, 0, 400)
theorem complB_eq (b : Int) (h0 : 0 ≤ b) (h1 : b < 256) : complB b = 255 - b := by
 obtain ⟨n, rfl⟩ := Int.eq_ofNat_of_zero_le h0
 unfold complB
 rw [bits_xor_u8]
 have e : B (IntKind.u8.max) = BitVec.allOnes 8 := by decide
 rw [e, BitVec.allOnes_xor, BitVec.toNat_not]
 have e2 : (B (n : Int)).toNat = n := by simp [B]; omega
 rw [e2]; omega
theorem bytesOf_getD (s : ByteArray) (i : Nat) (h : i < s.size) : (bytesOf s).getD i 0 = bt s (i : Int) := by
 have := rd_bytesOf s (i : Int)
 rw [← this]
 simp [rd]
theorem compl_bt (s : ByteArray) (i : Nat) (h : i < s.size) : bt (strOfNums ((bytesOf s).map complB)) i = 255 - bt s (i : Int) := by
 have b := bt_u8 s (i : Int)
 have hl : i < ((bytesOf s).map complB).length := by rw [List.length_map, bytesOf_length]; exact h
 have e : ((bytesOf s).map complB).getD i 0 = 255 - bt s (i : Int) := by
  have := bytesOf_getD s i h
  have hl2 : i < (bytesOf s).length := by rw [bytesOf_length]; exact h
  rw [List.getD_eq_getElem?_getD, List.getElem?_map, List.getElem?_eq_getElem hl2, Option.map_some, Option.getD_some]
  rw [List.getD_eq_getElem?_getD, List.getElem?_eq_getElem hl2, Option.getD_some] at this
  rw [this, complB_eq _ b.1 b.2]
 rw [bt_strOfNums _ _ hl (by rw [e]; omega) (by rw [e]; omega), e]
theorem compl_iff (s : ByteArray) (h : s.size = 24) : (strOfNums ((bytesOf (s.extract 0 12)).map complB) = s.extract 12 s.size) ↔ ∀ i, i < 12 → bt s ((12 + i : Nat) : Int) = 255 - bt s ((i : Nat) : Int) := by
 have z1 : (s.extract 0 12).size = 12 := by rw [ByteArray.size_extract]; omega
 have z2 : (s.extract 12 s.size).size = 12 := by rw [ByteArray.size_extract]; omega
 constructor
 ·intro e i hi
  have e1 := compl_bt (s.extract 0 12) i (by omega)
  rw [e, bt_extract s 12 s.size i (by omega), bt_extract s 0 12 i (by omega), Nat.zero_add] at e1
  exact e1
 ·intro e
  apply bt_ext
  ·rw [strOfNums_size', List.length_map, bytesOf_length, z1, z2]
  ·intro i hi
   rw [strOfNums_size', List.length_map, bytesOf_length, z1] at hi
   rw [compl_bt _ _ (by omega), bt_extract s 12 s.size i (by omega), bt_extract s 0 12 i (by omega), Nat.zero_add, e i hi]
theorem in_eq (a b c : Int) : PSc.entry_in.f a b c = some (decide (b ≤ a ∧ a ≤ c)) := by
 unfold PSc.entry_in.f
 by_cases h1 : a ≥ b
 ·simp [h1, show b ≤ a from h1]
 ·simp [h1, show ¬ b ≤ a from h1]
theorem May_eq (q sl sz sm : Int) : PSc.entry_May.f q sl sz sm = some (recMay q sl sz sm) := by
 unfold PSc.entry_May.f PSc.entry_Slot.f PSc.entry_Size.f recMay
 simp only [in_eq, Option.bind_some]
 by_cases h1 : 1 ≤ q ∧ q ≤ 1048576
 ·by_cases h2 : 0 ≤ sl ∧ sl ≤ 1
  ·by_cases h3 : 1 ≤ sz ∧ sz ≤ 288
   ·simp [h1, h2, h3]
   ·rw [if_pos (by simpa using h1), if_pos (by simpa using h2), if_neg (by simpa using h3)]; congr 1; symm; rw [decide_eq_false_iff_not]; omega
  ·rw [if_pos (by simpa using h1), if_neg (by simpa using h2)]; congr 1; symm; rw [decide_eq_false_iff_not]; omega
 ·rw [if_neg (by simpa using h1)]; congr 1; symm; rw [decide_eq_false_iff_not]; omega
theorem Get_at (s : ByteArray) : PSc.entry_Get.f 7 s = some (getV s) := by
 unfold PSc.entry_Get.f
 by_cases h : s.size = 24
 ·rw [if_pos (by omega), if_pos (by omega), if_pos (by omega)]
  have z1 : (s.extract 0 12).size = 12 := by rw [ByteArray.size_extract]; omega
  have e0 : entry_complement.f (s.extract 0 12) = some (strOfNums ((bytesOf (s.extract 0 12)).map complB)) := by unfold entry_complement.f; rw [if_pos (by omega)]
  rw [e0, Option.bind_some, PSc.entry_Get.j0]
  by_cases hc : strOfNums ((bytesOf (s.extract 0 12)).map complB) = s.extract 12 s.size
  ·rw [hc, bne_self_eq_false, if_neg (by decide), if_pos (by omega), if_pos (by omega), num4_eq _ (by rw [ByteArray.size_extract]; omega), Option.bind_some, if_pos (by omega), if_pos (by omega), num2_eq _ (by rw [ByteArray.size_extract]; omega), Option.bind_some,
    if_pos (by omega), if_pos (by omega), num2_eq _ (by rw [ByteArray.size_extract]; omega), Option.bind_some, if_pos (by omega), if_pos (by omega), num4_eq _ (by rw [ByteArray.size_extract]; omega), Option.bind_some, May_eq, Option.bind_some]
   rw [n4_extract s 0 (by omega), n2_extract s 4 (by omega), n2_extract s 6 (by omega), n4_extract s 8 (by omega)]
   unfold getV
   by_cases hm : recMay (n4 s 0) (n2 s 4) (n2 s 6) (n4 s 8) = true
   ·rw [if_pos hm, if_pos ⟨h, (compl_iff s h).1 hc, hm⟩]
   ·rw [if_neg hm, if_neg (fun x => hm x.2.2)]
  ·have hb : (ByteArray.toList (strOfNums ((bytesOf (s.extract 0 12)).map complB)) != ByteArray.toList (s.extract 12 s.size)) = true := by
    rw [bne_iff_ne]; intro x; exact hc (toList_inj.1 x)
   rw [hb, if_pos rfl]
   unfold getV
   rw [if_neg (fun x => hc ((compl_iff s h).2 x.2.1))]
 ·rw [if_neg (by omega), PSc.entry_Get.j0, if_pos rfl]
  unfold getV
  rw [if_neg (fun x => h x.1)]
theorem Get_ev (s : ByteArray) : Ev (fun k => PSc.entry_Get.f k s) (getV s) := Ev.of (fun k => PSc.entry_Get.mono s k) (Get_at s)
theorem lb_n4 (s : ByteArray) (i : Nat) : lb (n4 s i) 0 = bt s (i : Int) ∧ lb (n4 s i) 1 = bt s ((i + 1 : Nat) : Int) ∧ lb (n4 s i) 2 = bt s ((i + 2 : Nat) : Int) ∧ lb (n4 s i) 3 = bt s ((i + 3 : Nat) : Int) := by
 have b0 := bt_u8 s (i : Int); have b1 := bt_u8 s ((i + 1 : Nat) : Int); have b2 := bt_u8 s ((i + 2 : Nat) : Int); have b3 := bt_u8 s ((i + 3 : Nat) : Int)
 unfold lb n4
 simp only [Nat.mul_zero, Nat.mul_one, show 8 * 2 = 16 from rfl, show 8 * 3 = 24 from rfl, show (2 : Int) ^ 0 = 1 from rfl, show (2 : Int) ^ 8 = 256 from rfl, show (2 : Int) ^ 16 = 65536 from rfl, show (2 : Int) ^ 24 = 16777216 from rfl]
 omega
theorem lb_n2 (s : ByteArray) (i : Nat) : lb (n2 s i) 0 = bt s (i : Int) ∧ lb (n2 s i) 1 = bt s ((i + 1 : Nat) : Int) := by
 have b0 := bt_u8 s (i : Int); have b1 := bt_u8 s ((i + 1 : Nat) : Int)
 unfold lb n2
 simp only [Nat.mul_zero, Nat.mul_one, show (2 : Int) ^ 0 = 1 from rfl, show (2 : Int) ^ 8 = 256 from rfl]
 omega
theorem ent_bt (q sl sz sm : Int) (i : Nat) (h : i < 12) : bt (ent q sl sz sm) ((i : Nat) : Int) = (entL q sl sz sm).getD i 0 ∧ bt (ent q sl sz sm) ((12 + i : Nat) : Int) = 255 - (entL q sl sz sm).getD i 0 := by
 have r : ∀ j, j < 12 → 0 ≤ (entL q sl sz sm).getD j 0 ∧ (entL q sl sz sm).getD j 0 < 256 := by
  intro j hj
  match j, hj with
  | 0, _ => exact lb_range _ _
  | 1, _ => exact lb_range _ _
  | 2, _ => exact lb_range _ _
  | 3, _ => exact lb_range _ _
  | 4, _ => exact lb_range _ _
  | 5, _ => exact ⟨Int.le_refl 0, (by decide : (0 : Int) < 256)⟩
  | 6, _ => exact lb_range _ _
  | 7, _ => exact lb_range _ _
  | 8, _ => exact lb_range _ _
  | 9, _ => exact lb_range _ _
  | 10, _ => exact lb_range _ _
  | 11, _ => exact lb_range _ _
 have hl : (entL q sl sz sm).length = 12 := rfl
 have e1 : (entL q sl sz sm ++ (entL q sl sz sm).map fun x => (255 - x) % 256).getD i 0 = (entL q sl sz sm).getD i 0 := by
  rw [List.getD_eq_getElem?_getD, List.getElem?_append_left (by omega), ← List.getD_eq_getElem?_getD]
 have e2 : (entL q sl sz sm ++ (entL q sl sz sm).map fun x => (255 - x) % 256).getD (12 + i) 0 = 255 - (entL q sl sz sm).getD i 0 := by
  have := r i h
  rw [List.getD_eq_getElem?_getD, List.getElem?_append_right (by omega), hl, show 12 + i - 12 = i by omega, List.getElem?_map]
  rw [List.getD_eq_getElem?_getD] at this ⊢
  rw [List.getElem?_eq_getElem (by omega)] at this ⊢
  simp only [Option.map_some, Option.getD_some] at this ⊢
  omega
 have := r i h
 unfold ent
 constructor
 ·rw [bt_strOfNums _ _ (by simp [hl]; omega) (by rw [e1]; omega) (by rw [e1]; omega), e1]
 ·rw [bt_strOfNums _ _ (by simp [hl]; omega) (by rw [e2]; omega) (by rw [e2]; omega), e2]
/-- The reference's way to say it: put again, it is the same. -/
theorem getOk_iff (s : ByteArray) (h : s.size = 24) : getOk s ↔ recMay (n4 s 0) (bt s ((4 : Nat) : Int)) (n2 s 6) (n4 s 8) = true ∧ ent (n4 s 0) (bt s ((4 : Nat) : Int)) (n2 s 6) (n4 s 8) = s := by
 have q0 := lb_n4 s 0; have q6 := lb_n2 s 6; have q8 := lb_n4 s 8
 have b4 := bt_u8 s ((4 : Nat) : Int); have b5 := bt_u8 s ((5 : Nat) : Int)
 have l4 : lb (bt s ((4 : Nat) : Int)) 0 = bt s ((4 : Nat) : Int) := by unfold lb; simp only [Nat.mul_zero, show (2 : Int) ^ 0 = 1 from rfl]; omega
 have e12 : entL (n4 s 0) (bt s ((4 : Nat) : Int)) (n2 s 6) (n4 s 8) = [bt s ((0 : Nat) : Int), bt s ((1 : Nat) : Int), bt s ((2 : Nat) : Int), bt s ((3 : Nat) : Int), bt s ((4 : Nat) : Int), 0, bt s ((6 : Nat) : Int), bt s ((7 : Nat) : Int), bt s ((8 : Nat) : Int), bt s ((9 : Nat) : Int), bt s ((10 : Nat) : Int), bt s ((11 : Nat) : Int)] := by
  unfold entL
  rw [q0.1, q0.2.1, q0.2.2.1, q0.2.2.2, q6.1, q6.2, q8.1, q8.2.1, q8.2.2.1, q8.2.2.2, l4]
 constructor
 ·rintro ⟨_, hc, hm⟩
  have z5 : bt s ((5 : Nat) : Int) = 0 := by
   unfold recMay at hm
   have := of_decide_eq_true hm
   have e : n2 s 4 = bt s ((4 : Nat) : Int) + 256 * bt s ((5 : Nat) : Int) := rfl
   omega
  have e2 : n2 s 4 = bt s ((4 : Nat) : Int) := by
   have e : n2 s 4 = bt s ((4 : Nat) : Int) + 256 * bt s ((5 : Nat) : Int) := rfl
   omega
  refine ⟨by rw [← e2]; exact hm, ?_⟩
  have low : ∀ j, j < 12 → (entL (n4 s 0) (bt s ((4 : Nat) : Int)) (n2 s 6) (n4 s 8)).getD j 0 = bt s ((j : Nat) : Int) := by
   intro j hj
   rw [e12]
   match j, hj with
   | 0, _ => rfl
   | 1, _ => rfl
   | 2, _ => rfl
   | 3, _ => rfl
   | 4, _ => rfl
   | 5, _ => exact z5.symm
   | 6, _ => rfl
   | 7, _ => rfl
   | 8, _ => rfl
   | 9, _ => rfl
   | 10, _ => rfl
   | 11, _ => rfl
  apply bt_ext
  ·rw [ent_size, h]
  ·intro i hi
   rw [ent_size] at hi
   by_cases c : i < 12
   ·rw [(ent_bt _ _ _ _ i c).1, low i c]
   ·obtain ⟨j, rfl⟩ : ∃ j, i = 12 + j := ⟨i - 12, by omega⟩
    rw [(ent_bt _ _ _ _ j (by omega)).2, low j (by omega), hc j (by omega)]
 ·rintro ⟨hm, he⟩
  have low : ∀ j, j < 12 → bt s ((j : Nat) : Int) = (entL (n4 s 0) (bt s ((4 : Nat) : Int)) (n2 s 6) (n4 s 8)).getD j 0 := by
   intro j hj
   have := (ent_bt (n4 s 0) (bt s ((4 : Nat) : Int)) (n2 s 6) (n4 s 8) j hj).1
   rw [he] at this
   exact this
  have z5 : bt s ((5 : Nat) : Int) = 0 := (low 5 (by omega)).trans (by rw [e12]; rfl)
  have e2 : n2 s 4 = bt s ((4 : Nat) : Int) := by
   have e : n2 s 4 = bt s ((4 : Nat) : Int) + 256 * bt s ((5 : Nat) : Int) := rfl
   omega
  refine ⟨h, fun i hi => ?_, by rw [e2]; exact hm⟩
  have := (ent_bt (n4 s 0) (bt s ((4 : Nat) : Int)) (n2 s 6) (n4 s 8) i hi).2
  rw [he] at this
  rw [this, low i hi]
theorem GetEntry_at (s : ByteArray) : skiffref1_GetEntry.f 6 s = some (getV s) := by
 unfold skiffref1_GetEntry.f
 by_cases h : s.size = 24
 ·rw [if_pos (by omega), if_pos (by omega), if_pos (by omega), of4_eq _ (by rw [ByteArray.size_extract]; omega), Option.bind_some, if_pos (by omega), if_pos (by omega), if_pos (by omega), of2_eq _ (by rw [ByteArray.size_extract]; omega), Option.bind_some,
   if_pos (by omega), if_pos (by omega), of4_eq _ (by rw [ByteArray.size_extract]; omega), Option.bind_some, PutEntry_at _ _ _ _ 6 rfl, Option.bind_some]
  rw [n4_extract s 0 (by omega), n2_extract s 6 (by omega), n4_extract s 8 (by omega)]
  have b4 := bt_u8 s ((4 : Nat) : Int)
  have w4 : wrap64 (bt s 4) = bt s ((4 : Nat) : Int) := by show wrap64 (bt s ((4 : Nat) : Int)) = _; unfold wrap64; omega
  rw [w4]
  unfold getV
  by_cases hm : recMay (n4 s 0) (bt s ((4 : Nat) : Int)) (n2 s 6) (n4 s 8) = true
  ·rw [if_pos hm, if_pos rfl]
   by_cases he : ent (n4 s 0) (bt s ((4 : Nat) : Int)) (n2 s 6) (n4 s 8) = s
   ·have ok := (getOk_iff s h).2 ⟨hm, he⟩
    have e2 : n2 s 4 = bt s ((4 : Nat) : Int) := by
     have e : n2 s 4 = bt s ((4 : Nat) : Int) + 256 * bt s ((5 : Nat) : Int) := rfl
     have hm2 := of_decide_eq_true ok.2.2
     have b5 := bt_u8 s ((5 : Nat) : Int)
     omega
    rw [if_pos (by rw [he]), if_pos ok, e2]
   ·rw [if_neg (fun x => he (toList_inj.1 x)), if_neg (fun x => he ((getOk_iff s h).1 x).2)]
  ·rw [if_neg hm, if_neg (by decide), if_neg (fun x => hm ((getOk_iff s h).1 x).1)]
 ·rw [if_neg (by omega)]
  unfold getV
  rw [if_neg (fun x => h x.1)]
theorem GetEntry_ev (s : ByteArray) : Ev (fun k => skiffref1_GetEntry.f k s) (getV s) := Ev.of (fun k => skiffref1_GetEntry.mono s k) (GetEntry_at s)
/-- A record that was put is found. -/
theorem getV_ent (q sl sz sm : Int) (h : recMay q sl sz sm = true) : getV (ent q sl sz sm) = (q, sl, sz, sm, 0) := by
 have hm := of_decide_eq_true h
 have lo : ∀ j, j < 12 → bt (ent q sl sz sm) ((j : Nat) : Int) = (entL q sl sz sm).getD j 0 := fun j hj => (ent_bt q sl sz sm j hj).1
 have e0 : n4 (ent q sl sz sm) 0 = q := by
  unfold n4
  rw [lo 0 (by omega), lo (0 + 1) (by omega), lo (0 + 2) (by omega), lo (0 + 3) (by omega)]
  show lb q 0 + 256 * lb q 1 + 65536 * lb q 2 + 16777216 * lb q 3 = q
  unfold lb
  simp only [Nat.mul_zero, Nat.mul_one, show 8 * 2 = 16 from rfl, show 8 * 3 = 24 from rfl, show (2 : Int) ^ 0 = 1 from rfl, show (2 : Int) ^ 8 = 256 from rfl, show (2 : Int) ^ 16 = 65536 from rfl, show (2 : Int) ^ 24 = 16777216 from rfl]
  omega
 have e8 : n4 (ent q sl sz sm) 8 = sm := by
  unfold n4
  rw [lo 8 (by omega), lo (8 + 1) (by omega), lo (8 + 2) (by omega), lo (8 + 3) (by omega)]
  show lb sm 0 + 256 * lb sm 1 + 65536 * lb sm 2 + 16777216 * lb sm 3 = sm
  unfold lb
  simp only [Nat.mul_zero, Nat.mul_one, show 8 * 2 = 16 from rfl, show 8 * 3 = 24 from rfl, show (2 : Int) ^ 0 = 1 from rfl, show (2 : Int) ^ 8 = 256 from rfl, show (2 : Int) ^ 16 = 65536 from rfl, show (2 : Int) ^ 24 = 16777216 from rfl]
  omega
 have e4 : n2 (ent q sl sz sm) 4 = sl := by
  unfold n2
  rw [lo 4 (by omega), lo (4 + 1) (by omega)]
  show lb sl 0 + 256 * 0 = sl
  unfold lb
  simp only [Nat.mul_zero, show (2 : Int) ^ 0 = 1 from rfl]
  omega
 have e6 : n2 (ent q sl sz sm) 6 = sz := by
  unfold n2
  rw [lo 6 (by omega), lo (6 + 1) (by omega)]
  show lb sz 0 + 256 * lb sz 1 = sz
  unfold lb
  simp only [Nat.mul_zero, Nat.mul_one, show (2 : Int) ^ 0 = 1 from rfl, show (2 : Int) ^ 8 = 256 from rfl]
  omega
 unfold getV
 have ok : getOk (ent q sl sz sm) := ⟨ent_size q sl sz sm, fun i hi => by rw [(ent_bt q sl sz sm i hi).2, lo i hi], by rw [e0, e4, e6, e8]; exact h⟩
 rw [if_pos ok, e0, e4, e6, e8]
end Go.Proofs.Ytjadcjkjpkkmkaa.M

/- Plain facts: what a step of flash makes of it, cut or whole, by the program and by the reference; no memory in sight. -/
set_option linter.unnecessarySimpa false
set_option linter.unusedSimpArgs false
set_option linter.unusedVariables false
namespace Go.Proofs.Ytjadcjkjpkkmkaa.M
open Go.RowKit Go.Proofs.YtjadcjkjpkkmkaaW.PrintWords Go.Proofs.YtjadcjkjpkkmkaaW.PrintLast Go.Proofs.YtjadcjkjpkkmkaaW.PrintMore Go.Proofs.Ytjadcjkjpkkmkaa.Hand Go.Proofs.Ytjadcjkjpkkmkaa.PAll
/-- As much of a step as is told. -/
def doF (f : ByteArray) (e : Bool) (a : Int) (t : ByteArray) (cut : Int) : ByteArray := if e = true then wornF f (a.toNat / 96) cut.toNat else tornF f a.toNat t (mn cut 32)
def cutOk (f : ByteArray) (e : Bool) (a : Int) (t : ByteArray) (cut : Int) : Prop := f.size = 768 ∧ opMay e a t = true ∧ 0 ≤ cut ∧ cut ≤ 96
instance (f : ByteArray) (e : Bool) (a : Int) (t : ByteArray) (cut : Int) : Decidable (cutOk f e a t cut) := by unfold cutOk; exact inferInstance
def cutV (f : ByteArray) (e : Bool) (a : Int) (t : ByteArray) (cut : Int) : ByteArray × Int := if cutOk f e a t cut then (doF f e a t cut, 0) else (⟨#[]⟩, 300)
theorem opMay_true {a : Int} {t : ByteArray} (h : opMay true a t = true) : 0 ≤ a ∧ a ≤ 672 ∧ a % 96 = 0 ∧ t.size = 0 := by
 unfold opMay at h; rw [if_pos rfl] at h; exact of_decide_eq_true h
theorem opMay_false {a : Int} {t : ByteArray} (h : opMay false a t = true) : 0 ≤ a ∧ a ≤ 764 ∧ a % 4 = 0 ∧ t.size = 4 := by
 unfold opMay at h; rw [if_neg (by decide)] at h; exact of_decide_eq_true h
theorem mn32 (cut : Int) (h0 : 0 ≤ cut) : 0 ≤ mn cut 32 ∧ mn cut 32 ≤ 32 := by unfold mn; split <;> omega
theorem ref_Torn_eq (f : ByteArray) (a : Int) (t : ByteArray) (m : Int) (hf : f.size = 768) (ha : 0 ≤ a ∧ a ≤ 764 ∧ a % 4 = 0 ∧ t.size = 4) (h0 : 0 ≤ m) (h1 : m ≤ 32) : skiffref1_Torn.f f a t m = some (tornF f a.toNat t m, 0) := by
 unfold skiffref1_Torn.f
 rw [if_pos (by omega), if_pos (by omega), if_pos (by omega), if_pos (by rw [Int.tmod_eq_emod_of_nonneg ha.1]; exact ha.2.2.1), if_pos (by omega), if_pos (by omega), if_pos (by omega), rtornF_eq f a.toNat t m (by omega) h0 h1]
theorem ref_Cut_no (f : ByteArray) (e : Bool) (a : Int) (t : ByteArray) (cut : Int) : Ev (fun k => skiffref1_Cut.j0 k f cut true e a t) (⟨#[]⟩, 300) :=
 Ev.one fun k => by simp only [skiffref1_Cut.j0, if_true]
theorem ref_Cut_ev (f : ByteArray) (e : Bool) (a : Int) (t : ByteArray) (cut : Int) : Ev (fun k => skiffref1_Cut.f k f e a t cut) (cutV f e a t cut) := by
 unfold skiffref1_Cut.f skiffref1_FlashMay.f
 simp only [Option.bind_some, ref_OpMay_eq e a t, upTo_eq]
 by_cases h1 : f.size = 768
 ·have e1 : ((f.size : Int) == 768) = true := by simp; omega
  simp only [e1, if_true]
  cases h2 : opMay e a t with
  | false =>
   simp only [Bool.false_eq_true, if_false]
   unfold cutV
   rw [if_neg (by unfold cutOk; rw [h2]; simp)]
   exact ref_Cut_no f e a t cut
  | true =>
   simp only [if_true]
   by_cases h4 : 0 ≤ cut ∧ cut ≤ 96
   ·have e4 : decide (0 ≤ cut ∧ cut ≤ 96) = true := by simpa using h4
    simp only [e4, Bool.not_true]
    unfold cutV
    rw [if_pos ⟨h1, h2, h4.1, h4.2⟩]
    cases e with
    | true =>
     obtain ⟨m0, m1, m2, m3⟩ := opMay_true h2
     have hw : wrap64 (Int.tdiv a 96) = a / 96 := by rw [Int.tdiv_eq_ediv_of_nonneg m0]; exact wrap_id (by omega)
     refine Ev.step (f := fun k => (skiffref1_Worn.f k f (a / 96) cut).bind fun bt345 => (some (bt345.1, bt345.2))) (fun k => by simp only [skiffref1_Cut.j0, Bool.false_eq_true, if_false, if_true, hw]) ?_
     refine Ev.bind (ref_Worn_ev f (a / 96) cut h1 (by omega) (by omega) h4.1 h4.2) (Ev.always fun k => ?_)
     unfold doF
     rw [if_pos rfl, show (a / 96).toNat = a.toNat / 96 by omega]
    | false =>
     have hm := opMay_false h2
     have hc := mn32 cut h4.1
     refine Ev.one fun k => ?_
     simp only [skiffref1_Cut.j0, Bool.false_eq_true, if_false]
     rw [ref_Torn_eq f a t (mn cut 32) h1 hm hc.1 hc.2]
     rfl
   ·have e4 : decide (0 ≤ cut ∧ cut ≤ 96) = false := decide_eq_false h4
    simp only [e4, Bool.not_false]
    unfold cutV
    rw [if_neg (by unfold cutOk; omega)]
    exact ref_Cut_no f e a t cut
 ·have e1 : ((f.size : Int) == 768) = false := by simp; omega
  simp only [e1, Bool.false_eq_true, if_false]
  unfold cutV
  rw [if_neg (by unfold cutOk; omega)]
  exact ref_Cut_no f e a t cut
theorem ref_Do_ev (f : ByteArray) (e : Bool) (a : Int) (t : ByteArray) : Ev (fun k => skiffref1_Do.f k f e a t) (cutV f e a t 96) := by
 unfold skiffref1_Do.f
 exact Ev.bind (ref_Cut_ev f e a t 96) (Ev.always fun k => rfl)
theorem Blank_ev : Ev (fun k => skiffref1_Blank.f k) (ff 768) := by
 unfold skiffref1_Blank.f
 exact Ev.bind (full_ev 768 (by omega) (by omega)) (Ev.always fun k => rfl)
/-- Which bytes a step reaches. -/
def width (e : Bool) : Nat := if e = true then 96 else 4
end Go.Proofs.Ytjadcjkjpkkmkaa.M

/- Plain facts: the records of a flash, by the program and by the reference: the same; the first free place; no memory in sight. -/
set_option linter.unnecessarySimpa false
set_option linter.unusedSimpArgs false
set_option linter.unusedVariables false
namespace Go.Proofs.Ytjadcjkjpkkmkaa.M
open Go.RowKit Go.Proofs.YtjadcjkjpkkmkaaW.PrintWords Go.Proofs.YtjadcjkjpkkmkaaW.PrintLast Go.Proofs.YtjadcjkjpkkmkaaW.PrintMore Go.Proofs.Ytjadcjkjpkkmkaa.Hand Go.Proofs.Ytjadcjkjpkkmkaa.PAll
/-- The bytes of place j. -/
def pl (f : ByteArray) (j : Nat) : ByteArray := f.extract (24 * j) (24 * j + 24)
/-- What is told of one place. -/
def told (j : Nat) (g : Int × Int × Int × Int × Int) : List S25 := if g.2.2.2.2 = 0 then [⟨24 * (j : Int), ⟨g.1, g.2.1, g.2.2.1, g.2.2.2.1⟩⟩] else []
def scanL (f : ByteArray) : Nat → List S25
 | 0 => []
 | n + 1 => scanL f n ++ told n (getV (pl f n))
def scanV (f : ByteArray) : List S25 × Int := if f.size = 768 then (scanL f 8, 0) else ([], 500)
theorem told_length (j : Nat) (g : Int × Int × Int × Int × Int) : (told j g).length ≤ 1 := by unfold told; split <;> simp
theorem scanL_length (f : ByteArray) (n : Nat) : (scanL f n).length ≤ n := by
 induction n with
 | zero => simp [scanL]
 | succ n ih => have := told_length n (getV (pl f n)); simp only [scanL, List.length_append]; omega
theorem at_eq (f : ByteArray) (j : Nat) (hf : f.size = 768) (hj : j < 8) (a : Int) (ha : a = 24 * (j : Int)) : PSc.journal_at.f f a = some (pl f j) := by
 subst ha
 unfold PSc.journal_at.f
 have w : wrap64 (24 * (j : Int) + 24) = 24 * (j : Int) + 24 := wrap_id (by omega)
 rw [w, if_pos (by omega), if_pos (by omega), if_pos (by omega)]
 congr 2 <;> omega
def toSc (x : S25) : PSc.S25 := ⟨x.f0, ⟨x.f1.f0, x.f1.f1, x.f1.f2, x.f1.f3⟩⟩
theorem scan_go (f : ByteArray) (hf : f.size = 768) (d : Nat) : ∀ (j : Nat), j + d = 8 → Ev (fun k => PSc.journal_Scan.l0 k f ((scanL f j).map toSc) (j : Int)) ((scanL f 8).map toSc, 0) := by
 induction d with
 | zero =>
  intro j hj
  obtain rfl : j = 8 := by omega
  exact Ev.one fun k => by rw [PSc.journal_Scan.l0, if_neg (by omega)]
 | succ d ih =>
  intro j hj
  have h1 := ih (j + 1) (by omega)
  have w : wrap64 ((j : Int) + 1) = ((j + 1 : Nat) : Int) := by rw [wrap_id (by omega)]; omega
  refine Ev.step (f := fun k => (PSc.entry_Get.f k (pl f j)).bind fun bt339 => (if bt339.2.2.2.2 = 0 then (if ((scanL f j).map toSc).length < 3518437208883 then (PSc.journal_Scan.l0 k f ((scanL f j).map toSc ++ [(⟨24 * (j : Int), (⟨bt339.1, bt339.2.1, bt339.2.2.1, bt339.2.2.2.1⟩ : PSc.S23)⟩ : PSc.S25)]) ((j + 1 : Nat) : Int)) else (none)) else (PSc.journal_Scan.l0 k f ((scanL f j).map toSc) ((j + 1 : Nat) : Int)))) (fun k => ?_) ?_
  ·rw [PSc.journal_Scan.l0, if_pos (by omega), at_eq f j hf (by omega) _ (by rw [wrap_id (by omega)]; omega), Option.bind_some, w, wrap_id (x := (j : Int) * 24) (by omega), Int.mul_comm (j : Int) 24]
  ·refine Ev.bind (Get_ev (pl f j)) ?_
   have hl := scanL_length f j
   unfold scanL told at h1
   rw [List.map_append] at h1
   by_cases c : (getV (pl f j)).2.2.2.2 = 0
   ·rw [if_pos c] at h1
    simp only [if_pos c, if_pos (show ((scanL f j).map toSc).length < 3518437208883 by rw [List.length_map]; omega)]
    exact h1
   ·rw [if_neg c, List.map_nil, List.append_nil] at h1
    simp only [if_neg c]
    exact h1
theorem Scan_ev (f : ByteArray) : Ev (fun k => PSc.journal_Scan.f k f) ((scanV f).1.map toSc, (scanV f).2) := by
 unfold PSc.journal_Scan.f scanV PSc.nor_May.f
 by_cases h : f.size = 768
 ·have e : ((f.size : Int) == 768) = true := by simp; omega
  simp only [Option.bind_some, e, if_true, if_pos h]
  exact scan_go f h 8 0 rfl
 ·have e : ((f.size : Int) == 768) = false := by simp; omega
  simp only [Option.bind_some, e, if_neg h]
  exact Ev.now _
theorem rscan_go (f : ByteArray) (hf : f.size = 768) (s : Nat) (hs : s < 2) (r : List S25 × Int) (hn : Ev (fun k => skiffref1_Scan.l0 k f (scanL f (4 * s + 4)) ((s + 1 : Nat) : Int)) r) (d : Nat) :
  ∀ (j : Nat), j + d = 4 * s + 4 → 4 * s ≤ j → Ev (fun k => skiffref1_Scan.l1 k f (scanL f j) (s : Int) (24 * (j : Int))) r := by
 have w1 : wrap64 ((s : Int) + 1) = ((s + 1 : Nat) : Int) := by rw [wrap_id (by omega)]; omega
 have w2 : wrap64 (((s + 1 : Nat) : Int) * 96) = 96 * (s : Int) + 96 := by rw [wrap_id (by omega)]; omega
 induction d with
 | zero =>
  intro j hj _
  obtain rfl : j = 4 * s + 4 := by omega
  refine Ev.step (fun k => ?_) hn
  rw [skiffref1_Scan.l1, w1, w2, if_neg (by rw [wrap_id (by omega)]; omega)]
 | succ d ih =>
  intro j hj h4
  have h1 := ih (j + 1) (by omega) (by omega)
  have w : wrap64 (24 * (j : Int) + 24) = 24 * ((j + 1 : Nat) : Int) := by rw [wrap_id (by omega)]; omega
  refine Ev.step (f := fun k => (skiffref1_GetEntry.f k (pl f j)).bind fun bt361 => (if bt361.2.2.2.2 = 0 then (if (scanL f j).length < 3518437208883 then (skiffref1_Scan.l1 k f (scanL f j ++ [(⟨24 * (j : Int), (⟨bt361.1, bt361.2.1, bt361.2.2.1, bt361.2.2.2.1⟩ : S23)⟩ : S25)]) (s : Int) (24 * ((j + 1 : Nat) : Int))) else (none)) else (skiffref1_Scan.l1 k f (scanL f j) (s : Int) (24 * ((j + 1 : Nat) : Int))))) (fun k => ?_) ?_
  ·rw [skiffref1_Scan.l1, w1, w2, w, if_pos (by omega), if_pos (by omega), if_pos (by omega), if_pos (by omega), show f.extract (24 * (j : Int)).toNat (24 * ((j + 1 : Nat) : Int)).toNat = pl f j by unfold pl; congr 1 <;> omega]
  ·refine Ev.bind (GetEntry_ev (pl f j)) ?_
   have hl := scanL_length f j
   unfold scanL told at h1
   by_cases c : (getV (pl f j)).2.2.2.2 = 0
   ·rw [if_pos c] at h1
    simp only [if_pos c, if_pos (show (scanL f j).length < 3518437208883 by omega)]
    exact h1
   ·rw [if_neg c, List.append_nil] at h1
    simp only [if_neg c]
    exact h1
theorem rscan_all (f : ByteArray) (hf : f.size = 768) : Ev (fun k => skiffref1_Scan.l0 k f [] 0) (scanL f 8, 0) := by
 have e2 : Ev (fun k => skiffref1_Scan.l0 k f (scanL f 8) ((2 : Nat) : Int)) (scanL f 8, 0) := Ev.one fun k => by rw [skiffref1_Scan.l0, if_neg (by omega)]
 have e1 : Ev (fun k => skiffref1_Scan.l0 k f (scanL f 4) ((1 : Nat) : Int)) (scanL f 8, 0) :=
  Ev.step (fun k => by rw [skiffref1_Scan.l0, if_pos (by omega), show wrap64 (((1 : Nat) : Int) * 96) = 24 * ((4 : Nat) : Int) by unfold wrap64; omega]) (rscan_go f hf 1 (by omega) _ e2 4 4 (by omega) (by omega))
 exact Ev.step (fun k => by rw [skiffref1_Scan.l0, if_pos (by omega), show wrap64 ((0 : Int) * 96) = 24 * ((0 : Nat) : Int) by unfold wrap64; omega]; rfl) (rscan_go f hf 0 (by omega) _ e1 4 0 (by omega) (by omega))
theorem ref_Scan_ev (f : ByteArray) : Ev (fun k => skiffref1_Scan.f k f) (scanV f) := by
 unfold skiffref1_Scan.f scanV skiffref1_FlashMay.f
 by_cases h : f.size = 768
 ·have e : ((f.size : Int) == 768) = true := by simp; omega
  simp only [Option.bind_some, e, if_true, if_pos h]
  exact rscan_all f h
 ·have e : ((f.size : Int) == 768) = false := by simp; omega
  simp only [Option.bind_some, e, if_neg h]
  exact Ev.now _
/-- The first place from j on, of n, that is blank. -/
def freeL (f : ByteArray) (j : Nat) : Nat → Int × Bool × Int
 | 0 => (0, false, 0)
 | n + 1 => if pl f j = ff 24 then (24 * (j : Int), true, 0) else freeL f (j + 1) n
def freeV (f : ByteArray) (s : Int) : Int × Bool × Int := if f.size = 768 ∧ 0 ≤ s ∧ s < 2 then freeL f (4 * s.toNat) 4 else (0, false, 500)
theorem rfree_go (f : ByteArray) (hf : f.size = 768) (s : Nat) (hs : s < 2) (n : Nat) : ∀ (j : Nat), j + n = 4 * s + 4 → Ev (fun k => skiffref1_FreePlace.l0 k f (s : Int) (24 * (j : Int))) (freeL f j n) := by
 have w1 : wrap64 ((s : Int) + 1) = ((s + 1 : Nat) : Int) := by rw [wrap_id (by omega)]; omega
 have w2 : wrap64 (((s + 1 : Nat) : Int) * 96) = 96 * (s : Int) + 96 := by rw [wrap_id (by omega)]; omega
 induction n with
 | zero =>
  intro j hj
  obtain rfl : j = 4 * s + 4 := by omega
  exact Ev.one fun k => by rw [skiffref1_FreePlace.l0, w1, w2, if_neg (by rw [wrap_id (by omega)]; omega)]; rfl
 | succ n ih =>
  intro j hj
  have h1 := ih (j + 1) (by omega)
  have w : wrap64 (24 * (j : Int) + 24) = 24 * ((j + 1 : Nat) : Int) := by rw [wrap_id (by omega)]; omega
  refine Ev.step (f := fun k => (skiffref1_full.f k 24).bind fun t405 => (if (pl f j).toList = t405.toList then (some (24 * (j : Int), true, 0)) else (skiffref1_FreePlace.l0 k f (s : Int) (24 * ((j + 1 : Nat) : Int))))) (fun k => ?_) ?_
  ·rw [skiffref1_FreePlace.l0, w1, w2, w, if_pos (by omega), if_pos (by omega), if_pos (by omega), if_pos (by omega), show f.extract (24 * (j : Int)).toNat (24 * ((j + 1 : Nat) : Int)).toNat = pl f j by unfold pl; congr 1 <;> omega]
  ·refine Ev.bind (full_ev 24 (by omega) (by omega)) ?_
   unfold freeL
   by_cases c : pl f j = ff 24
   ·have e : (pl f j).toList = (ff (24 : Int).toNat).toList := by rw [c]; rfl
    simp only [if_pos c, if_pos e]; exact Ev.now _
   ·have e : ¬ (pl f j).toList = (ff (24 : Int).toNat).toList := fun x => c (toList_inj.1 x)
    simp only [if_neg c, if_neg e]; exact h1
theorem ref_Free_ev (f : ByteArray) (s : Int) : Ev (fun k => skiffref1_FreePlace.f k f s) (freeV f s) := by
 have no : Ev (fun k => skiffref1_FreePlace.j0 k f s true) (0, false, 500) := Ev.one fun k => by rw [skiffref1_FreePlace.j0, if_pos rfl]
 unfold skiffref1_FreePlace.f freeV skiffref1_FlashMay.f
 by_cases h : f.size = 768
 ·have e : ((f.size : Int) == 768) = true := by simp; omega
  simp only [Option.bind_some, e, if_true, upTo_eq]
  by_cases h1 : 0 ≤ s ∧ s ≤ 1
  ·rw [if_pos (by omega), decide_eq_true h1]
   obtain ⟨n, rfl⟩ := Int.eq_ofNat_of_zero_le h1.1
   exact Ev.step (fun k => by rw [skiffref1_FreePlace.j0, if_neg (by decide), wrap_id (x := (n : Int) * 96) (by omega), show (n : Int) * 96 = 24 * ((4 * n : Nat) : Int) by omega]) (rfree_go f h n (by omega) 4 (4 * n) rfl)
  ·rw [if_neg (by omega), decide_eq_false h1]
   exact no
 ·have e : ((f.size : Int) == 768) = false := by simp; omega
  simp only [Option.bind_some, e]
  rw [if_neg (by omega)]
  exact no
end Go.Proofs.Ytjadcjkjpkkmkaa.M

/- Plain facts: a text in words, by the program and by the reference: the same; no memory in sight. -/
set_option linter.unnecessarySimpa false
set_option linter.unusedSimpArgs false
set_option linter.unusedVariables false
namespace Go.Proofs.Ytjadcjkjpkkmkaa.M
open Go.RowKit Go.Proofs.YtjadcjkjpkkmkaaW.PrintWords Go.Proofs.YtjadcjkjpkkmkaaW.PrintLast Go.Proofs.YtjadcjkjpkkmkaaW.PrintMore Go.Proofs.Ytjadcjkjpkkmkaa.Hand Go.Proofs.Ytjadcjkjpkkmkaa.PAll
/-- Word i of a text: its four bytes from 4 i on, the last ones 255. -/
def wordAt (t : ByteArray) (i : Nat) : ByteArray := t.extract (4 * i) (4 * i + 4) ++ ff (4 - (t.size - 4 * i))
def many (t : ByteArray) : Nat := (t.size + 3) / 4
/-- A text in words. -/
def wl (a : Int) (t : ByteArray) (n : Nat) : List S87 := (List.range n).map fun (i : Nat) => (⟨false, a + 4 * (i : Int), wordAt t i⟩ : S87)
theorem wl_succ (a : Int) (t : ByteArray) (n : Nat) : wl a t (n + 1) = wl a t n ++ [⟨false, a + 4 * (n : Int), wordAt t n⟩] := by
 unfold wl; rw [List.range_succ, List.map_append]; rfl
theorem wl_length (a : Int) (t : ByteArray) (n : Nat) : (wl a t n).length = n := by simp [wl]
theorem wl_rd (a : Int) (t : ByteArray) (n i : Nat) (h : i < n) : rd_T87 (wl a t n) i = ⟨false, a + 4 * (i : Int), wordAt t i⟩ := by
 unfold rd_T87 wl
 simp [List.getD_eq_getElem?_getD, h]
theorem wordAt_size (t : ByteArray) (i : Nat) (h : 4 * i < t.size) : (wordAt t i).size = 4 := by
 unfold wordAt; rw [ByteArray.size_append, ByteArray.size_extract, ff_size]; omega
theorem wordAt_bt (t : ByteArray) (i j : Nat) (h : 4 * i < t.size) (hj : j < 4) : bt (wordAt t i) j = if 4 * i + j < t.size then bt t ((4 * i + j : Nat) : Int) else 255 := by
 have s1 : (t.extract (4 * i) (4 * i + 4)).size = min (4 * i + 4) t.size - 4 * i := by rw [ByteArray.size_extract]
 unfold wordAt
 rw [bt_append, s1]
 by_cases c : 4 * i + j < t.size
 ·rw [if_pos (by omega), if_pos c, bt_extract _ _ _ _ (by omega)]
 ·rw [if_neg (by omega), if_neg c, ff_bt _ _ (by omega)]
def wordsOk (a : Int) (t : ByteArray) : Prop := 0 ≤ a ∧ a ≤ 768 ∧ a % 4 = 0 ∧ (t.size : Int) ≤ 768 - a
instance (a : Int) (t : ByteArray) : Decidable (wordsOk a t) := by unfold wordsOk; exact inferInstance
def wordsV (a : Int) (t : ByteArray) : List S87 × Int := if wordsOk a t then (wl a t (many t), 0) else ([], 300)
theorem refwords_go (a : Int) (t u : ByteArray) (h0 : 0 ≤ a) (h1 : a ≤ 768) (ht : t.size ≤ 768) (hu : u.size = 4 * many t) (hut : ∀ i, i < many t → u.extract (4 * i) (4 * i + 4) = wordAt t i) (d : Nat) : ∀ (k i : Nat), i ≤ many t → many t - i = d → d < k →
  skiffref1_Words.l0 k a u (wl a t i) (4 * (i : Int)) = some (wl a t (many t), 0) := by
 have hmt : many t ≤ 192 := by unfold many; omega
 induction d with
 | zero =>
  intro k i hi hd hk
  obtain ⟨k, rfl⟩ : ∃ m, k = m + 1 := ⟨k - 1, by omega⟩
  obtain rfl : i = many t := by omega
  simp only [skiffref1_Words.l0]
  rw [if_neg (by omega)]
 | succ d ih =>
  intro k i hi hd hk
  obtain ⟨k, rfl⟩ : ∃ m, k = m + 1 := ⟨k - 1, by omega⟩
  simp only [skiffref1_Words.l0]
  have hw : wrap64 (4 * (i : Int) + 4) = 4 * (i : Int) + 4 := wrap_id (by omega)
  have hw2 : wrap64 (a + 4 * (i : Int)) = a + 4 * (i : Int) := wrap_id (by omega)
  rw [if_pos (by omega), if_pos (by omega), hw, hw2, if_pos (by omega), if_pos (by omega), if_pos (by rw [wl_length]; omega)]
  rw [show (4 * (i : Int)).toNat = 4 * i by omega, show (4 * (i : Int) + 4).toNat = 4 * i + 4 by omega, hut i (by omega)]
  have := ih k (i + 1) (by omega) (by omega) (by omega)
  rw [wl_succ, show 4 * ((i + 1 : Nat) : Int) = 4 * (i : Int) + 4 by omega] at this
  exact this
theorem ref_Words_no (a : Int) (t : ByteArray) : Ev (fun k => skiffref1_Words.j0 k a t true) ([], 300) := Ev.one fun k => by simp only [skiffref1_Words.j0, if_true]
theorem ref_Words_ev (a : Int) (t : ByteArray) (ha : I64 a) (ht : t.size ≤ 140737488351232) : Ev (fun k => skiffref1_Words.f k a t) (wordsV a t) := by
 unfold skiffref1_Words.f wordsV
 simp only [upTo_eq, Option.bind_some]
 by_cases h0 : 0 ≤ a ∧ a ≤ 768
 ·have e0 : decide (0 ≤ a ∧ a ≤ 768) = true := decide_eq_true h0
  simp only [e0, if_true]
  have hm : Int.tmod a 4 = a % 4 := Int.tmod_eq_emod_of_nonneg (by omega)
  simp only [hm]
  by_cases h2 : a % 4 = 0
  ·simp only [if_pos h2]
   have hw : wrap64 (768 - a) = 768 - a := wrap_id (by omega)
   simp only [hw]
   by_cases h3 : (t.size : Int) > 768 - a
   ·have e3 : decide ((t.size : Int) > 768 - a) = true := decide_eq_true h3
    simp only [e3]
    rw [if_neg (by unfold wordsOk; omega)]
    exact ref_Words_no a t
   ·have e3 : decide ((t.size : Int) > 768 - a) = false := decide_eq_false h3
    simp only [e3]
    rw [if_pos ⟨by omega, by omega, h2, by omega⟩]
    refine Ev.step (f := fun k => (skiffref1_full.f k ((4 - ((t.size : Int) % 4)) % 4)).bind fun t150 => (if t.size + t150.size ≤ 9223372036854775807 then (skiffref1_Words.l0 k a (t ++ t150) ([] : List (S87)) 0) else (none))) (fun k => by simp only [skiffref1_Words.j0, Bool.false_eq_true, if_false]) ?_
    refine Ev.bind (full_ev _ (by omega) (by omega)) ?_
    obtain ⟨p, hp⟩ : ∃ p : Nat, ((4 - ((t.size : Int) % 4)) % 4).toNat = p := ⟨_, rfl⟩
    rw [hp]
    have hpm : t.size + p = 4 * many t := by unfold many; omega
    simp only [ff_size, if_pos (show t.size + p ≤ 9223372036854775807 by omega)]
    refine Ev.of (fun k => (skiffref1_Words.mono_l k).2 _ _ _ _) (k := many t + 1) ?_
    have hu : (t ++ ff p).size = 4 * many t := by rw [ByteArray.size_append, ff_size]; omega
    have := refwords_go a t (t ++ ff p) (by omega) (by omega) (by omega) hu (fun i hi => ?_) (many t) (many t + 1) 0 (by omega) (by omega) (by omega)
    ·simpa [wl] using this
    ·have hlt : 4 * i < t.size := by unfold many at hi; omega
     apply bt_ext
     ·rw [wordAt_size t i hlt, ByteArray.size_extract, hu]; omega
     ·intro j hj
      rw [ByteArray.size_extract, hu] at hj
      rw [wordAt_bt t i j hlt (by omega), bt_extract _ _ _ _ (by omega), bt_append]
      by_cases c : 4 * i + j < t.size
      ·rw [if_pos c, if_pos c]
      ·rw [if_neg c, if_neg c, ff_bt _ _ (by omega)]
  ·simp only [if_neg h2]
   rw [if_neg (by unfold wordsOk; omega)]
   exact ref_Words_no a t
 ·have e0 : decide (0 ≤ a ∧ a ≤ 768) = false := decide_eq_false h0
  simp only [e0, Bool.false_eq_true, if_false]
  rw [if_neg (by unfold wordsOk; omega)]
  exact ref_Words_no a t
end Go.Proofs.Ytjadcjkjpkkmkaa.M

/- Plain facts: the flash of one record that the laws begin with; no memory in sight. -/
set_option linter.unnecessarySimpa false
set_option linter.unusedSimpArgs false
set_option linter.unusedVariables false
namespace Go.Proofs.Ytjadcjkjpkkmkaa.M
open Go.RowKit Go.Proofs.YtjadcjkjpkkmkaaW.PrintWords Go.Proofs.YtjadcjkjpkkmkaaW.PrintLast Go.Proofs.YtjadcjkjpkkmkaaW.PrintMore Go.Proofs.Ytjadcjkjpkkmkaa.Hand Go.Proofs.Ytjadcjkjpkkmkaa.PAll
theorem tn_all (j : Nat) (h : j < 4) : tn 32 j = 8 := by rw [tn_eq _ _ (by omega)]; omega
/-- The first m bytes of t stand from a on in a flash that is G elsewhere. -/
def onto (G : ByteArray) (a : Nat) (t : ByteArray) (m : Nat) (F : ByteArray) : Prop := F.size = 768 ∧ ∀ i : Nat, i < 768 → bt F i = if a ≤ i ∧ i < a + m ∧ i - a < t.size then bt t ((i - a : Nat) : Int) else bt G i
theorem onto_step (G : ByteArray) (a : Nat) (t F : ByteArray) (j : Nat) (h : onto G a t (4 * j) F) (hG : ∀ i, a ≤ i → i < a + 4 * many t → bt G ((i : Nat) : Int) = 255) (hj : j < many t) (hr : a + 4 * many t ≤ 768) : onto G a t (4 * (j + 1)) (tornF F (a + 4 * j) (wordAt t j) 32) := by
 obtain ⟨h1, h2⟩ := h
 have hj4 : 4 * j < t.size := by unfold many at hj; omega
 refine ⟨by rw [tornF_size _ _ _ _ (by omega)]; exact h1, fun i hi => ?_⟩
 rw [tornF_bt _ _ _ _ (by omega) i (by omega), h2 i hi]
 by_cases c : a + 4 * j ≤ i ∧ i < a + 4 * j + 4
 ·rw [if_pos c, if_neg (by omega), tn_all _ (by omega), hG i (by omega) (by omega), clr_blank _ (bt_u8 _ _).1 (bt_u8 _ _).2 8 rfl, wordAt_bt t j _ hj4 (by omega)]
  by_cases c2 : i - a < t.size
  ·rw [if_pos (by omega), if_pos (by omega)]; congr 1; omega
  ·rw [if_neg (by omega), if_neg (by omega)]
 ·rw [if_neg c]
  by_cases c2 : a ≤ i ∧ i < a + 4 * j ∧ i - a < t.size
  ·rw [if_pos c2, if_pos (by omega)]
  ·rw [if_neg c2, if_neg (by omega)]
/-- All steps, one behind the other. -/
def doL (F : ByteArray) (l : List S87) : ByteArray := l.foldl (fun F o => (cutV F o.f0 o.f1 o.f2 96).1) F
theorem doL_cons (F : ByteArray) (o : S87) (l : List S87) : doL F (o :: l) = doL (cutV F o.f0 o.f1 o.f2 96).1 l := rfl
theorem doL_at (F : ByteArray) (l : List S87) (i : Nat) (h : i < l.length) : doL F (l.drop i) = doL (cutV F (rd_T87 l i).f0 (rd_T87 l i).f1 (rd_T87 l i).f2 96).1 (l.drop (i + 1)) := by
 have e : rd_T87 l i = l[i] := by simp [rd_T87, List.getD_eq_getElem?_getD, List.getElem?_eq_getElem h]
 rw [List.drop_eq_getElem_cons h, doL_cons, e]
theorem doL_end (F : ByteArray) (l : List S87) : doL F (l.drop l.length) = F := by rw [List.drop_length]; rfl
theorem onto_all (G : ByteArray) (a : Nat) (t : ByteArray) (ha : a % 4 = 0) (hG : ∀ i, a ≤ i → i < a + 4 * many t → bt G ((i : Nat) : Int) = 255) (hr : a + 4 * many t ≤ 768) (d : Nat) :
  ∀ (j : Nat) (F : ByteArray), j + d = many t → onto G a t (4 * j) F → onto G a t (4 * many t) (doL F ((wl a t (many t)).drop j)) := by
 induction d with
 | zero =>
  intro j F hj h
  obtain rfl : j = many t := by omega
  have := doL_end F (wl a t (many t))
  rw [wl_length] at this
  rw [this]
  exact h
 | succ d ih =>
  intro j F hj h
  have hs := onto_step G a t F j h hG (by omega) hr
  have hjm : j < many t := by omega
  have hj4 : 4 * j < t.size := by unfold many at hjm; omega
  have ok : cutOk F false ((a : Int) + 4 * (j : Int)) (wordAt t j) 96 := by
   refine ⟨h.1, ?_, by omega, by omega⟩
   unfold opMay
   rw [if_neg (by decide), decide_eq_true_eq]
   have := wordAt_size t j hj4
   omega
  have hv : (cutV F false ((a : Int) + 4 * (j : Int)) (wordAt t j) 96).1 = tornF F (a + 4 * j) (wordAt t j) 32 := by
   unfold cutV
   rw [if_pos ok]
   unfold doF
   rw [if_neg (by decide)]
   show tornF F ((a : Int) + 4 * (j : Int)).toNat (wordAt t j) (mn 96 32) = _
   rw [show ((a : Int) + 4 * (j : Int)).toNat = a + 4 * j by omega]
   rfl
  rw [doL_at F _ j (by rw [wl_length]; omega), wl_rd _ _ _ _ (by omega)]
  show onto G a t (4 * many t) (doL (cutV F false ((a : Int) + 4 * (j : Int)) (wordAt t j) 96).1 ((wl a t (many t)).drop (j + 1)))
  rw [hv]
  exact ih (j + 1) _ (by omega) hs
/-- A text laid down at a place that is blank. -/
theorem lay (G : ByteArray) (a : Nat) (t : ByteArray) (hs : G.size = 768) (ha : a % 4 = 0) (hG : ∀ i, a ≤ i → i < a + 4 * many t → bt G ((i : Nat) : Int) = 255) (hr : a + 4 * many t ≤ 768) :
  (doL G (wl a t (many t))).size = 768 ∧ ∀ i : Nat, i < 768 → bt (doL G (wl a t (many t))) i = if a ≤ i ∧ i < a + t.size then bt t ((i - a : Nat) : Int) else bt G i := by
 have h0 : onto G a t (4 * 0) G := ⟨hs, fun i hi => by rw [if_neg (by omega)]⟩
 obtain ⟨h1, h2⟩ := onto_all G a t ha hG hr (many t) 0 G (by omega) h0
 rw [List.drop_zero] at h1 h2
 refine ⟨h1, fun i hi => ?_⟩
 rw [h2 i hi]
 have : t.size ≤ 4 * many t := by unfold many; omega
 by_cases c : a ≤ i ∧ i < a + t.size
 ·rw [if_pos c, if_pos (by omega)]
 ·rw [if_neg c, if_neg (by omega)]
/-- "ab", six times. -/
def ab : ByteArray := ⟨#[97, 98, 97, 98, 97, 98, 97, 98, 97, 98, 97, 98]⟩
def abSum : Int := 3146506012
theorem ab_crc : Ev (fun k => skiffref1_Crc.f k ab) abSum := Ev.of (fun k => skiffref1_Crc.mono ab k) (k := 200) (by kernel_rfl)
theorem ab_many : many ab = 3 := rfl
theorem ab_size : ab.size = 12 := rfl
def held1 : ByteArray := doL (ff 768) (wl (192 : Nat) ab (many ab))
theorem held1_size : held1.size = 768 := (lay (ff 768) 192 ab (ff_size 768) rfl (fun i h1 h2 => ff_bt 768 i (by rw [ab_many] at h2; omega)) (by rw [ab_many]; omega)).1
theorem held1_bt (i : Nat) (hi : i < 768) : bt held1 i = if 192 ≤ i ∧ i < 204 then bt ab ((i - 192 : Nat) : Int) else 255 := by
 have := (lay (ff 768) 192 ab (ff_size 768) rfl (fun i h1 h2 => ff_bt 768 i (by rw [ab_many] at h2; omega)) (by rw [ab_many]; omega)).2 i hi
 rw [ab_size, ff_bt _ _ hi] at this
 exact this
def rec1 : ByteArray := ent 1 0 12 abSum
theorem rec1_size : rec1.size = 24 := ent_size _ _ _ _
theorem rec1_many : many rec1 = 6 := by unfold many; rw [rec1_size]
def heldF : ByteArray := doL held1 (wl (0 : Nat) rec1 (many rec1))
theorem heldF_lay : heldF.size = 768 ∧ ∀ i : Nat, i < 768 → bt heldF i = if 0 ≤ i ∧ i < 0 + rec1.size then bt rec1 ((i - 0 : Nat) : Int) else bt held1 i :=
 lay held1 0 rec1 held1_size rfl (fun i h1 h2 => by rw [rec1_many] at h2; rw [held1_bt i (by omega), if_neg (by omega)]) (by rw [rec1_many]; omega)
theorem heldF_size : heldF.size = 768 := heldF_lay.1
theorem heldF_bt (i : Nat) (hi : i < 768) : bt heldF i = if i < 24 then bt rec1 (i : Int) else if 192 ≤ i ∧ i < 204 then bt ab ((i - 192 : Nat) : Int) else 255 := by
 rw [heldF_lay.2 i hi, rec1_size, held1_bt i hi]
 by_cases c : i < 24
 ·rw [if_pos c, if_pos (by omega)]; rfl
 ·rw [if_neg c, if_neg (by omega)]
theorem pl_size (f : ByteArray) (j : Nat) (hf : f.size = 768) (hj : j < 8) : (pl f j).size = 24 := by unfold pl; rw [ByteArray.size_extract]; omega
theorem pl_bt (f : ByteArray) (j : Nat) (hf : f.size = 768) (hj : j < 8) (i : Nat) (hi : i < 24) : bt (pl f j) (i : Int) = bt f ((24 * j + i : Nat) : Int) := bt_extract f _ _ i (by omega)
theorem pl_blank (f : ByteArray) (j : Nat) (hf : f.size = 768) (hj : j < 8) (h : ∀ i, 24 * j ≤ i → i < 24 * j + 24 → bt f ((i : Nat) : Int) = 255) : pl f j = ff 24 := by
 apply bt_ext
 ·rw [pl_size f j hf hj, ff_size]
 ·intro i hi
  rw [pl_size f j hf hj] at hi
  rw [pl_bt f j hf hj i hi, h _ (by omega) (by omega), ff_bt _ _ hi]
theorem getV_ff : getV (ff 24) = (0, 0, 0, 0, 400) := by
 unfold getV
 rw [if_neg]
 rintro ⟨_, h, _⟩
 have := h 0 (by omega)
 rw [ff_bt 24 (12 + 0) (by omega), ff_bt 24 0 (by omega)] at this
 omega
theorem told_ff (j : Nat) : told j (getV (ff 24)) = [] := by rw [getV_ff]; rfl
/-- No records stand in a flash of which all places are blank. -/
theorem scanL_blank (f : ByteArray) (n : Nat) (h : ∀ j, j < n → pl f j = ff 24) : scanL f n = [] := by
 induction n with
 | zero => rfl
 | succ n ih => rw [scanL, ih (fun j hj => h j (by omega)), h n (by omega), told_ff]; rfl
theorem scanV_held1 : scanV held1 = ([], 0) := by
 unfold scanV
 rw [if_pos held1_size, scanL_blank held1 8 (fun j hj => pl_blank held1 j held1_size hj (fun i h1 h2 => by rw [held1_bt i (by omega), if_neg (by omega)]))]
theorem pl_heldF0 : pl heldF 0 = rec1 := by
 apply bt_ext
 ·rw [pl_size _ _ heldF_size (by omega), rec1_size]
 ·intro i hi
  rw [pl_size _ _ heldF_size (by omega)] at hi
  rw [pl_bt _ _ heldF_size (by omega) i hi, heldF_bt _ (by omega), if_pos (by omega)]
  congr 1; omega
theorem pl_heldF (j : Nat) (h0 : 0 < j) (h : j < 8) : pl heldF j = ff 24 := pl_blank heldF j heldF_size h (fun i h1 h2 => by rw [heldF_bt i (by omega), if_neg (by omega), if_neg (by omega)])
theorem rec1_may : recMay 1 0 12 abSum = true := by decide
def place1 : S25 := ⟨0, ⟨1, 0, 12, abSum⟩⟩
theorem scanL_heldF (n : Nat) (h0 : 0 < n) (h : n ≤ 8) : scanL heldF n = [place1] := by
 induction n with
 | zero => omega
 | succ n ih =>
  rw [scanL]
  by_cases c : n = 0
  ·subst c
   rw [pl_heldF0, rec1, getV_ent _ _ _ _ rec1_may]; rfl
  ·rw [ih (by omega) (by omega), pl_heldF n (by omega) (by omega), told_ff]; rfl
theorem freeV_held1 : freeV held1 0 = (0, true, 0) := by
 unfold freeV
 rw [if_pos ⟨held1_size, by omega, by omega⟩]
 show freeL held1 0 4 = _
 rw [freeL, pl_blank held1 0 held1_size (by omega) (fun i h1 h2 => by rw [held1_bt i (by omega), if_neg (by omega)]), if_pos rfl]; rfl
theorem held1_ab : held1.extract 192 204 = ab := by
 apply bt_ext
 ·rw [ByteArray.size_extract, held1_size, ab_size]; omega
 ·intro i hi
  rw [ByteArray.size_extract, held1_size] at hi
  rw [bt_extract _ _ _ _ (by rw [held1_size]; omega), held1_bt _ (by omega), if_pos (by omega), show 192 + i - 192 = i by omega]
theorem Next_held1 : Ev (fun k => skiffref1_NextSeq.f k held1) (1, 0) := by
 have h := ref_Scan_ev held1
 rw [scanV_held1] at h
 unfold skiffref1_NextSeq.f
 refine Ev.bind h ?_
 exact Ev.one fun k => by
  show skiffref1_NextSeq.l0 (k + 1) [] 0 0 = _
  rw [skiffref1_NextSeq.l0, if_neg (by decide), if_neg (by decide), show wrap64 (0 + 1) = 1 by unfold wrap64; omega]
theorem RecordOf_held1 : Ev (fun k => skiffref1_RecordOf.f k held1 0 12) (1, 0, 12, abSum, 0) := by
 have hb : skiffref1_Base.f 0 = some (192, 0) := by kernel_rfl
 have hs := held1_size
 have e : ((held1.size : Int) == 768) = true := by rw [hs]; rfl
 have w204 : wrap64 (192 + 12) = 204 := by unfold wrap64; omega
 have hx : held1.extract (192 : Int).toNat (204 : Int).toNat = ab := held1_ab
 unfold skiffref1_RecordOf.f skiffref1_FlashMay.f
 simp only [hb, Option.bind_some, e, if_true, upTo_eq]
 refine Ev.step (f := fun k => (skiffref1_NextSeq.f k held1).bind fun bt380 => (if bt380.2 = 0 then ((skiffref1_Crc.f k ab).bind fun t382 => (some (bt380.1, 0, 12, t382, 0))) else (some (0, 0, 0, 0, bt380.2)))) (fun k => ?_) ?_
 ·rw [skiffref1_RecordOf.j0, if_neg (by decide), w204, hx]
  simp only [if_pos (show (0 : Int) ≤ 192 by decide), if_pos (show (192 : Int) ≤ 204 by decide), if_pos (show (204 : Int) ≤ (held1.size : Int) by rw [hs]; decide)]
 ·refine Ev.bind Next_held1 ?_
  simp only [if_true]
  exact Ev.bind ab_crc (Ev.now _)
theorem Active_held1 : Ev (fun k => skiffref1_Active.f k held1) (0, 0, 0, 0, 0, 701) := by
 have h := ref_Scan_ev held1
 rw [scanV_held1] at h
 unfold skiffref1_Active.f
 refine Ev.bind h ?_
 exact Ev.one fun k => by
  show skiffref1_Active.l0 (k + 1) held1 [] (-1) 0 = _
  rw [skiffref1_Active.l0, if_neg (by decide), if_pos (by decide)]
theorem wordsV_rec1 : wordsV 0 rec1 = (wl (0 : Nat) rec1 (many rec1), 0) := by
 unfold wordsV
 rw [if_pos ⟨by omega, by omega, by decide, by rw [rec1_size]; omega⟩]; rfl
theorem wordsV_ab : wordsV 192 ab = (wl (192 : Nat) ab (many ab), 0) := by
 unfold wordsV
 rw [if_pos ⟨by omega, by omega, by decide, by rw [ab_size]; omega⟩]; rfl
theorem Append_held1 : Ev (fun k => skiffref1_Append.f k held1 1 0 12 abSum) (wl (0 : Nat) rec1 (many rec1), 0) := by
 have hp := PutEntry_ev 1 0 12 abSum
 rw [show putV 1 0 12 abSum = (rec1, 0) from by unfold putV; rw [if_pos rec1_may]; rfl] at hp
 have e : ((held1.size : Int) == 768) = true := by rw [held1_size]; rfl
 have hf := ref_Free_ev held1 0
 rw [freeV_held1] at hf
 have hw := ref_Words_ev 0 rec1 (by omega) (by rw [rec1_size]; omega)
 rw [wordsV_rec1] at hw
 unfold skiffref1_Append.f skiffref1_FlashMay.f
 refine Ev.bind hp ?_
 simp only [Option.bind_some, e, if_true]
 refine Ev.step (f := fun k => (skiffref1_Active.f k held1).bind fun bt410 => (if bt410.2.2.2.2.2 = 0 then (skiffref1_Append.j1 k held1 rec1 (wrap64 (Int.tdiv bt410.1 96))) else (skiffref1_Append.j1 k held1 rec1 0))) (fun k => by rw [skiffref1_Append.j0]; rfl) ?_
 refine Ev.bind Active_held1 ?_
 simp only [show ¬ ((701 : Int) = 0) by decide, if_false]
 refine Ev.step (fun k => by rw [skiffref1_Append.j1]) ?_
 refine Ev.bind hf ?_
 simp only [if_true]
 refine Ev.bind hw ?_
 have hl : ([] : List S87).length + (wl (0 : Nat) rec1 (many rec1)).length < 4398046511104 := by rw [wl_length, rec1_many]; decide
 simp only [if_pos hl]
 exact Ev.now _
end Go.Proofs.Ytjadcjkjpkkmkaa.M

/- Plain facts: what container/heap makes of a list of places, and so choose.Active's answer: the greatest of the places that are good; no memory in sight. -/
set_option linter.unnecessarySimpa false
set_option linter.unusedSimpArgs false
set_option linter.unusedVariables false
namespace Go.Proofs.Ytjadcjkjpkkmkaa.M
open Go.RowKit Go.Proofs.YtjadcjkjpkkmkaaW.PrintWords Go.Proofs.YtjadcjkjpkkmkaaW.PrintLast Go.Proofs.YtjadcjkjpkkmkaaW.PrintMore Go.Proofs.Ytjadcjkjpkkmkaa.Hand Go.Proofs.Ytjadcjkjpkkmkaa.PSc
/-- a stands ahead of b, or they are alike: the greater number, of these the later place. -/
def ge (a b : S25) : Prop := b.f1.f0 < a.f1.f0 ∨ (b.f1.f0 = a.f1.f0 ∧ b.f0 ≤ a.f0)
theorem lessB_iff (a b : S25) : lessB a b = true ↔ ¬ ge b a := by
 unfold lessB ge
 by_cases h : a.f1.f0 = b.f1.f0
 ·rw [if_neg (by simpa using h), decide_eq_true_eq]; omega
 ·rw [if_pos (by simpa using h), decide_eq_true_eq]; omega
theorem ge_refl (a : S25) : ge a a := by unfold ge; omega
theorem ge_trans {a b c : S25} (h1 : ge a b) (h2 : ge b c) : ge a c := by unfold ge at *; omega
theorem ge_total (a b : S25) : ge a b ∨ ge b a := by unfold ge; omega
theorem ge_less {a b : S25} (h : lessB a b = true) : ge a b := by
 have := (lessB_iff a b).1 h
 rcases ge_total a b with h1 | h1
 ·exact h1
 ·exact absurd h1 this
theorem ge_not {a b : S25} (h : ¬ lessB a b = true) : ge b a := by
 rcases Classical.em (ge b a) with h1 | h1
 ·exact h1
 ·exact absurd ((lessB_iff a b).2 h1) h
def g (xs : List S25) (i : Nat) : S25 := rd_T25 xs (i : Int)
theorem g_eq (xs : List S25) (i : Nat) : g xs i = xs.getD i z25 := by simp [g, rd_T25]
theorem g_at (xs : List S25) (i : Nat) (h : i < xs.length) : g xs i = xs[i] := by rw [g_eq, List.getD_eq_getElem?_getD, List.getElem?_eq_getElem h]; rfl
theorem g_swap (xs : List S25) (i j t : Nat) (hi : i < xs.length) (hj : j < xs.length) : g (swapL xs i j) t = if t = j then g xs i else if t = i then g xs j else g xs t := by
 have e : ∀ q : Nat, rd_T25 xs (q : Int) = g xs q := fun _ => rfl
 unfold swapL
 rw [e, e, g_eq, List.getD_eq_getElem?_getD, List.getElem?_set, List.getElem?_set]
 by_cases c1 : t = j
 ·subst c1; simp [hj]
 ·rw [if_neg (fun x => c1 x.symm), if_neg c1]
  by_cases c2 : t = i
  ·subst c2; simp [hi]
  ·rw [if_neg (fun x => c2 x.symm), if_neg c2, g_eq, List.getD_eq_getElem?_getD]
/-- x stands among the first n. -/
def has (xs : List S25) (n : Nat) (x : S25) : Prop := ∃ i, i < n ∧ g xs i = x
theorem has_swap (xs : List S25) (i j n : Nat) (hi : i < n) (hj : j < n) (hn : n ≤ xs.length) (x : S25) : has (swapL xs i j) n x ↔ has xs n x := by
 constructor
 ·rintro ⟨t, ht, h⟩
  rw [g_swap xs i j t (by omega) (by omega)] at h
  by_cases c1 : t = j
  ·rw [if_pos c1] at h; exact ⟨i, hi, h⟩
  ·rw [if_neg c1] at h
   by_cases c2 : t = i
   ·rw [if_pos c2] at h; exact ⟨j, hj, h⟩
   ·rw [if_neg c2] at h; exact ⟨t, ht, h⟩
 ·rintro ⟨t, ht, h⟩
  by_cases c1 : t = j
  ·by_cases c2 : i = j
   ·exact ⟨t, ht, by rw [g_swap xs i j t (by omega) (by omega), if_pos c1, c2, ← c1]; exact h⟩
   ·exact ⟨i, hi, by rw [g_swap xs i j i (by omega) (by omega), if_neg c2, if_pos rfl, ← c1]; exact h⟩
  ·by_cases c2 : t = i
   ·exact ⟨j, hj, by rw [g_swap xs i j j (by omega) (by omega), if_pos rfl, ← c2]; exact h⟩
   ·exact ⟨t, ht, by rw [g_swap xs i j t (by omega) (by omega), if_neg c1, if_neg c2]; exact h⟩
def Kid (p c : Nat) : Prop := c = 2 * p + 1 ∨ c = 2 * p + 2
def Heap (lo n : Nat) (xs : List S25) : Prop := ∀ p c, lo ≤ p → Kid p c → c < n → ge (g xs p) (g xs c)
/-- A heap but at place i, whose value is to go down. -/
def Hole (lo n i : Nat) (xs : List S25) : Prop := (∀ p c, lo ≤ p → p ≠ i → Kid p c → c < n → ge (g xs p) (g xs c)) ∧ (∀ p c, lo ≤ p → Kid p i → Kid i c → c < n → ge (g xs p) (g xs c))
theorem hole_end {lo n i : Nat} {xs : List S25} (h : Hole lo n i xs) (h2 : ∀ c, Kid i c → c < n → ge (g xs i) (g xs c)) : Heap lo n xs := by
 intro p c hp hk hc
 by_cases e : p = i
 ·subst e; exact h2 c hk hc
 ·exact h.1 p c hp e hk hc
theorem hole_down {lo n i c : Nat} {xs : List S25} (h : Hole lo n i xs) (hlo : lo ≤ i) (hk : Kid i c) (hc : c < n) (hn : n ≤ xs.length) (h1 : ge (g xs c) (g xs i)) (h2 : ∀ d, Kid i d → d < n → ge (g xs c) (g xs d)) : Hole lo n c (swapL xs i c) := by
 have hic : i < c := by unfold Kid at hk; omega
 have gs := fun t => g_swap xs i c t (by omega) (by omega)
 constructor
 ·intro p d hp hpc hpd hd
  rw [gs p, gs d, if_neg hpc]
  by_cases e1 : p = i
  ·subst e1
   rw [if_pos rfl]
   by_cases e2 : d = c
   ·rw [if_pos e2]; exact h1
   ·rw [if_neg e2, if_neg (by unfold Kid at hpd; omega)]; exact h2 d hpd hd
  ·rw [if_neg e1]
   have e2 : d ≠ c := by unfold Kid at *; omega
   rw [if_neg e2]
   by_cases e3 : d = i
   ·rw [if_pos e3]; subst e3; exact h.2 p c hp hpd hk hc
   ·rw [if_neg e3]; exact h.1 p d hp e1 hpd hd
 ·intro p d hp hpc hcd hd
  obtain rfl : p = i := by unfold Kid at *; omega
  rw [gs p, gs d, if_neg (by omega), if_pos rfl, if_neg (by unfold Kid at hcd; omega), if_neg (by unfold Kid at *; omega)]
  exact h.1 c d (by omega) (by omega) hcd hd
/-- What 'down' tells of its answer. -/
def DownOk (lo n : Nat) (xs ys : List S25) : Prop := ys.length = xs.length ∧ Heap lo n ys ∧ (∀ j, n ≤ j → g ys j = g xs j) ∧ ∀ x, has ys n x ↔ has xs n x
theorem dn_ok (lo n : Nat) : ∀ (k i : Nat) (xs : List S25), n - i < k → n ≤ xs.length → lo ≤ i → Hole lo n i xs → ∃ ys, dn k xs i n = some ys ∧ DownOk lo n xs ys
 | 0, _, _, h, _, _, _ => absurd h (by omega)
 | k + 1, i, xs, hk, hn, hlo, h => by
  have stop : (∀ c, Kid i c → c < n → ge (g xs i) (g xs c)) → DownOk lo n xs xs := fun h2 => ⟨rfl, hole_end h h2, fun _ _ => rfl, fun _ => Iff.rfl⟩
  have down : ∀ c, Kid i c → c < n → ge (g xs c) (g xs i) → (∀ d, Kid i d → d < n → ge (g xs c) (g xs d)) → ∃ ys, dn k (swapL xs i c) c n = some ys ∧ DownOk lo n xs ys := by
   intro c hkc hc h1 h2
   have hic : i < c := by unfold Kid at hkc; omega
   obtain ⟨ys, e, l, hh, far, mem⟩ := dn_ok lo n k c (swapL xs i c) (by omega) (by rw [swapL_length]; exact hn) (by omega) (hole_down h hlo hkc hc hn h1 h2)
   refine ⟨ys, e, by rw [l, swapL_length], hh, fun j hj => ?_, fun x => (mem x).trans (has_swap xs i c n (by omega) hc hn x)⟩
   rw [far j hj, g_swap xs i c j (by omega) (by omega), if_neg (by omega), if_neg (by omega)]
  rw [dn]
  by_cases c1 : 2 * i + 1 < n
  ·rw [if_pos c1]
   by_cases c2 : 2 * i + 2 < n
   ·rw [if_pos c2]
    by_cases c3 : lessB (rd_T25 xs ((2 * i + 2 : Nat) : Int)) (rd_T25 xs ((2 * i + 1 : Nat) : Int)) = true
    ·rw [if_pos c3]
     have g3 : ge (g xs (2 * i + 2)) (g xs (2 * i + 1)) := ge_less c3
     by_cases c4 : lessB (rd_T25 xs ((2 * i + 2 : Nat) : Int)) (rd_T25 xs (i : Int)) = true
     ·rw [if_pos c4]
      refine down _ (Or.inr rfl) c2 (ge_less c4) fun d hd _ => ?_
      rcases hd with rfl | rfl
      ·exact g3
      ·exact ge_refl _
     ·rw [if_neg c4]
      refine ⟨xs, rfl, stop fun c hc _ => ?_⟩
      have g4 : ge (g xs i) (g xs (2 * i + 2)) := ge_not c4
      rcases hc with rfl | rfl
      ·exact ge_trans g4 g3
      ·exact g4
    ·rw [if_neg c3]
     have g3 : ge (g xs (2 * i + 1)) (g xs (2 * i + 2)) := ge_not c3
     by_cases c4 : lessB (rd_T25 xs ((2 * i + 1 : Nat) : Int)) (rd_T25 xs (i : Int)) = true
     ·rw [if_pos c4]
      refine down _ (Or.inl rfl) c1 (ge_less c4) fun d hd _ => ?_
      rcases hd with rfl | rfl
      ·exact ge_refl _
      ·exact g3
     ·rw [if_neg c4]
      refine ⟨xs, rfl, stop fun c hc _ => ?_⟩
      have g4 : ge (g xs i) (g xs (2 * i + 1)) := ge_not c4
      rcases hc with rfl | rfl
      ·exact g4
      ·exact ge_trans g4 g3
   ·rw [if_neg c2]
    by_cases c4 : lessB (rd_T25 xs ((2 * i + 1 : Nat) : Int)) (rd_T25 xs (i : Int)) = true
    ·rw [if_pos c4]
     refine down _ (Or.inl rfl) c1 (ge_less c4) fun d hd hdn => ?_
     rcases hd with rfl | rfl
     ·exact ge_refl _
     ·exact absurd hdn c2
    ·rw [if_neg c4]
     refine ⟨xs, rfl, stop fun c hc hcn => ?_⟩
     rcases hc with rfl | rfl
     ·exact ge_not c4
     ·exact absurd hcn c2
  ·rw [if_neg c1]
   exact ⟨xs, rfl, stop fun c hc hcn => by unfold Kid at hc; omega⟩
theorem down_heap {lo n : Nat} {xs : List S25} (h : Heap (lo + 1) n xs) : Hole lo n lo xs :=
 ⟨fun p c hp hne hk hc => h p c (by omega) hk hc, fun p c hp hk _ _ => by unfold Kid at hk; omega⟩
theorem ini_ok (n : Nat) : ∀ (m k : Nat) (xs : List S25), n < k → n ≤ xs.length → Heap m n xs → ∃ ys, ini k m xs n = some ys ∧ DownOk 0 n xs ys
 | 0, k, xs, _, _, h => ⟨xs, rfl, rfl, h, fun _ _ => rfl, fun _ => Iff.rfl⟩
 | m + 1, k, xs, hk, hn, h => by
  obtain ⟨ys, e, l, hh, far, mem⟩ := dn_ok m n k m xs (by omega) hn (Nat.le_refl _) (down_heap h)
  obtain ⟨zs, e2, l2, hh2, far2, mem2⟩ := ini_ok n m k ys hk (by omega) hh
  exact ⟨zs, by rw [ini, e]; exact e2, by omega, hh2, fun j hj => by rw [far2 j hj, far j hj], fun x => (mem2 x).trans (mem x)⟩
theorem heap_half (n : Nat) (xs : List S25) : Heap (n / 2) n xs := fun p c hp hk hc => by unfold Kid at hk; omega
/-- The first one is the greatest. -/
theorem heap_top {n : Nat} {xs : List S25} (h : Heap 0 n xs) : ∀ j, j < n → ge (g xs 0) (g xs j) := by
 intro j
 induction j using Nat.strongRecOn with
 | _ j ih =>
  intro hj
  by_cases c : j = 0
  ·subst c; exact ge_refl _
  ·exact ge_trans (ih ((j - 1) / 2) (by omega) (by omega)) (h ((j - 1) / 2) j (by omega) (by unfold Kid; omega) hj)
theorem g_take (xs : List S25) (m i : Nat) (h : i < m) : g (xs.take m) i = g xs i := by
 rw [g_eq, g_eq, List.getD_eq_getElem?_getD, List.getD_eq_getElem?_getD, List.getElem?_take_of_lt h]
theorem pop_ok (m k : Nat) (xs : List S25) (hk : m < k) (hl : xs.length = m + 1) (h : Heap 0 (m + 1) xs) :
  ∃ ys, popF k xs m = some ys ∧ g ys m = g xs 0 ∧ (ys.take m).length = m ∧ Heap 0 m (ys.take m) ∧ (∀ x, has xs (m + 1) x ↔ has (ys.take m) m x ∨ x = g xs 0) := by
 have hs := fun t => g_swap xs 0 m t (by omega) (by omega)
 have hole : Hole 0 m 0 (swapL xs 0 m) := by
  constructor
  ·intro p c _ hp hk hc
   rw [hs p, hs c, if_neg (by unfold Kid at hk; omega), if_neg hp, if_neg (by omega), if_neg (by unfold Kid at hk; omega)]
   exact h p c (by omega) hk (by omega)
  ·intro p c _ hk; unfold Kid at hk; omega
 obtain ⟨ys, e, l, hh, far, mem⟩ := dn_ok 0 m k 0 (swapL xs 0 m) (by omega) (by rw [swapL_length]; omega) (Nat.le_refl _) hole
 rw [swapL_length] at l
 have top : g ys m = g xs 0 := by rw [far m (Nat.le_refl _), hs m, if_pos rfl]
 refine ⟨ys, e, top, by rw [List.length_take]; omega, ?_, fun x => ?_⟩
 ·intro p c hp hk hc
  rw [g_take _ _ _ (by unfold Kid at hk; omega), g_take _ _ _ hc]
  exact hh p c hp hk hc
 ·have e1 : has (ys.take m) m x ↔ has (swapL xs 0 m) m x := by
   refine Iff.trans ?_ (mem x)
   constructor
   ·rintro ⟨i, hi, hx⟩; exact ⟨i, hi, by rw [← g_take ys m i hi]; exact hx⟩
   ·rintro ⟨i, hi, hx⟩; exact ⟨i, hi, by rw [g_take ys m i hi]; exact hx⟩
  rw [e1, ← has_swap xs 0 m (m + 1) (by omega) (by omega) (by omega) x]
  constructor
  ·rintro ⟨i, hi, hx⟩
   by_cases c : i = m
   ·subst c; rw [hs i, if_pos rfl] at hx; exact Or.inr hx.symm
   ·exact Or.inl ⟨i, by omega, hx⟩
  ·rintro (⟨i, hi, hx⟩ | rfl)
   ·exact ⟨i, by omega, hx⟩
   ·exact ⟨m, by omega, by rw [hs m, if_pos rfl]⟩
/-- The answer of Active, told of a list: the greatest of those that are good. -/
def Best (good : S25 → Bool) (P : S25 → Prop) (r : Option S25) : Prop :=
 (∃ x, r = some x ∧ P x ∧ good x = true ∧ ∀ y, P y → good y = true → ge x y) ∨ (r = none ∧ ∀ y, P y → good y = false)
def ans : Option S25 → Int × Int × Int × Int × Int × Int
 | some x => (x.f0, x.f1.f0, x.f1.f1, x.f1.f2, x.f1.f3, 0)
 | none => (0, 0, 0, 0, 0, 701)
theorem act_ok (f : ByteArray) (good : S25 → Bool) (hg : ∀ x : S25, ∃ e, image_Good.f f x.f1.f0 x.f1.f1 x.f1.f2 x.f1.f3 = some (good x, e)) :
  ∀ (m k : Nat) (xs : List S25), m < k → xs.length = m → Heap 0 m xs → ∃ r, actL k f m xs = some (ans r) ∧ Best good (has xs m) r
 | 0, k, xs, _, _, _ => ⟨none, rfl, Or.inr ⟨rfl, fun y ⟨i, hi, _⟩ => absurd hi (by omega)⟩⟩
 | m + 1, k, xs, hk, hl, h => by
  obtain ⟨ys, e, top, l, hh, mem⟩ := pop_ok m k xs (by omega) hl h
  obtain ⟨er, he⟩ := hg (g xs 0)
  have he2 : image_Good.f f (rd_T25 ys m).f1.f0 (rd_T25 ys m).f1.f1 (rd_T25 ys m).f1.f2 (rd_T25 ys m).f1.f3 = some (good (g xs 0), er) := by
   rw [show rd_T25 ys (m : Int) = g xs 0 from top]; exact he
  rw [actL, e, Option.bind_some, he2, Option.bind_some]
  rw [show rd_T25 ys (m : Int) = g xs 0 from top]
  by_cases c : good (g xs 0) = true
  ·rw [if_pos c]
   refine ⟨some (g xs 0), rfl, Or.inl ⟨_, rfl, ⟨0, by omega, rfl⟩, c, fun y ⟨i, hi, hy⟩ _ => ?_⟩⟩
   rw [← hy]; exact heap_top h i hi
  ·rw [if_neg c]
   obtain ⟨r, e3, hb⟩ := act_ok f good hg m k (ys.take m) (by omega) l hh
   refine ⟨r, e3, ?_⟩
   rcases hb with ⟨x, hr, hx, hgx, hmax⟩ | ⟨hr, hno⟩
   ·refine Or.inl ⟨x, hr, (mem x).2 (Or.inl hx), hgx, fun y hy hgy => ?_⟩
    rcases (mem y).1 hy with h1 | rfl
    ·exact hmax y h1 hgy
    ·exact absurd hgy c
   ·refine Or.inr ⟨hr, fun y hy => ?_⟩
    rcases (mem y).1 hy with h1 | rfl
    ·exact hno y h1
    ·simpa using c
theorem has_mem (xs : List S25) (x : S25) : has xs xs.length x ↔ x ∈ xs := by
 constructor
 ·rintro ⟨i, hi, hx⟩; rw [← hx, g_at xs i hi]; exact List.getElem_mem hi
 ·intro h
  obtain ⟨i, hi, e⟩ := List.getElem_of_mem h
  exact ⟨i, hi, by rw [g_at xs i hi]; exact e⟩
theorem Best_of_iff {good : S25 → Bool} {P Q : S25 → Prop} {r : Option S25} (h : Best good P r) (e : ∀ x, Q x ↔ P x) : Best good Q r := by
 rcases h with ⟨x, hr, hx, hgx, hmax⟩ | ⟨hr, hno⟩
 ·exact Or.inl ⟨x, hr, (e x).2 hx, hgx, fun y hy => hmax y ((e y).1 hy)⟩
 ·exact Or.inr ⟨hr, fun y hy => hno y ((e y).1 hy)⟩
/-- One answer alone is right, where no two places are one. -/
theorem Best_one {good : S25 → Bool} {P : S25 → Prop} {r s : Option S25} (hP : ∀ x y, P x → P y → x.f0 = y.f0 → x = y) (h1 : Best good P r) (h2 : Best good P s) : r = s := by
 rcases h1 with ⟨x, hr, hx, hgx, hmx⟩ | ⟨hr, hn⟩ <;> rcases h2 with ⟨y, hs, hy, hgy, hmy⟩ | ⟨hs, hn2⟩
 ·have a := hmx y hy hgy
  have b := hmy x hx hgx
  have : x.f0 = y.f0 := by unfold ge at a b; omega
  rw [hr, hs, hP x y hx hy this]
 ·rw [hn2 x hx] at hgx; cases hgx
 ·rw [hn y hy] at hgy; cases hgy
 ·rw [hr, hs]
/-- choose.Active behind the scan. -/
theorem queue_ok (f : ByteArray) (good : S25 → Bool) (hg : ∀ x : S25, ∃ e, image_Good.f f x.f1.f0 x.f1.f1 x.f1.f2 x.f1.f3 = some (good x, e)) (xs : List S25) (k : Nat) (hk : xs.length < k) :
  ∃ r, ((ini k (xs.length / 2) xs xs.length).bind fun ys => actL k f xs.length ys) = some (ans r) ∧ Best good (fun x => x ∈ xs) r := by
 obtain ⟨ys, e, l, hh, _, mem⟩ := ini_ok xs.length (xs.length / 2) k xs hk (Nat.le_refl _) (heap_half _ xs)
 obtain ⟨r, e2, hb⟩ := act_ok f good hg xs.length k ys hk l hh
 refine ⟨r, by rw [e]; exact e2, Best_of_iff hb fun x => ?_⟩
 rw [mem x, has_mem]
end Go.Proofs.Ytjadcjkjpkkmkaa.M

/- Plain facts: the sum of a text, by the program and by the reference: the same; no memory in sight. -/
set_option linter.unnecessarySimpa false
set_option linter.unusedSimpArgs false
set_option linter.unusedVariables false
namespace Go.Proofs.Ytjadcjkjpkkmkaa.M
open Go.RowKit Go.Proofs.YtjadcjkjpkkmkaaW.PrintWords Go.Proofs.YtjadcjkjpkkmkaaW.PrintLast Go.Proofs.YtjadcjkjpkkmkaaW.PrintMore Go.Proofs.Ytjadcjkjpkkmkaa.Hand Go.Proofs.Ytjadcjkjpkkmkaa.PAll
abbrev B4 (x : Int) : BitVec 32 := BitVec.ofInt 32 x
theorem wrap32 (b : BitVec 32) : IntKind.u32.wrap (b.toNat : Int) = b.toNat := by
 rw [IntKind.wrap_u32]; have := b.isLt; omega
theorem bits_and_u32 (x y : Int) : Go.bits .and .u32 x y = ((B4 x &&& B4 y).toNat : Int) := wrap32 _
theorem and1_u32 (x : Int) : Go.bits .and .u32 x 1 = 0 ∨ Go.bits .and .u32 x 1 = 1 := by
 rw [bits_and_u32]
 have : (B4 x &&& B4 1).toNat = (B4 x).toNat % 2 := by rw [BitVec.toNat_and, show (B4 1).toNat = 1 from rfl, Nat.and_one_is_mod]
 rw [this]; omega
/-- One bit goes out of the sum. -/
def bitS (x : Int) : Int := if Go.bits .and .u32 x 1 = 0 then x / 2 else Go.bits .xor .u32 (x / 2) 3988292384
def itS : Nat → Int → Int
 | 0, x => x
 | n + 1, x => itS n (bitS x)
theorem stepl (d : Nat) : ∀ (k i : Nat) (x : Int), i + d = 8 → d < k → PBase.crc_step.l0 k x (i : Int) = some (itS d x) := by
 induction d with
 | zero =>
  intro k i x hi hk
  obtain ⟨k, rfl⟩ : ∃ m, k = m + 1 := ⟨k - 1, by omega⟩
  rw [PBase.crc_step.l0, if_neg (by omega)]; rfl
 | succ d ih =>
  intro k i x hi hk
  obtain ⟨k, rfl⟩ : ∃ m, k = m + 1 := ⟨k - 1, by omega⟩
  have hw : wrap64 ((i : Int) + 1) = ((i + 1 : Nat) : Int) := by unfold wrap64; omega
  rw [PBase.crc_step.l0, if_pos (by omega), hw, itS, bitS]
  by_cases c : Go.bits .and .u32 x 1 = 0
  ·rw [if_pos c, if_pos c]; exact ih k (i + 1) _ (by omega) (by omega)
  ·rw [if_neg c, if_neg c]; exact ih k (i + 1) _ (by omega) (by omega)
theorem crcStep_it (x b : Int) : crcStep x b = itS 8 (Go.bits .xor .u32 x (b % 4294967296)) := by
 have h := stepl 8 9 0 (Go.bits .xor .u32 x (b % 4294967296)) (by omega) (by omega)
 have h2 : PBase.crc_step.f 9 x b = some (itS 8 (Go.bits .xor .u32 x (b % 4294967296))) := h
 unfold crcStep
 rw [h2]; rfl
def crcV (s : ByteArray) : Int := wrap64 (Go.bits .xor .u32 IntKind.u32.max (crcL (bytesOf s)))
theorem crc_Sum_eq (s : ByteArray) (h : s.size ≤ 140737488355328) : crc_Sum.f s = some (crcV s) := by
 unfold crc_Sum.f; rw [if_pos h]; rfl
theorem Crc_bits (s : ByteArray) (j : Int) (r : Int) (d : Nat) : ∀ (i : Nat) (x : Int), i + d = 8 → Ev (fun k => skiffref1_Crc.l0 k s (itS d x) (wrap64 (j + 1))) r → Ev (fun k => skiffref1_Crc.l1 k s x j (i : Int)) r := by
 induction d with
 | zero =>
  intro i x hi h
  exact Ev.step (fun k => by rw [skiffref1_Crc.l1, if_neg (by omega)]; rfl) h
 | succ d ih =>
  intro i x hi h
  have hw : wrap64 ((i : Int) + 1) = ((i + 1 : Nat) : Int) := by unfold wrap64; omega
  have h1 := ih (i + 1) (bitS x) (by omega) h
  refine Ev.step (fun k => ?_) h1
  rw [skiffref1_Crc.l1, if_pos (by omega), hw, bitS]
  rcases and1_u32 x with c | c
  ·rw [if_neg (by omega), if_pos c]
  ·rw [if_pos c, if_neg (by omega)]
theorem Crc_go (s : ByteArray) (hs : s.size ≤ 140737488355328) (d : Nat) : ∀ (j : Nat) (x : Int), j + d = s.size → Ev (fun k => skiffref1_Crc.l0 k s x (j : Int)) (wrap64 (Go.bits .xor .u32 IntKind.u32.max (((bytesOf s).drop j).foldl crcStep x))) := by
 induction d with
 | zero =>
  intro j x hj
  refine Ev.one fun k => ?_
  rw [skiffref1_Crc.l0, if_neg (by omega), List.drop_eq_nil_of_le (by rw [bytesOf_length]; omega)]; rfl
 | succ d ih =>
  intro j x hj
  have hl : j < (bytesOf s).length := by rw [bytesOf_length]; omega
  have hw : wrap64 ((j : Int) + 1) = ((j + 1 : Nat) : Int) := by unfold wrap64; omega
  have e : (bytesOf s)[j] = bt s (j : Int) := by
   have := rd_bytesOf s (j : Int)
   rw [← this]; simp [rd, List.getElem?_eq_getElem hl]
  have h1 := ih (j + 1) (crcStep x (bt s (j : Int))) (by omega)
  rw [List.drop_eq_getElem_cons hl, List.foldl_cons, e]
  refine Ev.step (fun k => by rw [skiffref1_Crc.l0, if_pos (by omega), if_pos (by omega)]) ?_
  refine Crc_bits s (j : Int) _ 8 0 _ rfl ?_
  rw [hw, ← crcStep_it]
  exact h1
theorem Crc_ev (s : ByteArray) (hs : s.size ≤ 140737488355328) : Ev (fun k => skiffref1_Crc.f k s) (crcV s) := by
 unfold skiffref1_Crc.f crcV crcL
 exact Crc_go s hs s.size 0 4294967295 (by omega)
end Go.Proofs.Ytjadcjkjpkkmkaa.M

/- Plain facts: which record is active, by the program and by the reference: the same; no memory in sight. -/
set_option linter.unnecessarySimpa false
set_option linter.unusedSimpArgs false
set_option linter.unusedVariables false
namespace Go.Proofs.Ytjadcjkjpkkmkaa.M
open Go.RowKit Go.Proofs.YtjadcjkjpkkmkaaW.PrintWords Go.Proofs.YtjadcjkjpkkmkaaW.PrintLast Go.Proofs.YtjadcjkjpkkmkaaW.PrintMore Go.Proofs.Ytjadcjkjpkkmkaa.Hand Go.Proofs.Ytjadcjkjpkkmkaa.PAll
/-- The bytes of a slot, so many. -/
def imgF (f : ByteArray) (sl sz : Int) : ByteArray := f.extract (192 + 288 * sl).toNat (192 + 288 * sl + sz).toNat
def goodV (f : ByteArray) (q sl sz sm : Int) : Bool × Int := if f.size = 768 ∧ recMay q sl sz sm = true then (crcV (imgF f sl sz) == sm, 0) else (false, 600)
def ofV (f : ByteArray) (q sl sz sm : Int) : ByteArray × Int := if f.size = 768 ∧ recMay q sl sz sm = true then (imgF f sl sz, 0) else (⟨#[]⟩, 600)
theorem recMay_bounds {q sl sz sm : Int} (h : recMay q sl sz sm = true) : 1 ≤ q ∧ q ≤ 1048576 ∧ 0 ≤ sl ∧ sl ≤ 1 ∧ 1 ≤ sz ∧ sz ≤ 288 ∧ 0 ≤ sm ∧ sm ≤ 4294967295 := of_decide_eq_true h
theorem imgF_size (f : ByteArray) (sl sz : Int) : (imgF f sl sz).size ≤ f.size := by unfold imgF; rw [ByteArray.size_extract]; omega
theorem base_eq {sl : Int} (h0 : 0 ≤ sl) (h1 : sl ≤ 1) : wrap64 ((wrap64 (2 + (wrap64 (3 * sl)))) * 96) = 192 + 288 * sl := by
 rw [wrap_id (x := 3 * sl) (by omega), wrap_id (x := 2 + 3 * sl) (by omega), wrap_id (by omega)]; omega
theorem image_Of_eq (f : ByteArray) (q sl sz sm : Int) : PSc.image_Of.f f q sl sz sm = some (ofV f q sl sz sm) := by
 unfold PSc.image_Of.f PSc.nor_May.f ofV
 simp only [Option.bind_some, May_eq]
 by_cases h : f.size = 768
 ·have e : ((f.size : Int) == 768) = true := by simp; omega
  simp only [e, if_true]
  by_cases hr : recMay q sl sz sm = true
  ·obtain ⟨_, _, s0, s1, z0, z1, _, _⟩ := recMay_bounds hr
   simp only [hr, if_true]
   unfold PSc.image_Base.f PSc.entry_Slot.f PSc.image_Sector.f PSc.journal_Begin.f
   simp only [in_eq, Option.bind_some]
   rw [if_pos (by simpa using ⟨s0, s1⟩), if_pos ⟨h, trivial⟩]
   simp only [Option.bind_some, base_eq s0 s1, wrap_id (x := 192 + 288 * sl + sz) (by omega)]
   rw [if_pos (by omega), if_pos (by omega), if_pos (by omega)]; rfl
  ·rw [if_neg hr, if_neg (fun x => hr x.2)]
 ·have e : ((f.size : Int) == 768) = false := by simp; omega
  rw [e, if_neg (by decide), if_neg (fun x => h x.1)]
theorem image_Good_eq (f : ByteArray) (q sl sz sm : Int) : PSc.image_Good.f f q sl sz sm = some (goodV f q sl sz sm) := by
 unfold PSc.image_Good.f
 rw [image_Of_eq, Option.bind_some]
 unfold ofV goodV
 by_cases h : f.size = 768 ∧ recMay q sl sz sm = true
 ·have := imgF_size f sl sz
  rw [if_pos h, if_pos h]
  simp only [if_true]
  rw [crc_Sum_eq _ (by omega)]; rfl
 ·rw [if_neg h, if_neg h]; rfl
theorem ref_Of_eq (f : ByteArray) (q sl sz sm : Int) : skiffref1_ImageOf.f f q sl sz sm = some (ofV f q sl sz sm) := by
 unfold skiffref1_ImageOf.f skiffref1_FlashMay.f ofV
 simp only [Option.bind_some, RecordMay_eq]
 by_cases h : f.size = 768
 ·have e : ((f.size : Int) == 768) = true := by simp; omega
  simp only [e, if_true]
  by_cases hr : recMay q sl sz sm = true
  ·obtain ⟨_, _, s0, s1, z0, z1, _, _⟩ := recMay_bounds hr
   simp only [hr, if_true]
   unfold skiffref1_Base.f
   simp only [upTo_eq, Option.bind_some]
   rw [if_pos (by simpa using ⟨s0, s1⟩), if_pos ⟨h, trivial⟩]
   simp only [Option.bind_some, base_eq s0 s1, wrap_id (x := 192 + 288 * sl + sz) (by omega)]
   rw [if_pos (by omega), if_pos (by omega), if_pos (by omega)]; rfl
  ·rw [if_neg hr, if_neg (fun x => hr x.2)]
 ·have e : ((f.size : Int) == 768) = false := by simp; omega
  rw [e, if_neg (by decide), if_neg (fun x => h x.1)]
theorem ref_Good_ev (f : ByteArray) (q sl sz sm : Int) : Ev (fun k => skiffref1_Good.f k f q sl sz sm) (goodV f q sl sz sm) := by
 unfold skiffref1_Good.f
 rw [ref_Of_eq]
 simp only [Option.bind_some]
 unfold ofV goodV
 by_cases h : f.size = 768 ∧ recMay q sl sz sm = true
 ·have := imgF_size f sl sz
  simp only [if_pos h, if_true]
  exact Ev.bind (Crc_ev _ (by omega)) (Ev.now _)
 ·simp only [if_neg h]
  exact Ev.now _
/-- Is a place's record good? -/
def good (f : ByteArray) (x : S25) : Bool := (goodV f x.f1.f0 x.f1.f1 x.f1.f2 x.f1.f3).1
def goodSc (f : ByteArray) (x : PSc.S25) : Bool := (goodV f x.f1.f0 x.f1.f1 x.f1.f2 x.f1.f3).1
def pickS (p : S25 → Bool) (b : Option S25) (x : S25) : Option S25 := if p x = true then (match b with | none => some x | some y => if x.f1.f0 ≥ y.f1.f0 then some x else some y) else b
/-- The greatest of those that are good; of these the last one. -/
def pick (p : S25 → Bool) (l : List S25) : Option S25 := l.foldl (pickS p) none
def ansV : Option S25 → Int × Int × Int × Int × Int × Int
 | some x => (x.f0, x.f1.f0, x.f1.f1, x.f1.f2, x.f1.f3, 0)
 | none => (0, 0, 0, 0, 0, 701)
def act (f : ByteArray) : Option S25 := pick (good f) (scanL f 8)
def actV (f : ByteArray) : Int × Int × Int × Int × Int × Int := if f.size = 768 then ansV (act f) else (0, 0, 0, 0, 0, 700)
/-- What pick gives: as Best, without the heap. -/
def Top (p : S25 → Bool) (P : S25 → Prop) (r : Option S25) : Prop :=
 (∃ x, r = some x ∧ P x ∧ p x = true ∧ ∀ y, P y → p y = true → y.f1.f0 < x.f1.f0 ∨ (y.f1.f0 = x.f1.f0 ∧ y.f0 ≤ x.f0)) ∨ (r = none ∧ ∀ y, P y → p y = false)
theorem Top_one {p : S25 → Bool} {P : S25 → Prop} {r s : Option S25} (hP : ∀ x y, P x → P y → x.f0 = y.f0 → x = y) (h1 : Top p P r) (h2 : Top p P s) : r = s := by
 rcases h1 with ⟨x, hr, hx, hgx, hmx⟩ | ⟨hr, hn⟩ <;> rcases h2 with ⟨y, hs, hy, hgy, hmy⟩ | ⟨hs, hn2⟩
 ·have a := hmx y hy hgy
  have b := hmy x hx hgx
  have : x.f0 = y.f0 := by omega
  rw [hr, hs, hP x y hx hy this]
 ·rw [hn2 x hx] at hgx; cases hgx
 ·rw [hn y hy] at hgy; cases hgy
 ·rw [hr, hs]
theorem Top_snoc {p : S25 → Bool} {l : List S25} {b : Option S25} {x : S25} (h : Top p (fun y => y ∈ l) b) (hx : ∀ y, y ∈ l → y.f0 ≤ x.f0) : Top p (fun y => y ∈ l ++ [x]) (pickS p b x) := by
 have mem : ∀ y, y ∈ l ++ [x] ↔ y ∈ l ∨ y = x := fun y => by simp
 unfold pickS
 by_cases c : p x = true
 ·rw [if_pos c]
  rcases h with ⟨z, rfl, hz, hgz, hmax⟩ | ⟨rfl, hno⟩
  ·show Top p _ (if x.f1.f0 ≥ z.f1.f0 then some x else some z)
   by_cases c2 : x.f1.f0 ≥ z.f1.f0
   ·rw [if_pos c2]
    refine Or.inl ⟨x, rfl, (mem x).2 (Or.inr rfl), c, fun y hy hgy => ?_⟩
    rcases (mem y).1 hy with h1 | rfl
    ·have := hmax y h1 hgy; have := hx y h1; have := hx z hz; omega
    ·omega
   ·rw [if_neg c2]
    refine Or.inl ⟨z, rfl, (mem z).2 (Or.inl hz), hgz, fun y hy hgy => ?_⟩
    rcases (mem y).1 hy with h1 | rfl
    ·exact hmax y h1 hgy
    ·omega
  ·refine Or.inl ⟨x, rfl, (mem x).2 (Or.inr rfl), c, fun y hy hgy => ?_⟩
   rcases (mem y).1 hy with h1 | rfl
   ·rw [hno y h1] at hgy; cases hgy
   ·omega
 ·rw [if_neg c]
  rcases h with ⟨z, rfl, hz, hgz, hmax⟩ | ⟨rfl, hno⟩
  ·refine Or.inl ⟨z, rfl, (mem z).2 (Or.inl hz), hgz, fun y hy hgy => ?_⟩
   rcases (mem y).1 hy with h1 | rfl
   ·exact hmax y h1 hgy
   ·exact absurd hgy c
  ·refine Or.inr ⟨rfl, fun y hy => ?_⟩
   rcases (mem y).1 hy with h1 | rfl
   ·exact hno y h1
   ·simpa using c
theorem Top_fold {p : S25 → Bool} : ∀ (l2 l1 : List S25) (b : Option S25), (l1 ++ l2).Pairwise (fun a b => a.f0 < b.f0) → Top p (fun y => y ∈ l1) b → Top p (fun y => y ∈ l1 ++ l2) (l2.foldl (pickS p) b)
 | [], l1, b, _, h => by rw [List.append_nil]; exact h
 | x :: l2, l1, b, hs, h => by
  have e : l1 ++ x :: l2 = (l1 ++ [x]) ++ l2 := by simp
  rw [e] at hs ⊢
  have h1 : (l1 ++ [x]).Pairwise (fun a b => a.f0 < b.f0) := (List.pairwise_append.1 hs).1
  have h2 := (List.pairwise_append.1 h1).2.2
  exact Top_fold l2 (l1 ++ [x]) _ hs (Top_snoc h fun y hy => Int.le_of_lt (h2 y hy x (by simp)))
theorem pick_Top {p : S25 → Bool} {l : List S25} (h : l.Pairwise (fun a b => a.f0 < b.f0)) : Top p (fun y => y ∈ l) (pick p l) := by
 have := Top_fold (p := p) l [] none (by simpa using h) (Or.inr ⟨rfl, fun y hy => by simp at hy⟩)
 simpa [pick] using this
theorem mem_told {j : Nat} {g : Int × Int × Int × Int × Int} {x : S25} : x ∈ told j g ↔ g.2.2.2.2 = 0 ∧ x = ⟨24 * (j : Int), ⟨g.1, g.2.1, g.2.2.1, g.2.2.2.1⟩⟩ := by
 unfold told
 by_cases h : g.2.2.2.2 = 0
 ·rw [if_pos h]; simp [h]
 ·rw [if_neg h]; simp [h]
theorem mem_scanL {f : ByteArray} {n : Nat} {x : S25} : x ∈ scanL f n ↔ ∃ j, j < n ∧ x ∈ told j (getV (pl f j)) := by
 induction n with
 | zero => simp [scanL]
 | succ n ih =>
  rw [scanL, List.mem_append, ih]
  constructor
  ·rintro (⟨j, hj, h⟩ | h)
   ·exact ⟨j, by omega, h⟩
   ·exact ⟨n, by omega, h⟩
  ·rintro ⟨j, hj, h⟩
   by_cases c : j = n
   ·subst c; exact Or.inr h
   ·exact Or.inl ⟨j, by omega, h⟩
theorem scanL_at {f : ByteArray} {n : Nat} {x : S25} (h : x ∈ scanL f n) : ∃ j : Nat, j < n ∧ x.f0 = 24 * (j : Int) ∧ (getV (pl f j)) = (x.f1.f0, x.f1.f1, x.f1.f2, x.f1.f3, 0) := by
 obtain ⟨j, hj, hx⟩ := mem_scanL.1 h
 obtain ⟨h0, rfl⟩ := mem_told.1 hx
 refine ⟨j, hj, rfl, ?_⟩
 show getV (pl f j) = ((getV (pl f j)).1, (getV (pl f j)).2.1, (getV (pl f j)).2.2.1, (getV (pl f j)).2.2.2.1, 0)
 rw [← h0]
theorem scanL_sorted (f : ByteArray) (n : Nat) : (scanL f n).Pairwise (fun a b => a.f0 < b.f0) := by
 induction n with
 | zero => exact List.Pairwise.nil
 | succ n ih =>
  rw [scanL, List.pairwise_append]
  refine ⟨ih, ?_, fun a ha b hb => ?_⟩
  ·unfold told; split
   ·exact List.pairwise_singleton _ _
   ·exact List.Pairwise.nil
  ·obtain ⟨j, hj, e, _⟩ := scanL_at ha
   obtain ⟨_, rfl⟩ := mem_told.1 hb
   show a.f0 < 24 * (n : Int)
   omega
theorem scanL_one {f : ByteArray} {n : Nat} {x y : S25} (hx : x ∈ scanL f n) (hy : y ∈ scanL f n) (h : x.f0 = y.f0) : x = y := by
 obtain ⟨i, hi, h1⟩ := mem_scanL.1 hx
 obtain ⟨j, hj, h2⟩ := mem_scanL.1 hy
 obtain ⟨_, rfl⟩ := mem_told.1 h1
 obtain ⟨_, rfl⟩ := mem_told.1 h2
 have : i = j := by
  have h' : 24 * (i : Int) = 24 * (j : Int) := h
  omega
 subst this; rfl
theorem getV_may {s : ByteArray} {q sl sz sm : Int} (h : getV s = (q, sl, sz, sm, 0)) : recMay q sl sz sm = true := by
 unfold getV at h
 by_cases c : getOk s
 ·rw [if_pos c] at h
  injection h with h1 h; injection h with h2 h; injection h with h3 h; injection h with h4 h
  rw [← h1, ← h2, ← h3, ← h4]; exact c.2.2
 ·rw [if_neg c] at h
  injection h with h1 h; injection h with h2 h; injection h with h3 h; injection h with h4 h
  exact absurd h (by decide)
theorem scanL_may {f : ByteArray} {n : Nat} {x : S25} (h : x ∈ scanL f n) : recMay x.f1.f0 x.f1.f1 x.f1.f2 x.f1.f3 = true := by
 obtain ⟨j, _, _, e⟩ := scanL_at h; exact getV_may e
theorem act_Top (f : ByteArray) : Top (good f) (fun x => x ∈ scanL f 8) (act f) := pick_Top (scanL_sorted f 8)
theorem act_mem {f : ByteArray} {x : S25} (h : act f = some x) : x ∈ scanL f 8 ∧ good f x = true ∧ ∀ y, y ∈ scanL f 8 → good f y = true → y.f1.f0 < x.f1.f0 ∨ (y.f1.f0 = x.f1.f0 ∧ y.f0 ≤ x.f0) := by
 rcases act_Top f with ⟨z, hr, hz, hgz, hmax⟩ | ⟨hr, _⟩
 ·rw [h] at hr; injection hr with hr; subst hr; exact ⟨hz, hgz, hmax⟩
 ·rw [h] at hr; cases hr
theorem act_none {f : ByteArray} (h : act f = none) : ∀ y, y ∈ scanL f 8 → good f y = false := by
 rcases act_Top f with ⟨z, hr, _⟩ | ⟨_, hno⟩
 ·rw [h] at hr; cases hr
 ·exact hno
theorem toSc_Best {f : ByteArray} {l : List S25} {r : Option S25} (h : Top (good f) (fun x => x ∈ l) r) : Best (goodSc f) (fun x => x ∈ l.map toSc) (r.map toSc) := by
 rcases h with ⟨x, rfl, hx, hgx, hmax⟩ | ⟨rfl, hno⟩
 ·refine Or.inl ⟨toSc x, rfl, List.mem_map_of_mem hx, hgx, fun y hy hgy => ?_⟩
  obtain ⟨z, hz, rfl⟩ := List.mem_map.1 hy
  exact hmax z hz hgy
 ·refine Or.inr ⟨rfl, fun y hy => ?_⟩
  obtain ⟨z, hz, rfl⟩ := List.mem_map.1 hy
  exact hno z hz
theorem ans_toSc (r : Option S25) : ans (r.map toSc) = ansV r := by cases r <;> rfl
theorem Active_ev (f : ByteArray) : Ev (fun k => choose_Active.f k f) (actV f) := by
 have hs := Scan_ev f
 unfold choose_Active.f
 refine Ev.bind hs ?_
 unfold scanV actV
 by_cases h : f.size = 768
 ·simp only [if_pos h, if_true]
  have hl := scanL_length f 8
  have hl2 : ((scanL f 8).map toSc).length ≤ 999 := by rw [List.length_map]; omega
  simp only [if_pos hl2]
  have hg : ∀ x : PSc.S25, ∃ e, PSc.image_Good.f f x.f1.f0 x.f1.f1 x.f1.f2 x.f1.f3 = some (goodSc f x, e) := fun x => ⟨_, image_Good_eq f _ _ _ _⟩
  refine ⟨9, fun k hk => ?_⟩
  obtain ⟨r, e, hb⟩ := queue_ok f (goodSc f) hg ((scanL f 8).map toSc) k (by rw [List.length_map]; omega)
  have hb2 := toSc_Best (act_Top f)
  have : r = (act f).map toSc := Best_one (fun x y hx hy hxy => by
   obtain ⟨a, ha, rfl⟩ := List.mem_map.1 hx
   obtain ⟨b, hb, rfl⟩ := List.mem_map.1 hy
   rw [scanL_one ha hb hxy]) hb hb2
  rw [this, ans_toSc] at e
  exact e
 ·simp only [if_neg h, show ¬ ((500 : Int) = 0) by decide, if_false]
  exact Ev.now _
theorem rd25 (l : List S25) (i : Nat) (h : i < l.length) : rd_T25 l (i : Int) = l[i] := by simp [rd_T25, List.getD_eq_getElem?_getD, List.getElem?_eq_getElem h]
/-- The slot that is not the active one's. -/
def othV (f : ByteArray) : Int × Int := if f.size = 768 then (match act f with | some x => (1 - x.f1.f1, 0) | none => (0, 0)) else (0, 700)
theorem Other_ev (f : ByteArray) : Ev (fun k => choose_Other.f k f) (othV f) := by
 unfold choose_Other.f
 refine Ev.bind (Active_ev f) ?_
 unfold actV othV
 by_cases h : f.size = 768
 ·simp only [if_pos h]
  cases ha : act f with
  | none => exact Ev.now _
  | some x =>
   obtain ⟨_, _, s0, s1, _⟩ := recMay_bounds (scanL_may (act_mem ha).1)
   simp only [ansV, if_true, if_neg (show ¬ ((0 : Int) = 700) by decide), wrap_id (x := 1 - x.f1.f1) (by omega)]
   exact Ev.now _
 ·simp only [if_neg h, if_true]
  exact Ev.now _
end Go.Proofs.Ytjadcjkjpkkmkaa.M

/- Plain facts: what every program answers that is one, of package choose; no memory in sight. -/
set_option linter.unnecessarySimpa false
set_option linter.unusedSimpArgs false
set_option linter.unusedVariables false
namespace Go.Proofs.Ytjadcjkjpkkmkaa.M
open Go.RowKit Go.Proofs.YtjadcjkjpkkmkaaW.PrintWords Go.Proofs.YtjadcjkjpkkmkaaW.PrintLast Go.Proofs.YtjadcjkjpkkmkaaW.PrintMore Go.Proofs.Ytjadcjkjpkkmkaa.Hand Go.Proofs.Ytjadcjkjpkkmkaa.PAll
theorem Num_eq (x : Int) : skifflaw0_Num.f x = some x := rfl
theorem held7_l1 (l : List S87) (hl : l.length ≤ 1000) (d : Nat) : ∀ (i : Nat) (F : ByteArray), i + d = l.length → Ev (fun k => skifflaw7_held.l1 k F l (i : Int)) (doL F (l.drop i)) := by
 induction d with
 | zero =>
  intro i F hi
  obtain rfl : i = l.length := by omega
  rw [doL_end]
  exact Ev.one fun k => by rw [skifflaw7_held.l1, if_neg (by omega)]
 | succ d ih =>
  intro i F hi
  rw [doL_at F l i (by omega)]
  have w : wrap64 ((i : Int) + 1) = ((i + 1 : Nat) : Int) := by rw [wrap_id (by omega)]; omega
  refine Ev.step (fun k => by rw [skifflaw7_held.l1, if_pos (by omega), if_pos (by omega), w]) ?_
  refine Ev.bind (ref_Do_ev F _ _ _) ?_
  exact ih (i + 1) _ (by omega)
theorem held7_l0 (l : List S87) (hl : l.length ≤ 1000) (r : ByteArray) (hr : Ev (fun k => skifflaw7_held.l0 k (doL (ff 768) l) l (l.length : Int)) r) (d : Nat) : ∀ (i : Nat) (F : ByteArray), i + d = l.length → doL F (l.drop i) = doL (ff 768) l → Ev (fun k => skifflaw7_held.l0 k F l (i : Int)) r := by
 induction d with
 | zero =>
  intro i F hi he
  obtain rfl : i = l.length := by omega
  rw [doL_end] at he
  rw [he]; exact hr
 | succ d ih =>
  intro i F hi he
  rw [doL_at F l i (by omega)] at he
  have w : wrap64 ((i : Int) + 1) = ((i + 1 : Nat) : Int) := by rw [wrap_id (by omega)]; omega
  refine Ev.step (fun k => by rw [skifflaw7_held.l0, if_pos (by omega), if_pos (by omega), w]) ?_
  refine Ev.bind (ref_Do_ev F _ _ _) ?_
  exact ih (i + 1) _ (by omega) he
theorem held7 : Ev (fun k => skifflaw7_held.f k) heldF := by
 have hw := ref_Words_ev 192 ab (by omega) (by rw [ab_size]; omega)
 rw [wordsV_ab] at hw
 unfold skifflaw7_held.f
 refine Ev.bind Blank_ev ?_
 refine Ev.bind hw ?_
 have hl : (wl (192 : Nat) ab (many ab)).length ≤ 1000 := by rw [wl_length, ab_many]; omega
 refine held7_l0 _ hl heldF ?_ (wl (192 : Nat) ab (many ab)).length 0 (ff 768) (by omega) rfl
 refine Ev.step (fun k => by rw [skifflaw7_held.l0, if_neg (by omega)]) ?_
 refine Ev.bind RecordOf_held1 ?_
 refine Ev.bind Append_held1 ?_
 have hl2 : (wl (0 : Nat) rec1 (many rec1)).length ≤ 1000 := by rw [wl_length, rec1_many]; omega
 exact held7_l1 _ hl2 (wl (0 : Nat) rec1 (many rec1)).length 0 held1 (by omega)
theorem Ev.same {α : Type} {g : Nat → Option α} {r s : α} (h1 : Ev g r) (h2 : Ev g s) : r = s := by
 obtain ⟨a, ha⟩ := h1; obtain ⟨b, hb⟩ := h2
 have e1 := ha (max a b) (Nat.le_max_left _ _)
 have e2 := hb (max a b) (Nat.le_max_right _ _)
 rw [e1] at e2; exact Option.some.inj e2
theorem crcV_ab : crcV ab = abSum := Ev.same (Crc_ev ab (by rw [ab_size]; omega)) ab_crc
theorem imgF_at (f : ByteArray) (sz : Int) (n : Nat) (h : sz = (n : Int)) : imgF f 0 sz = f.extract 192 (192 + n) := by
 subst h; unfold imgF; congr 1
theorem heldF_ab : imgF heldF 0 12 = ab := by
 rw [imgF_at heldF 12 12 rfl]
 apply bt_ext
 ·rw [ByteArray.size_extract, heldF_size, ab_size]; omega
 ·intro i hi
  rw [ByteArray.size_extract, heldF_size] at hi
  rw [bt_extract _ _ _ _ (by rw [heldF_size]; omega), heldF_bt _ (by omega), if_neg (by omega), if_pos (by omega), show 192 + i - 192 = i by omega]
theorem good_of (f : ByteArray) (x : S25) (q sl sz sm : Int) (hs : f.size = 768) (hx : x.f1 = ⟨q, sl, sz, sm⟩) (hr : recMay q sl sz sm = true) : good f x = (crcV (imgF f sl sz) == sm) := by
 unfold good goodV
 rw [hx]
 show (if f.size = 768 ∧ recMay q sl sz sm = true then (crcV (imgF f sl sz) == sm, (0 : Int)) else (false, 600)).1 = _
 rw [if_pos ⟨hs, hr⟩]
theorem good_held : good heldF place1 = true := by
 rw [good_of heldF place1 1 0 12 abSum heldF_size rfl rec1_may, heldF_ab, crcV_ab]
 exact beq_self_eq_true _
theorem pick_one (p : S25 → Bool) (x : S25) (h : p x = true) : pick p [x] = some x := by
 show pickS p none x = _
 unfold pickS; rw [if_pos h]
theorem act_held : act heldF = some place1 := by
 unfold act
 rw [scanL_heldF 8 (by omega) (by omega)]
 exact pick_one _ _ good_held
theorem actV_some {f : ByteArray} {x : S25} (hs : f.size = 768) (h : act f = some x) : actV f = (x.f0, x.f1.f0, x.f1.f1, x.f1.f2, x.f1.f3, 0) := by unfold actV; rw [if_pos hs, h]; rfl
theorem actV_none {f : ByteArray} (hs : f.size = 768) (h : act f = none) : actV f = (0, 0, 0, 0, 0, 701) := by unfold actV; rw [if_pos hs, h]; rfl
theorem othV_some {f : ByteArray} {x : S25} (hs : f.size = 768) (h : act f = some x) : othV f = (1 - x.f1.f1, 0) := by unfold othV; rw [if_pos hs, h]
theorem othV_none {f : ByteArray} (hs : f.size = 768) (h : act f = none) : othV f = (0, 0) := by unfold othV; rw [if_pos hs, h]
theorem actV_held : actV heldF = (0, 1, 0, 12, abSum, 0) := actV_some heldF_size act_held
theorem othV_held : othV heldF = (1, 0) := othV_some heldF_size act_held
theorem act_blank : act (ff 768) = none := by
 unfold act
 rw [scanL_blank (ff 768) 8 (fun j hj => pl_blank _ j (ff_size 768) hj (fun i h1 h2 => ff_bt 768 i (by omega)))]; rfl
theorem actV_blank : actV (ff 768) = (0, 0, 0, 0, 0, 701) := actV_none (ff_size 768) act_blank
theorem othV_blank : othV (ff 768) = (0, 0) := othV_none (ff_size 768) act_blank
theorem actV_empty : actV ⟨#[]⟩ = (0, 0, 0, 0, 0, 700) := by unfold actV; rw [if_neg (by decide)]
theorem awake7 : Ev (fun k => skifflaw7_awake.f k) true := by
 have h1 := Active_ev heldF
 rw [actV_held] at h1
 have h2 := Other_ev heldF
 rw [othV_held] at h2
 have h3 := Active_ev (ff 768)
 rw [actV_blank] at h3
 have h4 := Other_ev (ff 768)
 rw [othV_blank] at h4
 have h5 := Active_ev ⟨#[]⟩
 rw [actV_empty] at h5
 unfold skifflaw7_awake.f
 refine Ev.bind held7 (Ev.bind h1 (Ev.bind held7 (Ev.bind h2 (Ev.bind Blank_ev (Ev.bind h3 (Ev.bind Blank_ev (Ev.bind h4 (Ev.bind h5 ?_))))))))
 exact Ev.always fun k => by
  simp only [Num_eq, Option.bind_some]
  rw [if_pos (by decide), if_pos (by decide), if_pos (by decide), if_pos (by decide), if_pos (by decide), if_pos (by decide), if_pos (by decide), if_pos (by decide)]
  simp
end Go.Proofs.Ytjadcjkjpkkmkaa.M

/- Plain facts: what of a flash the active record hangs on; no memory in sight. -/
set_option linter.unnecessarySimpa false
set_option linter.unusedSimpArgs false
set_option linter.unusedVariables false
namespace Go.Proofs.Ytjadcjkjpkkmkaa.M
open Go.RowKit Go.Proofs.YtjadcjkjpkkmkaaW.PrintWords Go.Proofs.YtjadcjkjpkkmkaaW.PrintLast Go.Proofs.YtjadcjkjpkkmkaaW.PrintMore Go.Proofs.Ytjadcjkjpkkmkaa.Hand Go.Proofs.Ytjadcjkjpkkmkaa.PAll
theorem pl_same {f f' : ByteArray} (h1 : f.size = 768) (h2 : f'.size = 768) (h : ∀ i : Nat, i < 192 → bt f' (i : Int) = bt f (i : Int)) (j : Nat) (hj : j < 8) : pl f' j = pl f j := by
 apply bt_ext
 ·rw [pl_size _ _ h2 hj, pl_size _ _ h1 hj]
 ·intro i hi
  rw [pl_size _ _ h2 hj] at hi
  rw [pl_bt _ _ h2 hj i hi, pl_bt _ _ h1 hj i hi]
  exact h _ (by omega)
theorem scanL_same {f f' : ByteArray} (h1 : f.size = 768) (h2 : f'.size = 768) (h : ∀ i : Nat, i < 192 → bt f' (i : Int) = bt f (i : Int)) (n : Nat) (hn : n ≤ 8) : scanL f' n = scanL f n := by
 induction n with
 | zero => rfl
 | succ n ih => rw [scanL, scanL, ih (by omega), pl_same h1 h2 h n (by omega)]
theorem imgF_same {f f' : ByteArray} (h1 : f.size = 768) (h2 : f'.size = 768) (sl sz : Int) (s0 : 0 ≤ sl) (s1 : sl ≤ 1) (z0 : 1 ≤ sz) (z1 : sz ≤ 288) (h : ∀ i : Nat, 192 + 288 * sl ≤ (i : Int) → (i : Int) < 192 + 288 * sl + sz → bt f' (i : Int) = bt f (i : Int)) : imgF f' sl sz = imgF f sl sz := by
 unfold imgF
 apply bt_ext
 ·rw [ByteArray.size_extract, ByteArray.size_extract, h1, h2]
 ·intro i hi
  rw [ByteArray.size_extract, h2] at hi
  rw [bt_extract _ _ _ _ (by omega), bt_extract _ _ _ _ (by omega)]
  exact h _ (by omega) (by omega)
theorem good_same {f f' : ByteArray} (h1 : f.size = 768) (h2 : f'.size = 768) (x : S25) (hm : recMay x.f1.f0 x.f1.f1 x.f1.f2 x.f1.f3 = true) (h : ∀ i : Nat, 192 + 288 * x.f1.f1 ≤ (i : Int) → (i : Int) < 192 + 288 * x.f1.f1 + 288 → bt f' (i : Int) = bt f (i : Int)) : good f' x = good f x := by
 obtain ⟨_, _, s0, s1, z0, z1, _, _⟩ := recMay_bounds hm
 rw [good_of f' x _ _ _ _ h2 rfl hm, good_of f x _ _ _ _ h1 rfl hm, imgF_same h1 h2 _ _ s0 s1 z0 z1 (fun i a b => h i a (by omega))]
/-- The other slot turned: the active one is still good. -/
structure Stays (f f' : ByteArray) (x : S25) : Prop where
 scan : scanL f' 8 = scanL f 8
 mine : good f' x = true
 same : ∀ y, y ∈ scanL f 8 → y.f1.f1 = x.f1.f1 → good f' y = good f y
theorem stays {f f' : ByteArray} {x : S25} (h1 : f.size = 768) (h2 : f'.size = 768) (hx : act f = some x) (h : ∀ i : Nat, i < 768 → ¬ (192 + 288 * (1 - x.f1.f1) ≤ (i : Int) ∧ (i : Int) < 192 + 288 * (1 - x.f1.f1) + 288) → bt f' (i : Int) = bt f (i : Int)) : Stays f f' x := by
 obtain ⟨m, g, _⟩ := act_mem hx
 obtain ⟨_, _, s0, s1, _⟩ := recMay_bounds (scanL_may m)
 have far : ∀ y : S25, y ∈ scanL f 8 → y.f1.f1 = x.f1.f1 → good f' y = good f y := fun y hy e => good_same h1 h2 y (scanL_may hy) (fun i a b => h i (by omega) (by omega))
 exact ⟨scanL_same h1 h2 (fun i hi => h i (by omega) (by omega)) 8 (by omega), by rw [far x m rfl]; exact g, far⟩
theorem Stays.is {f f' : ByteArray} {x : S25} (h : Stays f f' x) (hx : act f = some x) : ∃ y, act f' = some y := by
 cases e : act f' with
 | some y => exact ⟨y, rfl⟩
 | none =>
  have := act_none e x (by rw [h.scan]; exact (act_mem hx).1)
  rw [h.mine] at this; cases this
theorem Stays.best {f f' : ByteArray} {x : S25} (h : Stays f f' x) (hx : act f = some x) (hb : ∀ y, y ∈ scanL f 8 → good f' y = true → y.f1.f0 < x.f1.f0 ∨ (y.f1.f0 = x.f1.f0 ∧ y.f0 ≤ x.f0)) : M.act f' = some x := by
 refine (Top_one (fun a b ha hb => scanL_one ha hb) (act_Top f') ?_).trans rfl
 exact Or.inl ⟨x, rfl, by rw [h.scan]; exact (act_mem hx).1, h.mine, fun y hy => hb y (by rw [← h.scan]; exact hy)⟩
end Go.Proofs.Ytjadcjkjpkkmkaa.M

/- ChooseOther: the other slot may be turned, the active record stays: told of plain numbers and lists, no memory in sight. -/
set_option linter.unusedSimpArgs false
set_option linter.unusedVariables false
namespace Go.Proofs.Ytjadcjkjpkkmkaa.Pure
open Go.RowKit Go.Proofs.Ytjadcjkjpkkmkaa.PAll Go.Proofs.YtjadcjkjpkkmkaaW.PrintWords Go.Proofs.YtjadcjkjpkkmkaaW.PrintLast Go.Proofs.YtjadcjkjpkkmkaaW.PrintMore Go.Proofs.Ytjadcjkjpkkmkaa.M
theorem ne_chain (y x : S25) : ((!(y.f0 == x.f0) || ((!(y.f1.f0 == x.f1.f0) || (!(y.f1.f1 == x.f1.f1) || (!(y.f1.f2 == x.f1.f2) || (!(y.f1.f3 == x.f1.f3)))))))) = true ↔ y ≠ x := by
 obtain ⟨a, b, c, d, e⟩ := y
 obtain ⟨a', b', c', d', e'⟩ := x
 by_cases h1 : a = a' <;> by_cases h2 : b = b' <;> by_cases h3 : c = c' <;> by_cases h4 : d = d' <;> by_cases h5 : e = e' <;> simp [h1, h2, h3, h4, h5]
theorem other_go (f : ByteArray) (o : Int) (x : S25) (l : List S25) (hl : l.length ≤ 1000)
  (hr : (∀ y, y ∈ l → good f y = true → y ≠ x → y.f1.f0 < x.f1.f0) → Ev (fun k => skifflaw7_ChooseOther.l0 k o f l (l.length : Int) x.f0 x.f1.f0 x.f1.f1 x.f1.f2 x.f1.f3) true) (d : Nat) :
  ∀ (i : Nat), i + d = l.length → (∀ y, y ∈ l.take i → good f y = true → y ≠ x → y.f1.f0 < x.f1.f0) → Ev (fun k => skifflaw7_ChooseOther.l0 k o f l (i : Int) x.f0 x.f1.f0 x.f1.f1 x.f1.f2 x.f1.f3) true := by
 induction d with
 | zero =>
  intro i hi hb
  obtain rfl : i = l.length := by omega
  rw [List.take_length] at hb
  exact hr hb
 | succ d ih =>
  intro i hi hb
  have hil : i < l.length := by omega
  have w : wrap64 ((i : Int) + 1) = ((i + 1 : Nat) : Int) := by rw [wrap_id (by omega)]; omega
  have next : (good f (rd_T25 l (i : Int)) = true → rd_T25 l (i : Int) ≠ x → (rd_T25 l (i : Int)).f1.f0 < x.f1.f0) → ∀ y, y ∈ l.take (i + 1) → good f y = true → y ≠ x → y.f1.f0 < x.f1.f0 := by
   intro h y hy
   rw [List.take_succ_eq_append_getElem hil, List.mem_append, List.mem_singleton] at hy
   rcases hy with hy | rfl
   ·exact hb y hy
   ·rw [← rd25 l i hil]; exact h
  refine Ev.step (fun k => by rw [skifflaw7_ChooseOther.l0, if_pos (by omega), if_pos (by omega), w]) ?_
  refine Ev.bind (ref_Good_ev f _ _ _ _) ?_
  by_cases c : good f (rd_T25 l (i : Int)) = true
  ·have c' : (goodV f (rd_T25 l (i : Int)).f1.f0 (rd_T25 l (i : Int)).f1.f1 (rd_T25 l (i : Int)).f1.f2 (rd_T25 l (i : Int)).f1.f3).1 = true := c
   simp only [c', if_true]
   by_cases c1 : rd_T25 l (i : Int) ≠ x
   ·simp only [if_pos ((ne_chain (rd_T25 l (i : Int)) x).2 c1)]
    by_cases c2 : (rd_T25 l (i : Int)).f1.f0 ≥ x.f1.f0
    ·simp only [if_pos c2]; exact Ev.now _
    ·simp only [if_neg c2]; exact ih (i + 1) (by omega) (next fun _ _ => by omega)
   ·simp only [if_neg (fun h => c1 ((ne_chain (rd_T25 l (i : Int)) x).1 h))]
    exact ih (i + 1) (by omega) (next fun _ h => absurd h c1)
  ·have c' : (goodV f (rd_T25 l (i : Int)).f1.f0 (rd_T25 l (i : Int)).f1.f1 (rd_T25 l (i : Int)).f1.f2 (rd_T25 l (i : Int)).f1.f3).1 = false := by simpa [good] using c
   simp only [c', Bool.false_eq_true, if_false]
   exact ih (i + 1) (by omega) (next fun h => absurd h c)
theorem no_way (f s : ByteArray) (e o g p0 p1 p2 p3 p4 : Int) (h : e ≠ 0 ∨ g = 0) : Ev (fun k => skifflaw7_ChooseOther.j0 k f s e o g true p0 p1 p2 p3 p4) true :=
 Ev.one fun k => by
  rw [skifflaw7_ChooseOther.j0, if_pos rfl, Num_eq, Option.bind_some]
  rcases h with h | rfl
  ·rw [if_neg h]
  ·split <;> rfl
theorem slot_bits {sl : Int} (h0 : 0 ≤ sl) (h1 : sl ≤ 1) : Go.bits .and .i64 (1 - sl) 1 = 1 - sl := by
 have : sl = 0 ∨ sl = 1 := by omega
 rcases this with rfl | rfl <;> decide +kernel
theorem slot_at {sl : Int} (h0 : 0 ≤ sl) (h1 : sl ≤ 1) : rd ([192, 480] : List Int) (1 - sl) = 192 + 288 * (1 - sl) := by
 have : sl = 0 ∨ sl = 1 := by omega
 rcases this with rfl | rfl <;> rfl
theorem ChooseOther : skifflaw7_ChooseOther.Pure := by
 intro f s hf hsz
 have h : Ev (fun k => skifflaw7_ChooseOther.f k f s) true := by
  unfold skifflaw7_ChooseOther.f
  refine Ev.bind awake7 ?_
  simp only [if_true]
  refine Ev.bind (Active_ev f) (Ev.bind (Other_ev f) ?_)
  simp only [Num_eq, Option.bind_some]
  by_cases hs : f.size = 768
  ·cases ha : act f with
   | none =>
    simp only [actV_none hs ha, show ¬ ((701 : Int) = 0) by decide, if_false]
    exact no_way _ _ _ _ _ _ _ _ _ _ (Or.inl (by decide))
   | some x =>
    simp only [actV_some hs ha, othV_some hs ha, if_true]
    by_cases h288 : (s.size : Int) > 288
    ·simp only [if_pos h288]
     exact no_way _ _ _ _ _ _ _ _ _ _ (Or.inr rfl)
    ·simp only [if_neg h288]
     have e : ((f.size : Int) != 768) = false := by simp; omega
     rw [e]
     obtain ⟨_, _, s0, s1, _⟩ := recMay_bounds (scanL_may (act_mem ha).1)
     obtain ⟨A, hA⟩ := Int.eq_ofNat_of_zero_le (show 0 ≤ 192 + 288 * (1 - x.f1.f1) by omega)
     have sz1 : (f.extract 0 A).size = A := by rw [ByteArray.size_extract]; omega
     have szx : (sp f A s).size = 768 := by rw [sp_size f A s (by omega)]; exact hs
     have st := stays hs szx ha (fun i hi hn => by rw [sp_bt f A s (by omega) i (by omega), if_neg (by omega)])
     have hl := scanL_length f 8
     have hsc := ref_Scan_ev (sp f A s)
     rw [show scanV (sp f A s) = (scanL f 8, 0) by unfold scanV; rw [if_pos szx, st.scan]] at hsc
     refine Ev.step (f := fun k => (skiffref1_Scan.f k (sp f A s)).bind fun bt393 => (skifflaw7_ChooseOther.l0 k (1 - x.f1.f1) (sp f A s) bt393.1 0 x.f0 x.f1.f0 x.f1.f1 x.f1.f2 x.f1.f3)) (fun k => ?_) ?_
     ·have sz2 : (f.extract 0 A ++ s).size = A + s.size := by rw [ByteArray.size_append, sz1]
      have sz3 : (f.extract (A + s.size) f.size).size = 768 - (A + s.size) := by rw [ByteArray.size_extract]; omega
      rw [skifflaw7_ChooseOther.j0, if_neg (by decide), Option.bind_some, slot_bits s0 s1, slot_at s0 s1, hA, if_pos (by omega), if_pos (by show 1 - x.f1.f1 < 2; omega), if_pos (by omega), if_pos (by omega)]
      rw [wrap_id (x := (A : Int) + (s.size : Int)) (by omega), show ((A : Int) + (s.size : Int)).toNat = A + s.size by omega, Int.toNat_natCast]
      rw [if_pos (by omega), if_pos (by omega), if_pos (by omega), if_pos (by omega)]
      rfl
     ·refine Ev.bind hsc ?_
      refine other_go (sp f A s) (1 - x.f1.f1) x (scanL f 8) (by omega) (fun hb => ?_) _ 0 (Nat.zero_add _) (fun y hy => by simp at hy)
      have ha2 : act (sp f A s) = some x := st.best ha fun y hy hg => by
       by_cases c : y = x
       ·subst c; omega
       ·exact Or.inl (hb y hy hg c)
      have hact := Active_ev (sp f A s)
      rw [actV_some szx ha2] at hact
      refine Ev.step (fun k => by rw [skifflaw7_ChooseOther.l0, if_neg (by omega)]) ?_
      refine Ev.bind hact ?_
      simp only [Num_eq, Option.bind_some, beq_self_eq_true, Bool.and_self, if_true, wrap_id (x := 1 - x.f1.f1) (by omega)]
      exact Ev.now _
  ·have e1 : actV f = (0, 0, 0, 0, 0, 700) := by unfold actV; rw [if_neg hs]
   simp only [e1, show ¬ ((700 : Int) = 0) by decide, if_false]
   exact no_way _ _ _ _ _ _ _ _ _ _ (Or.inl (by decide))
 exact h.rounds
end Go.Proofs.Ytjadcjkjpkkmkaa.Pure

