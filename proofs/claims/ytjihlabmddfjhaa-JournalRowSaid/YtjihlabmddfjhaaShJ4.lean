import Derived.Test.YtjihlabmddfjhaaShJ3
-- Laid together from this session's own texts by its program wip/tools/shake.py.
/- Plain facts: what the program's entry.Get and the reference's GetEntry answer for every string: the same; no memory in sight. -/
set_option linter.unnecessarySimpa false
set_option linter.unusedSimpArgs false
set_option linter.unusedVariables false
namespace Go.Proofs.Ytjihlabmddfjhaa.M
open Go.RowKit Go.Proofs.YtjihlabmddfjhaaW.PrintWords Go.Proofs.YtjihlabmddfjhaaW.PrintLast Go.Proofs.YtjihlabmddfjhaaW.PrintMore Go.Proofs.Ytjihlabmddfjhaa.Hand Go.Proofs.Ytjihlabmddfjhaa.PAll
theorem wraps_i64 (n : Int) (h₀ : 0 ≤ n) (h₁ : n < 2 ^ 62) : IntKind.i64.wrap n = n := by rw [IntKind.wrap_i64]; omega
theorem or_step (x b : Int) (h0 : 0 ≤ x) (h1 : x < 1099511627776) (h2 : 0 ≤ b) (h3 : b < 256) : Go.bits .or .i64 (wrap64 (x * 256)) (wrap64 b) = x * 256 + b := by
 rw [show wrap64 (x * 256) = x * 256 by unfold wrap64; omega, show wrap64 b = b by unfold wrap64; omega]
 exact bits_join .i64 62 (by decide) wraps_i64 8 _ _ (by omega) (by omega) (by omega) h2 (by omega) (by omega)
theorem num_step (k : Nat) (s : ByteArray) (x : Int) (i : Nat) (hi : i < s.size) (hs : s.size < 1000) (h0 : 0 ≤ x) (h1 : x < 1099511627776) : entry_Num.l0 (k + 1) s x (i : Int) = entry_Num.l0 k s (x * 256 + bt s (i : Int)) ((i : Int) - 1) := by
 rw [entry_Num.l0, if_pos (by omega), if_pos (by omega), if_pos (by omega), or_step x _ h0 h1 (bt_u8 _ _).1 (bt_u8 _ _).2, show wrap64 ((i : Int) - 1) = (i : Int) - 1 by unfold wrap64; omega]
theorem num_end (k : Nat) (s : ByteArray) (x : Int) : entry_Num.l0 (k + 1) s x (-1) = some x := by rw [entry_Num.l0, if_neg (by omega)]
theorem of_step (k : Nat) (s : ByteArray) (x : Int) (i : Nat) (hi : i < s.size) (hs : s.size < 1000) (h0 : 0 ≤ x) (h1 : x < 1099511627776) : skiffref1_Of.l0 (k + 1) s x (i : Int) = skiffref1_Of.l0 k s (x * 256 + bt s (i : Int)) ((i : Int) - 1) := by
 rw [skiffref1_Of.l0, if_pos (by omega), if_pos (by omega), if_pos (by omega), or_step x _ h0 h1 (bt_u8 _ _).1 (bt_u8 _ _).2, show wrap64 ((i : Int) - 1) = (i : Int) - 1 by unfold wrap64; omega]
theorem of_end (k : Nat) (s : ByteArray) (x : Int) : skiffref1_Of.l0 (k + 1) s x (-1) = some x := by rw [skiffref1_Of.l0, if_neg (by omega)]
def n2 (s : ByteArray) (i : Nat) : Int := bt s i + 256 * bt s ((i + 1 : Nat) : Int)
def n4 (s : ByteArray) (i : Nat) : Int := bt s i + 256 * bt s ((i + 1 : Nat) : Int) + 65536 * bt s ((i + 2 : Nat) : Int) + 16777216 * bt s ((i + 3 : Nat) : Int)
theorem num4_eq (s : ByteArray) (h : s.size = 4) : entry_Num.f 6 s = some (n4 s 0) := by
 have b0 := bt_u8 s 0; have b1 := bt_u8 s 1; have b2 := bt_u8 s 2; have b3 := bt_u8 s 3
 unfold entry_Num.f
 rw [h]
 rw [show wrap64 (((4 : Nat) : Int) - 1) = ((3 : Nat) : Int) by unfold wrap64; omega]
 rw [num_step 5 s 0 3 (by omega) (by omega) (by omega) (by omega)]
 show entry_Num.l0 5 s (0 * 256 + bt s 3) ((2 : Nat) : Int) = _
 rw [num_step 4 s _ 2 (by omega) (by omega) (by omega) (by omega)]
 show entry_Num.l0 4 s ((0 * 256 + bt s 3) * 256 + bt s 2) ((1 : Nat) : Int) = _
 rw [num_step 3 s _ 1 (by omega) (by omega) (by omega) (by omega)]
 show entry_Num.l0 3 s (((0 * 256 + bt s 3) * 256 + bt s 2) * 256 + bt s 1) ((0 : Nat) : Int) = _
 rw [num_step 2 s _ 0 (by omega) (by omega) (by omega) (by omega)]
 show entry_Num.l0 2 s ((((0 * 256 + bt s 3) * 256 + bt s 2) * 256 + bt s 1) * 256 + bt s 0) (-1) = _
 rw [num_end]
 congr 1
 show _ = bt s 0 + 256 * bt s 1 + 65536 * bt s 2 + 16777216 * bt s 3
 omega
theorem num2_eq (s : ByteArray) (h : s.size = 2) : entry_Num.f 6 s = some (n2 s 0) := by
 have b0 := bt_u8 s 0; have b1 := bt_u8 s 1
 unfold entry_Num.f
 rw [h]
 rw [show wrap64 (((2 : Nat) : Int) - 1) = ((1 : Nat) : Int) by unfold wrap64; omega]
 rw [num_step 5 s _ 1 (by omega) (by omega) (by omega) (by omega)]
 show entry_Num.l0 5 s (0 * 256 + bt s 1) ((0 : Nat) : Int) = _
 rw [num_step 4 s _ 0 (by omega) (by omega) (by omega) (by omega)]
 show entry_Num.l0 4 s ((0 * 256 + bt s 1) * 256 + bt s 0) (-1) = _
 rw [num_end]
 congr 1
 show _ = bt s 0 + 256 * bt s 1
 omega
theorem of4_eq (s : ByteArray) (h : s.size = 4) : skiffref1_Of.f 6 s = some (n4 s 0) := by
 have b0 := bt_u8 s 0; have b1 := bt_u8 s 1; have b2 := bt_u8 s 2; have b3 := bt_u8 s 3
 unfold skiffref1_Of.f
 rw [h]
 rw [show wrap64 (((4 : Nat) : Int) - 1) = ((3 : Nat) : Int) by unfold wrap64; omega]
 rw [of_step 5 s 0 3 (by omega) (by omega) (by omega) (by omega)]
 show skiffref1_Of.l0 5 s (0 * 256 + bt s 3) ((2 : Nat) : Int) = _
 rw [of_step 4 s _ 2 (by omega) (by omega) (by omega) (by omega)]
 show skiffref1_Of.l0 4 s ((0 * 256 + bt s 3) * 256 + bt s 2) ((1 : Nat) : Int) = _
 rw [of_step 3 s _ 1 (by omega) (by omega) (by omega) (by omega)]
 show skiffref1_Of.l0 3 s (((0 * 256 + bt s 3) * 256 + bt s 2) * 256 + bt s 1) ((0 : Nat) : Int) = _
 rw [of_step 2 s _ 0 (by omega) (by omega) (by omega) (by omega)]
 show skiffref1_Of.l0 2 s ((((0 * 256 + bt s 3) * 256 + bt s 2) * 256 + bt s 1) * 256 + bt s 0) (-1) = _
 rw [of_end]
 congr 1
 show _ = bt s 0 + 256 * bt s 1 + 65536 * bt s 2 + 16777216 * bt s 3
 omega
theorem of2_eq (s : ByteArray) (h : s.size = 2) : skiffref1_Of.f 6 s = some (n2 s 0) := by
 have b0 := bt_u8 s 0; have b1 := bt_u8 s 1
 unfold skiffref1_Of.f
 rw [h]
 rw [show wrap64 (((2 : Nat) : Int) - 1) = ((1 : Nat) : Int) by unfold wrap64; omega]
 rw [of_step 5 s _ 1 (by omega) (by omega) (by omega) (by omega)]
 show skiffref1_Of.l0 5 s (0 * 256 + bt s 1) ((0 : Nat) : Int) = _
 rw [of_step 4 s _ 0 (by omega) (by omega) (by omega) (by omega)]
 show skiffref1_Of.l0 4 s ((0 * 256 + bt s 1) * 256 + bt s 0) (-1) = _
 rw [of_end]
 congr 1
 show _ = bt s 0 + 256 * bt s 1
 omega
theorem n4_extract (s : ByteArray) (i : Nat) (h : i + 4 ≤ s.size) : n4 (s.extract i (i + 4)) 0 = n4 s i := by
 unfold n4
 simp only [Nat.zero_add]
 rw [bt_extract s i (i + 4) 0 (by omega), bt_extract s i (i + 4) 1 (by omega), bt_extract s i (i + 4) 2 (by omega), bt_extract s i (i + 4) 3 (by omega), Nat.add_zero]
theorem n2_extract (s : ByteArray) (i : Nat) (h : i + 2 ≤ s.size) : n2 (s.extract i (i + 2)) 0 = n2 s i := by
 unfold n2
 simp only [Nat.zero_add]
 rw [bt_extract s i (i + 2) 0 (by omega), bt_extract s i (i + 2) 1 (by omega), Nat.add_zero]
/-- What stands in a place: the complements are right, and the record may be. -/
def getOk (s : ByteArray) : Prop := s.size = 24 ∧ (∀ i, i < 12 → bt s ((12 + i : Nat) : Int) = 255 - bt s ((i : Nat) : Int)) ∧ recMay (n4 s 0) (n2 s 4) (n2 s 6) (n4 s 8) = true
instance (s : ByteArray) : Decidable (getOk s) := by unfold getOk; exact inferInstance
def getV (s : ByteArray) : Int × Int × Int × Int × Int := if getOk s then (n4 s 0, n2 s 4, n2 s 6, n4 s 8, 0) else (0, 0, 0, 0, 400)
theorem complB_eq (b : Int) (h0 : 0 ≤ b) (h1 : b < 256) : complB b = 255 - b := by
 obtain ⟨n, rfl⟩ := Int.eq_ofNat_of_zero_le h0
 unfold complB
 rw [bits_xor_u8]
 have e : B (IntKind.u8.max) = BitVec.allOnes 8 := by decide
 rw [e, BitVec.allOnes_xor, BitVec.toNat_not]
 have e2 : (B (n : Int)).toNat = n := by simp [B]; omega
 rw [e2]; omega
theorem bytesOf_getD (s : ByteArray) (i : Nat) (h : i < s.size) : (bytesOf s).getD i 0 = bt s (i : Int) := by
 have := rd_bytesOf s (i : Int)
 rw [← this]
 simp [rd]
theorem compl_bt (s : ByteArray) (i : Nat) (h : i < s.size) : bt (strOfNums ((bytesOf s).map complB)) i = 255 - bt s (i : Int) := by
 have b := bt_u8 s (i : Int)
 have hl : i < ((bytesOf s).map complB).length := by rw [List.length_map, bytesOf_length]; exact h
 have e : ((bytesOf s).map complB).getD i 0 = 255 - bt s (i : Int) := by
  have := bytesOf_getD s i h
  have hl2 : i < (bytesOf s).length := by rw [bytesOf_length]; exact h
  rw [List.getD_eq_getElem?_getD, List.getElem?_map, List.getElem?_eq_getElem hl2, Option.map_some, Option.getD_some]
  rw [List.getD_eq_getElem?_getD, List.getElem?_eq_getElem hl2, Option.getD_some] at this
  rw [this, complB_eq _ b.1 b.2]
 rw [bt_strOfNums _ _ hl (by rw [e]; omega) (by rw [e]; omega), e]
theorem compl_iff (s : ByteArray) (h : s.size = 24) : (strOfNums ((bytesOf (s.extract 0 12)).map complB) = s.extract 12 s.size) ↔ ∀ i, i < 12 → bt s ((12 + i : Nat) : Int) = 255 - bt s ((i : Nat) : Int) := by
 have z1 : (s.extract 0 12).size = 12 := by rw [ByteArray.size_extract]; omega
 have z2 : (s.extract 12 s.size).size = 12 := by rw [ByteArray.size_extract]; omega
 constructor
 ·intro e i hi
  have e1 := compl_bt (s.extract 0 12) i (by omega)
  rw [e, bt_extract s 12 s.size i (by omega), bt_extract s 0 12 i (by omega), Nat.zero_add] at e1
  exact e1
 ·intro e
  apply bt_ext
  ·rw [strOfNums_size', List.length_map, bytesOf_length, z1, z2]
  ·intro i hi
   rw [strOfNums_size', List.length_map, bytesOf_length, z1] at hi
   rw [compl_bt _ _ (by omega), bt_extract s 12 s.size i (by omega), bt_extract s 0 12 i (by omega), Nat.zero_add, e i hi]
theorem in_eq (a b c : Int) : entry_in.f a b c = some (decide (b ≤ a ∧ a ≤ c)) := by
 unfold entry_in.f
 by_cases h1 : a ≥ b
 ·simp [h1, show b ≤ a from h1]
 ·simp [h1, show ¬ b ≤ a from h1]
theorem May_eq (q sl sz sm : Int) : entry_May.f q sl sz sm = some (recMay q sl sz sm) := by
 unfold entry_May.f entry_Slot.f entry_Size.f recMay
 simp only [in_eq, Option.bind_some]
 by_cases h1 : 1 ≤ q ∧ q ≤ 1048576
 ·by_cases h2 : 0 ≤ sl ∧ sl ≤ 1
  ·by_cases h3 : 1 ≤ sz ∧ sz ≤ 288
   ·simp [h1, h2, h3]
   ·rw [if_pos (by simpa using h1), if_pos (by simpa using h2), if_neg (by simpa using h3)]; congr 1; symm; rw [decide_eq_false_iff_not]; omega
  ·rw [if_pos (by simpa using h1), if_neg (by simpa using h2)]; congr 1; symm; rw [decide_eq_false_iff_not]; omega
 ·rw [if_neg (by simpa using h1)]; congr 1; symm; rw [decide_eq_false_iff_not]; omega
theorem Get_at (s : ByteArray) : entry_Get.f 7 s = some (getV s) := by
 unfold entry_Get.f
 by_cases h : s.size = 24
 ·rw [if_pos (by omega), if_pos (by omega), if_pos (by omega)]
  have z1 : (s.extract 0 12).size = 12 := by rw [ByteArray.size_extract]; omega
  have e0 : entry_complement.f (s.extract 0 12) = some (strOfNums ((bytesOf (s.extract 0 12)).map complB)) := by unfold entry_complement.f; rw [if_pos (by omega)]
  rw [e0, Option.bind_some, entry_Get.j0]
  by_cases hc : strOfNums ((bytesOf (s.extract 0 12)).map complB) = s.extract 12 s.size
  ·rw [hc, bne_self_eq_false, if_neg (by decide), if_pos (by omega), if_pos (by omega), num4_eq _ (by rw [ByteArray.size_extract]; omega), Option.bind_some, if_pos (by omega), if_pos (by omega), num2_eq _ (by rw [ByteArray.size_extract]; omega), Option.bind_some,
    if_pos (by omega), if_pos (by omega), num2_eq _ (by rw [ByteArray.size_extract]; omega), Option.bind_some, if_pos (by omega), if_pos (by omega), num4_eq _ (by rw [ByteArray.size_extract]; omega), Option.bind_some, May_eq, Option.bind_some]
   rw [n4_extract s 0 (by omega), n2_extract s 4 (by omega), n2_extract s 6 (by omega), n4_extract s 8 (by omega)]
   unfold getV
   by_cases hm : recMay (n4 s 0) (n2 s 4) (n2 s 6) (n4 s 8) = true
   ·rw [if_pos hm, if_pos ⟨h, (compl_iff s h).1 hc, hm⟩]
   ·rw [if_neg hm, if_neg (fun x => hm x.2.2)]
  ·have hb : (ByteArray.toList (strOfNums ((bytesOf (s.extract 0 12)).map complB)) != ByteArray.toList (s.extract 12 s.size)) = true := by
    rw [bne_iff_ne]; intro x; exact hc (toList_inj.1 x)
   rw [hb, if_pos rfl]
   unfold getV
   rw [if_neg (fun x => hc ((compl_iff s h).2 x.2.1))]
 ·rw [if_neg (by omega), entry_Get.j0, if_pos rfl]
  unfold getV
  rw [if_neg (fun x => h x.1)]
theorem Get_ev (s : ByteArray) : Ev (fun k => entry_Get.f k s) (getV s) := Ev.of (fun k => entry_Get.mono s k) (Get_at s)
theorem lb_n4 (s : ByteArray) (i : Nat) : lb (n4 s i) 0 = bt s (i : Int) ∧ lb (n4 s i) 1 = bt s ((i + 1 : Nat) : Int) ∧ lb (n4 s i) 2 = bt s ((i + 2 : Nat) : Int) ∧ lb (n4 s i) 3 = bt s ((i + 3 : Nat) : Int) := by
 have b0 := bt_u8 s (i : Int); have b1 := bt_u8 s ((i + 1 : Nat) : Int); have b2 := bt_u8 s ((i + 2 : Nat) : Int); have b3 := bt_u8 s ((i + 3 : Nat) : Int)
 unfold lb n4
 simp only [Nat.mul_zero, Nat.mul_one, show 8 * 2 = 16 from rfl, show 8 * 3 = 24 from rfl, show (2 : Int) ^ 0 = 1 from rfl, show (2 : Int) ^ 8 = 256 from rfl, show (2 : Int) ^ 16 = 65536 from rfl, show (2 : Int) ^ 24 = 16777216 from rfl]
 omega
theorem lb_n2 (s : ByteArray) (i : Nat) : lb (n2 s i) 0 = bt s (i : Int) ∧ lb (n2 s i) 1 = bt s ((i + 1 : Nat) : Int) := by
 have b0 := bt_u8 s (i : Int); have b1 := bt_u8 s ((i + 1 : Nat) : Int)
 unfold lb n2
 simp only [Nat.mul_zero, Nat.mul_one, show (2 : Int) ^ 0 = 1 from rfl, show (2 : Int) ^ 8 = 256 from rfl]
 omega
theorem ent_bt (q sl sz sm : Int) (i : Nat) (h : i < 12) : bt (ent q sl sz sm) ((i : Nat) : Int) = (entL q sl sz sm).getD i 0 ∧ bt (ent q sl sz sm) ((12 + i : Nat) : Int) = 255 - (entL q sl sz sm).getD i 0 := by
 have r : ∀ j, j < 12 → 0 ≤ (entL q sl sz sm).getD j 0 ∧ (entL q sl sz sm).getD j 0 < 256 := by
  intro j hj
  match j, hj with
  | 0, _ => exact lb_range _ _
  | 1, _ => exact lb_range _ _
  | 2, _ => exact lb_range _ _
  | 3, _ => exact lb_range _ _
  | 4, _ => exact lb_range _ _
  | 5, _ => exact ⟨Int.le_refl 0, (by decide : (0 : Int) < 256)⟩
  | 6, _ => exact lb_range _ _
  | 7, _ => exact lb_range _ _
  | 8, _ => exact lb_range _ _
  | 9, _ => exact lb_range _ _
  | 10, _ => exact lb_range _ _
  | 11, _ => exact lb_range _ _
 have hl : (entL q sl sz sm).length = 12 := rfl
 have e1 : (entL q sl sz sm ++ (entL q sl sz sm).map fun x => (255 - x) % 256).getD i 0 = (entL q sl sz sm).getD i 0 := by
  rw [List.getD_eq_getElem?_getD, List.getElem?_append_left (by omega), ← List.getD_eq_getElem?_getD]
 have e2 : (entL q sl sz sm ++ (entL q sl sz sm).map fun x => (255 - x) % 256).getD (12 + i) 0 = 255 - (entL q sl sz sm).getD i 0 := by
  have := r i h
  rw [List.getD_eq_getElem?_getD, List.getElem?_append_right (by omega), hl, show 12 + i - 12 = i by omega, List.getElem?_map]
  rw [List.getD_eq_getElem?_getD] at this ⊢
  rw [List.getElem?_eq_getElem (by omega)] at this ⊢
  simp only [Option.map_some, Option.getD_some] at this ⊢
  omega
 have := r i h
 unfold ent
 constructor
 ·rw [bt_strOfNums _ _ (by simp [hl]; omega) (by rw [e1]; omega) (by rw [e1]; omega), e1]
 ·rw [bt_strOfNums _ _ (by simp [hl]; omega) (by rw [e2]; omega) (by rw [e2]; omega), e2]
/-- The reference's way to say it: put again, it is the same. -/
theorem getOk_iff (s : ByteArray) (h : s.size = 24) : getOk s ↔ recMay (n4 s 0) (bt s ((4 : Nat) : Int)) (n2 s 6) (n4 s 8) = true ∧ ent (n4 s 0) (bt s ((4 : Nat) : Int)) (n2 s 6) (n4 s 8) = s := by
 have q0 := lb_n4 s 0; have q6 := lb_n2 s 6; have q8 := lb_n4 s 8
 have b4 := bt_u8 s ((4 : Nat) : Int); have b5 := bt_u8 s ((5 : Nat) : Int)
 have l4 : lb (bt s ((4 : Nat) : Int)) 0 = bt s ((4 : Nat) : Int) := by unfold lb; simp only [Nat.mul_zero, show (2 : Int) ^ 0 = 1 from rfl]; omega
 have e12 : entL (n4 s 0) (bt s ((4 : Nat) : Int)) (n2 s 6) (n4 s 8) = [bt s ((0 : Nat) : Int), bt s ((1 : Nat) : Int), bt s ((2 : Nat) : Int), bt s ((3 : Nat) : Int), bt s ((4 : Nat) : Int), 0, bt s ((6 : Nat) : Int), bt s ((7 : Nat) : Int), bt s ((8 : Nat) : Int), bt s ((9 : Nat) : Int), bt s ((10 : Nat) : Int), bt s ((11 : Nat) : Int)] := by
  unfold entL
  rw [q0.1, q0.2.1, q0.2.2.1, q0.2.2.2, q6.1, q6.2, q8.1, q8.2.1, q8.2.2.1, q8.2.2.2, l4]
 constructor
 ·rintro ⟨_, hc, hm⟩
  have z5 : bt s ((5 : Nat) : Int) = 0 := by
   unfold recMay at hm
   have := of_decide_eq_true hm
   have e : n2 s 4 = bt s ((4 : Nat) : Int) + 256 * bt s ((5 : Nat) : Int) := rfl
   omega
  have e2 : n2 s 4 = bt s ((4 : Nat) : Int) := by
   have e : n2 s 4 = bt s ((4 : Nat) : Int) + 256 * bt s ((5 : Nat) : Int) := rfl
   omega
  refine ⟨by rw [← e2]; exact hm, ?_⟩
  have low : ∀ j, j < 12 → (entL (n4 s 0) (bt s ((4 : Nat) : Int)) (n2 s 6) (n4 s 8)).getD j 0 = bt s ((j : Nat) : Int) := by
   intro j hj
   rw [e12]
   match j, hj with
   | 0, _ => rfl
   | 1, _ => rfl
   | 2, _ => rfl
   | 3, _ => rfl
   | 4, _ => rfl
   | 5, _ => exact z5.symm
   | 6, _ => rfl
   | 7, _ => rfl
   | 8, _ => rfl
   | 9, _ => rfl
   | 10, _ => rfl
   | 11, _ => rfl
  apply bt_ext
  ·rw [ent_size, h]
  ·intro i hi
   rw [ent_size] at hi
   by_cases c : i < 12
   ·rw [(ent_bt _ _ _ _ i c).1, low i c]
   ·obtain ⟨j, rfl⟩ : ∃ j, i = 12 + j := ⟨i - 12, by omega⟩
    rw [(ent_bt _ _ _ _ j (by omega)).2, low j (by omega), hc j (by omega)]
 ·rintro ⟨hm, he⟩
  have low : ∀ j, j < 12 → bt s ((j : Nat) : Int) = (entL (n4 s 0) (bt s ((4 : Nat) : Int)) (n2 s 6) (n4 s 8)).getD j 0 := by
   intro j hj
   have := (ent_bt (n4 s 0) (bt s ((4 : Nat) : Int)) (n2 s 6) (n4 s 8) j hj).1
   rw [he] at this
   exact this
  have z5 : bt s ((5 : Nat) : Int) = 0 := (low 5 (by omega)).trans (by rw [e12]; rfl)
  have e2 : n2 s 4 = bt s ((4 : Nat) : Int) := by
   have e : n2 s 4 = bt s ((4 : Nat) : Int) + 256 * bt s ((5 : Nat) : Int) := rfl
   omega
  refine ⟨h, fun i hi => ?_, by rw [e2]; exact hm⟩
  have := (ent_bt (n4 s 0) (bt s ((4 : Nat) : Int)) (n2 s 6) (n4 s 8) i hi).2
  rw [he] at this
  rw [this, low i hi]
theorem GetEntry_at (s : ByteArray) : skiffref1_GetEntry.f 6 s = some (getV s) := by
 unfold skiffref1_GetEntry.f
 by_cases h : s.size = 24
 ·rw [if_pos (by omega), if_pos (by omega), if_pos (by omega), of4_eq _ (by rw [ByteArray.size_extract]; omega), Option.bind_some, if_pos (by omega), if_pos (by omega), if_pos (by omega), of2_eq _ (by rw [ByteArray.size_extract]; omega), Option.bind_some,
   if_pos (by omega), if_pos (by omega), of4_eq _ (by rw [ByteArray.size_extract]; omega), Option.bind_some, PutEntry_at _ _ _ _ 6 rfl, Option.bind_some]
  rw [n4_extract s 0 (by omega), n2_extract s 6 (by omega), n4_extract s 8 (by omega)]
  have b4 := bt_u8 s ((4 : Nat) : Int)
  have w4 : wrap64 (bt s 4) = bt s ((4 : Nat) : Int) := by show wrap64 (bt s ((4 : Nat) : Int)) = _; unfold wrap64; omega
  rw [w4]
  unfold getV
  by_cases hm : recMay (n4 s 0) (bt s ((4 : Nat) : Int)) (n2 s 6) (n4 s 8) = true
  ·rw [if_pos hm, if_pos rfl]
   by_cases he : ent (n4 s 0) (bt s ((4 : Nat) : Int)) (n2 s 6) (n4 s 8) = s
   ·have ok := (getOk_iff s h).2 ⟨hm, he⟩
    have e2 : n2 s 4 = bt s ((4 : Nat) : Int) := by
     have e : n2 s 4 = bt s ((4 : Nat) : Int) + 256 * bt s ((5 : Nat) : Int) := rfl
     have hm2 := of_decide_eq_true ok.2.2
     have b5 := bt_u8 s ((5 : Nat) : Int)
     omega
    rw [if_pos (by rw [he]), if_pos ok, e2]
   ·rw [if_neg (fun x => he (toList_inj.1 x)), if_neg (fun x => he ((getOk_iff s h).1 x).2)]
  ·rw [if_neg hm, if_neg (by decide), if_neg (fun x => hm ((getOk_iff s h).1 x).1)]
 ·rw [if_neg (by omega)]
  unfold getV
  rw [if_neg (fun x => h x.1)]
theorem GetEntry_ev (s : ByteArray) : Ev (fun k => skiffref1_GetEntry.f k s) (getV s) := Ev.of (fun k => skiffref1_GetEntry.mono s k) (GetEntry_at s)
/-- A record that was put is found. -/
theorem getV_ent (q sl sz sm : Int) (h : recMay q sl sz sm = true) : getV (ent q sl sz sm) = (q, sl, sz, sm, 0) := by
 have hm := of_decide_eq_true h
 have lo : ∀ j, j < 12 → bt (ent q sl sz sm) ((j : Nat) : Int) = (entL q sl sz sm).getD j 0 := fun j hj => (ent_bt q sl sz sm j hj).1
 have e0 : n4 (ent q sl sz sm) 0 = q := by
  unfold n4
  rw [lo 0 (by omega), lo (0 + 1) (by omega), lo (0 + 2) (by omega), lo (0 + 3) (by omega)]
  show lb q 0 + 256 * lb q 1 + 65536 * lb q 2 + 16777216 * lb q 3 = q
  unfold lb
  simp only [Nat.mul_zero, Nat.mul_one, show 8 * 2 = 16 from rfl, show 8 * 3 = 24 from rfl, show (2 : Int) ^ 0 = 1 from rfl, show (2 : Int) ^ 8 = 256 from rfl, show (2 : Int) ^ 16 = 65536 from rfl, show (2 : Int) ^ 24 = 16777216 from rfl]
  omega
 have e8 : n4 (ent q sl sz sm) 8 = sm := by
  unfold n4
  rw [lo 8 (by omega), lo (8 + 1) (by omega), lo (8 + 2) (by omega), lo (8 + 3) (by omega)]
  show lb sm 0 + 256 * lb sm 1 + 65536 * lb sm 2 + 16777216 * lb sm 3 = sm
  unfold lb
  simp only [Nat.mul_zero, Nat.mul_one, show 8 * 2 = 16 from rfl, show 8 * 3 = 24 from rfl, show (2 : Int) ^ 0 = 1 from rfl, show (2 : Int) ^ 8 = 256 from rfl, show (2 : Int) ^ 16 = 65536 from rfl, show (2 : Int) ^ 24 = 16777216 from rfl]
  omega
 have e4 : n2 (ent q sl sz sm) 4 = sl := by
  unfold n2
  rw [lo 4 (by omega), lo (4 + 1) (by omega)]
  show lb sl 0 + 256 * 0 = sl
  unfold lb
  simp only [Nat.mul_zero, show (2 : Int) ^ 0 = 1 from rfl]
  omega
 have e6 : n2 (ent q sl sz sm) 6 = sz := by
  unfold n2
  rw [lo 6 (by omega), lo (6 + 1) (by omega)]
  show lb sz 0 + 256 * lb sz 1 = sz
  unfold lb
  simp only [Nat.mul_zero, Nat.mul_one, show (2 : Int) ^ 0 = 1 from rfl, show (2 : Int) ^ 8 = 256 from rfl]
  omega
 unfold getV
 have ok : getOk (ent q sl sz sm) := ⟨ent_size q sl sz sm, fun i hi => by rw [(ent_bt q sl sz sm i hi).2, lo i hi], by rw [e0, e4, e6, e8]; exact h⟩
 rw [if_pos ok, e0, e4, e6, e8]
end Go.Proofs.Ytjihlabmddfjhaa.M
/- Plain facts: the records of a flash, by the program and by the reference: the same; the first free place; no memory in sight. -/
set_option linter.unnecessarySimpa false
set_option linter.unusedSimpArgs false
set_option linter.unusedVariables false
namespace Go.Proofs.Ytjihlabmddfjhaa.M
open Go.RowKit Go.Proofs.YtjihlabmddfjhaaW.PrintWords Go.Proofs.YtjihlabmddfjhaaW.PrintLast Go.Proofs.YtjihlabmddfjhaaW.PrintMore Go.Proofs.Ytjihlabmddfjhaa.Hand Go.Proofs.Ytjihlabmddfjhaa.PAll
/-- The bytes of place j. -/
def pl (f : ByteArray) (j : Nat) : ByteArray := f.extract (24 * j) (24 * j + 24)
/-- What is told of one place. -/
def told (j : Nat) (g : Int × Int × Int × Int × Int) : List S59 := if g.2.2.2.2 = 0 then [⟨24 * (j : Int), ⟨g.1, g.2.1, g.2.2.1, g.2.2.2.1⟩⟩] else []
def scanL (f : ByteArray) : Nat → List S59
 | 0 => []
 | n + 1 => scanL f n ++ told n (getV (pl f n))
def scanV (f : ByteArray) : List S59 × Int := if f.size = 768 then (scanL f 8, 0) else ([], 500)
theorem told_length (j : Nat) (g : Int × Int × Int × Int × Int) : (told j g).length ≤ 1 := by unfold told; split <;> simp
theorem scanL_length (f : ByteArray) (n : Nat) : (scanL f n).length ≤ n := by
 induction n with
 | zero => simp [scanL]
 | succ n ih => have := told_length n (getV (pl f n)); simp only [scanL, List.length_append]; omega
theorem at_eq (f : ByteArray) (j : Nat) (hf : f.size = 768) (hj : j < 8) (a : Int) (ha : a = 24 * (j : Int)) : journal_at.f f a = some (pl f j) := by
 subst ha
 unfold journal_at.f
 have w : wrap64 (24 * (j : Int) + 24) = 24 * (j : Int) + 24 := wrap_id (by omega)
 rw [w, if_pos (by omega), if_pos (by omega), if_pos (by omega)]
 congr 2 <;> omega
theorem scan_go (f : ByteArray) (hf : f.size = 768) (d : Nat) : ∀ (j : Nat), j + d = 8 → Ev (fun k => journal_Scan.l0 k f (scanL f j) (j : Int)) (scanL f 8, 0) := by
 induction d with
 | zero =>
  intro j hj
  obtain rfl : j = 8 := by omega
  exact Ev.one fun k => by rw [journal_Scan.l0, if_neg (by omega)]
 | succ d ih =>
  intro j hj
  have h1 := ih (j + 1) (by omega)
  have w : wrap64 ((j : Int) + 1) = ((j + 1 : Nat) : Int) := by rw [wrap_id (by omega)]; omega
  refine Ev.step (f := fun k => (entry_Get.f k (pl f j)).bind fun bt339 => (if bt339.2.2.2.2 = 0 then (if (scanL f j).length < 3518437208883 then (journal_Scan.l0 k f (scanL f j ++ [(⟨24 * (j : Int), (⟨bt339.1, bt339.2.1, bt339.2.2.1, bt339.2.2.2.1⟩ : S25)⟩ : S59)]) ((j + 1 : Nat) : Int)) else (none)) else (journal_Scan.l0 k f (scanL f j) ((j + 1 : Nat) : Int)))) (fun k => ?_) ?_
  ·rw [journal_Scan.l0, if_pos (by omega), at_eq f j hf (by omega) _ (by rw [wrap_id (by omega)]; omega), Option.bind_some, w, wrap_id (x := (j : Int) * 24) (by omega), Int.mul_comm (j : Int) 24]
  ·refine Ev.bind (Get_ev (pl f j)) ?_
   have hl := scanL_length f j
   unfold scanL told at h1
   by_cases c : (getV (pl f j)).2.2.2.2 = 0
   ·rw [if_pos c] at h1
    simp only [if_pos c, if_pos (show (scanL f j).length < 3518437208883 by omega)]
    exact h1
   ·rw [if_neg c, List.append_nil] at h1
    simp only [if_neg c]
    exact h1
theorem Scan_ev (f : ByteArray) : Ev (fun k => journal_Scan.f k f) (scanV f) := by
 unfold journal_Scan.f scanV nor_May.f
 by_cases h : f.size = 768
 ·have e : ((f.size : Int) == 768) = true := by simp; omega
  simp only [Option.bind_some, e, if_true, if_pos h]
  exact scan_go f h 8 0 rfl
 ·have e : ((f.size : Int) == 768) = false := by simp; omega
  simp only [Option.bind_some, e, if_neg h]
  exact Ev.now _
theorem rscan_go (f : ByteArray) (hf : f.size = 768) (s : Nat) (hs : s < 2) (r : List S59 × Int) (hn : Ev (fun k => skiffref1_Scan.l0 k f (scanL f (4 * s + 4)) ((s + 1 : Nat) : Int)) r) (d : Nat) :
  ∀ (j : Nat), j + d = 4 * s + 4 → 4 * s ≤ j → Ev (fun k => skiffref1_Scan.l1 k f (scanL f j) (s : Int) (24 * (j : Int))) r := by
 have w1 : wrap64 ((s : Int) + 1) = ((s + 1 : Nat) : Int) := by rw [wrap_id (by omega)]; omega
 have w2 : wrap64 (((s + 1 : Nat) : Int) * 96) = 96 * (s : Int) + 96 := by rw [wrap_id (by omega)]; omega
 induction d with
 | zero =>
  intro j hj _
  obtain rfl : j = 4 * s + 4 := by omega
  refine Ev.step (fun k => ?_) hn
  rw [skiffref1_Scan.l1, w1, w2, if_neg (by rw [wrap_id (by omega)]; omega)]
 | succ d ih =>
  intro j hj h4
  have h1 := ih (j + 1) (by omega) (by omega)
  have w : wrap64 (24 * (j : Int) + 24) = 24 * ((j + 1 : Nat) : Int) := by rw [wrap_id (by omega)]; omega
  refine Ev.step (f := fun k => (skiffref1_GetEntry.f k (pl f j)).bind fun bt361 => (if bt361.2.2.2.2 = 0 then (if (scanL f j).length < 3518437208883 then (skiffref1_Scan.l1 k f (scanL f j ++ [(⟨24 * (j : Int), (⟨bt361.1, bt361.2.1, bt361.2.2.1, bt361.2.2.2.1⟩ : S25)⟩ : S59)]) (s : Int) (24 * ((j + 1 : Nat) : Int))) else (none)) else (skiffref1_Scan.l1 k f (scanL f j) (s : Int) (24 * ((j + 1 : Nat) : Int))))) (fun k => ?_) ?_
  ·rw [skiffref1_Scan.l1, w1, w2, w, if_pos (by omega), if_pos (by omega), if_pos (by omega), if_pos (by omega), show f.extract (24 * (j : Int)).toNat (24 * ((j + 1 : Nat) : Int)).toNat = pl f j by unfold pl; congr 1 <;> omega]
  ·refine Ev.bind (GetEntry_ev (pl f j)) ?_
   have hl := scanL_length f j
   unfold scanL told at h1
   by_cases c : (getV (pl f j)).2.2.2.2 = 0
   ·rw [if_pos c] at h1
    simp only [if_pos c, if_pos (show (scanL f j).length < 3518437208883 by omega)]
    exact h1
   ·rw [if_neg c, List.append_nil] at h1
    simp only [if_neg c]
    exact h1
theorem rscan_all (f : ByteArray) (hf : f.size = 768) : Ev (fun k => skiffref1_Scan.l0 k f [] 0) (scanL f 8, 0) := by
 have e2 : Ev (fun k => skiffref1_Scan.l0 k f (scanL f 8) ((2 : Nat) : Int)) (scanL f 8, 0) := Ev.one fun k => by rw [skiffref1_Scan.l0, if_neg (by omega)]
 have e1 : Ev (fun k => skiffref1_Scan.l0 k f (scanL f 4) ((1 : Nat) : Int)) (scanL f 8, 0) :=
  Ev.step (fun k => by rw [skiffref1_Scan.l0, if_pos (by omega), show wrap64 (((1 : Nat) : Int) * 96) = 24 * ((4 : Nat) : Int) by unfold wrap64; omega]) (rscan_go f hf 1 (by omega) _ e2 4 4 (by omega) (by omega))
 exact Ev.step (fun k => by rw [skiffref1_Scan.l0, if_pos (by omega), show wrap64 ((0 : Int) * 96) = 24 * ((0 : Nat) : Int) by unfold wrap64; omega]; rfl) (rscan_go f hf 0 (by omega) _ e1 4 0 (by omega) (by omega))
theorem ref_Scan_ev (f : ByteArray) : Ev (fun k => skiffref1_Scan.f k f) (scanV f) := by
 unfold skiffref1_Scan.f scanV skiffref1_FlashMay.f
 by_cases h : f.size = 768
 ·have e : ((f.size : Int) == 768) = true := by simp; omega
  simp only [Option.bind_some, e, if_true, if_pos h]
  exact rscan_all f h
 ·have e : ((f.size : Int) == 768) = false := by simp; omega
  simp only [Option.bind_some, e, if_neg h]
  exact Ev.now _
/-- The first place from j on, of n, that is blank. -/
def freeL (f : ByteArray) (j : Nat) : Nat → Int × Bool × Int
 | 0 => (0, false, 0)
 | n + 1 => if pl f j = ff 24 then (24 * (j : Int), true, 0) else freeL f (j + 1) n
def freeV (f : ByteArray) (s : Int) : Int × Bool × Int := if f.size = 768 ∧ 0 ≤ s ∧ s < 2 then freeL f (4 * s.toNat) 4 else (0, false, 500)
theorem free_go (f : ByteArray) (hf : f.size = 768) (s : Nat) (hs : s < 2) (n : Nat) : ∀ (i : Nat), i + n = 4 → Ev (fun k => journal_Free.l0 k f (s : Int) (i : Int)) (freeL f (4 * s + i) n) := by
 induction n with
 | zero =>
  intro i hi
  obtain rfl : i = 4 := by omega
  exact Ev.one fun k => by rw [journal_Free.l0, if_neg (by omega)]; rfl
 | succ n ih =>
  intro i hi
  have h1 := ih (i + 1) (by omega)
  have w : wrap64 ((i : Int) + 1) = ((i + 1 : Nat) : Int) := by rw [wrap_id (by omega)]; omega
  have wb : wrap64 ((s : Int) * 96) = 96 * (s : Int) := by rw [wrap_id (by omega)]; omega
  have wp : wrap64 (96 * (s : Int) + wrap64 ((i : Int) * 24)) = 24 * ((4 * s + i : Nat) : Int) := by rw [wrap_id (x := (i : Int) * 24) (by omega), wrap_id (by omega)]; omega
  have rp : strings_Repeat.f ⟨#[255]⟩ 24 = some (ff 24) := repeat_ff 24 (by omega) (by omega)
  refine Ev.step (f := fun k => if pl f (4 * s + i) = ff 24 then some (24 * ((4 * s + i : Nat) : Int), true, 0) else journal_Free.l0 k f (s : Int) ((i + 1 : Nat) : Int)) (fun k => ?_) ?_
  ·rw [journal_Free.l0, if_pos (by omega)]
   unfold journal_Begin.f
   rw [Option.bind_some, wb, wp, at_eq f (4 * s + i) hf (by omega) _ rfl, Option.bind_some, rp, Option.bind_some, w]
   by_cases c : pl f (4 * s + i) = ff 24
   ·rw [if_pos c, if_pos (by rw [c])]
   ·rw [if_neg c, if_neg (fun x => c (toList_inj.1 x))]
  ·unfold freeL
   by_cases c : pl f (4 * s + i) = ff 24
   ·simp only [if_pos c]; exact Ev.now _
   ·simp only [if_neg c]; exact h1
theorem Free_ev (f : ByteArray) (s : Int) : Ev (fun k => journal_Free.f k f s) (freeV f s) := by
 have no : Ev (fun k => journal_Free.j0 k f s true) (0, false, 500) := Ev.one fun k => by rw [journal_Free.j0, if_pos rfl]
 unfold journal_Free.f freeV nor_May.f
 by_cases h : f.size = 768
 ·have e : ((f.size : Int) == 768) = true := by simp; omega
  simp only [Option.bind_some, e, if_true]
  by_cases h1 : s < 0
  ·simp only [if_pos h1]; rw [if_neg (by omega)]; exact no
  ·simp only [if_neg h1]
   by_cases h2 : s ≥ 2
   ·rw [if_neg (by omega), decide_eq_true h2]; exact no
   ·rw [if_pos (by omega), decide_eq_false h2]
    obtain ⟨n, rfl⟩ := Int.eq_ofNat_of_zero_le (show 0 ≤ s by omega)
    exact Ev.step (fun k => by rw [journal_Free.j0, if_neg (by decide)]; rfl) (free_go f h n (by omega) 4 0 rfl)
 ·have e : ((f.size : Int) == 768) = false := by simp; omega
  simp only [Option.bind_some, e]
  rw [if_neg (by omega)]
  exact no
theorem rfree_go (f : ByteArray) (hf : f.size = 768) (s : Nat) (hs : s < 2) (n : Nat) : ∀ (j : Nat), j + n = 4 * s + 4 → Ev (fun k => skiffref1_FreePlace.l0 k f (s : Int) (24 * (j : Int))) (freeL f j n) := by
 have w1 : wrap64 ((s : Int) + 1) = ((s + 1 : Nat) : Int) := by rw [wrap_id (by omega)]; omega
 have w2 : wrap64 (((s + 1 : Nat) : Int) * 96) = 96 * (s : Int) + 96 := by rw [wrap_id (by omega)]; omega
 induction n with
 | zero =>
  intro j hj
  obtain rfl : j = 4 * s + 4 := by omega
  exact Ev.one fun k => by rw [skiffref1_FreePlace.l0, w1, w2, if_neg (by rw [wrap_id (by omega)]; omega)]; rfl
 | succ n ih =>
  intro j hj
  have h1 := ih (j + 1) (by omega)
  have w : wrap64 (24 * (j : Int) + 24) = 24 * ((j + 1 : Nat) : Int) := by rw [wrap_id (by omega)]; omega
  refine Ev.step (f := fun k => (skiffref1_full.f k 24).bind fun t405 => (if (pl f j).toList = t405.toList then (some (24 * (j : Int), true, 0)) else (skiffref1_FreePlace.l0 k f (s : Int) (24 * ((j + 1 : Nat) : Int))))) (fun k => ?_) ?_
  ·rw [skiffref1_FreePlace.l0, w1, w2, w, if_pos (by omega), if_pos (by omega), if_pos (by omega), if_pos (by omega), show f.extract (24 * (j : Int)).toNat (24 * ((j + 1 : Nat) : Int)).toNat = pl f j by unfold pl; congr 1 <;> omega]
  ·refine Ev.bind (full_ev 24 (by omega) (by omega)) ?_
   unfold freeL
   by_cases c : pl f j = ff 24
   ·have e : (pl f j).toList = (ff (24 : Int).toNat).toList := by rw [c]; rfl
    simp only [if_pos c, if_pos e]; exact Ev.now _
   ·have e : ¬ (pl f j).toList = (ff (24 : Int).toNat).toList := fun x => c (toList_inj.1 x)
    simp only [if_neg c, if_neg e]; exact h1
theorem ref_Free_ev (f : ByteArray) (s : Int) : Ev (fun k => skiffref1_FreePlace.f k f s) (freeV f s) := by
 have no : Ev (fun k => skiffref1_FreePlace.j0 k f s true) (0, false, 500) := Ev.one fun k => by rw [skiffref1_FreePlace.j0, if_pos rfl]
 unfold skiffref1_FreePlace.f freeV skiffref1_FlashMay.f
 by_cases h : f.size = 768
 ·have e : ((f.size : Int) == 768) = true := by simp; omega
  simp only [Option.bind_some, e, if_true, upTo_eq]
  by_cases h1 : 0 ≤ s ∧ s ≤ 1
  ·rw [if_pos (by omega), decide_eq_true h1]
   obtain ⟨n, rfl⟩ := Int.eq_ofNat_of_zero_le h1.1
   exact Ev.step (fun k => by rw [skiffref1_FreePlace.j0, if_neg (by decide), wrap_id (x := (n : Int) * 96) (by omega), show (n : Int) * 96 = 24 * ((4 * n : Nat) : Int) by omega]) (rfree_go f h n (by omega) 4 (4 * n) rfl)
  ·rw [if_neg (by omega), decide_eq_false h1]
   exact no
 ·have e : ((f.size : Int) == 768) = false := by simp; omega
  simp only [Option.bind_some, e]
  rw [if_neg (by omega)]
  exact no
end Go.Proofs.Ytjihlabmddfjhaa.M
/- Plain facts: the flash of one record that the laws begin with; no memory in sight. -/
set_option linter.unnecessarySimpa false
set_option linter.unusedSimpArgs false
set_option linter.unusedVariables false
namespace Go.Proofs.Ytjihlabmddfjhaa.M
open Go.RowKit Go.Proofs.YtjihlabmddfjhaaW.PrintWords Go.Proofs.YtjihlabmddfjhaaW.PrintLast Go.Proofs.YtjihlabmddfjhaaW.PrintMore Go.Proofs.Ytjihlabmddfjhaa.Hand Go.Proofs.Ytjihlabmddfjhaa.PAll
theorem tn_all (j : Nat) (h : j < 4) : tn 32 j = 8 := by rw [tn_eq _ _ (by omega)]; omega
/-- The first m bytes of t stand from a on in a flash that is G elsewhere. -/
def onto (G : ByteArray) (a : Nat) (t : ByteArray) (m : Nat) (F : ByteArray) : Prop := F.size = 768 ∧ ∀ i : Nat, i < 768 → bt F i = if a ≤ i ∧ i < a + m ∧ i - a < t.size then bt t ((i - a : Nat) : Int) else bt G i
theorem onto_step (G : ByteArray) (a : Nat) (t F : ByteArray) (j : Nat) (h : onto G a t (4 * j) F) (hG : ∀ i, a ≤ i → i < a + 4 * many t → bt G ((i : Nat) : Int) = 255) (hj : j < many t) (hr : a + 4 * many t ≤ 768) : onto G a t (4 * (j + 1)) (tornF F (a + 4 * j) (wordAt t j) 32) := by
 obtain ⟨h1, h2⟩ := h
 have hj4 : 4 * j < t.size := by unfold many at hj; omega
 refine ⟨by rw [tornF_size _ _ _ _ (by omega)]; exact h1, fun i hi => ?_⟩
 rw [tornF_bt _ _ _ _ (by omega) i (by omega), h2 i hi]
 by_cases c : a + 4 * j ≤ i ∧ i < a + 4 * j + 4
 ·rw [if_pos c, if_neg (by omega), tn_all _ (by omega), hG i (by omega) (by omega), clr_blank _ (bt_u8 _ _).1 (bt_u8 _ _).2 8 rfl, wordAt_bt t j _ hj4 (by omega)]
  by_cases c2 : i - a < t.size
  ·rw [if_pos (by omega), if_pos (by omega)]; congr 1; omega
  ·rw [if_neg (by omega), if_neg (by omega)]
 ·rw [if_neg c]
  by_cases c2 : a ≤ i ∧ i < a + 4 * j ∧ i - a < t.size
  ·rw [if_pos c2, if_pos (by omega)]
  ·rw [if_neg c2, if_neg (by omega)]
/-- All steps, one behind the other. -/
def doL (F : ByteArray) (l : List S35) : ByteArray := l.foldl (fun F o => (cutV F o.f0 o.f1 o.f2 96).1) F
theorem doL_cons (F : ByteArray) (o : S35) (l : List S35) : doL F (o :: l) = doL (cutV F o.f0 o.f1 o.f2 96).1 l := rfl
theorem doL_at (F : ByteArray) (l : List S35) (i : Nat) (h : i < l.length) : doL F (l.drop i) = doL (cutV F (rd_T35 l i).f0 (rd_T35 l i).f1 (rd_T35 l i).f2 96).1 (l.drop (i + 1)) := by
 have e : rd_T35 l i = l[i] := by simp [rd_T35, List.getD_eq_getElem?_getD, List.getElem?_eq_getElem h]
 rw [List.drop_eq_getElem_cons h, doL_cons, e]
theorem doL_end (F : ByteArray) (l : List S35) : doL F (l.drop l.length) = F := by rw [List.drop_length]; rfl
theorem onto_all (G : ByteArray) (a : Nat) (t : ByteArray) (ha : a % 4 = 0) (hG : ∀ i, a ≤ i → i < a + 4 * many t → bt G ((i : Nat) : Int) = 255) (hr : a + 4 * many t ≤ 768) (d : Nat) :
  ∀ (j : Nat) (F : ByteArray), j + d = many t → onto G a t (4 * j) F → onto G a t (4 * many t) (doL F ((wl a t (many t)).drop j)) := by
 induction d with
 | zero =>
  intro j F hj h
  obtain rfl : j = many t := by omega
  have := doL_end F (wl a t (many t))
  rw [wl_length] at this
  rw [this]
  exact h
 | succ d ih =>
  intro j F hj h
  have hs := onto_step G a t F j h hG (by omega) hr
  have hjm : j < many t := by omega
  have hj4 : 4 * j < t.size := by unfold many at hjm; omega
  have ok : cutOk F false ((a : Int) + 4 * (j : Int)) (wordAt t j) 96 := by
   refine ⟨h.1, ?_, by omega, by omega⟩
   unfold opMay
   rw [if_neg (by decide), decide_eq_true_eq]
   have := wordAt_size t j hj4
   omega
  have hv : (cutV F false ((a : Int) + 4 * (j : Int)) (wordAt t j) 96).1 = tornF F (a + 4 * j) (wordAt t j) 32 := by
   unfold cutV
   rw [if_pos ok]
   unfold doF
   rw [if_neg (by decide)]
   show tornF F ((a : Int) + 4 * (j : Int)).toNat (wordAt t j) (mn 96 32) = _
   rw [show ((a : Int) + 4 * (j : Int)).toNat = a + 4 * j by omega]
   rfl
  rw [doL_at F _ j (by rw [wl_length]; omega), wl_rd _ _ _ _ (by omega)]
  show onto G a t (4 * many t) (doL (cutV F false ((a : Int) + 4 * (j : Int)) (wordAt t j) 96).1 ((wl a t (many t)).drop (j + 1)))
  rw [hv]
  exact ih (j + 1) _ (by omega) hs
/-- A text laid down at a place that is blank. -/
theorem lay (G : ByteArray) (a : Nat) (t : ByteArray) (hs : G.size = 768) (ha : a % 4 = 0) (hG : ∀ i, a ≤ i → i < a + 4 * many t → bt G ((i : Nat) : Int) = 255) (hr : a + 4 * many t ≤ 768) :
  (doL G (wl a t (many t))).size = 768 ∧ ∀ i : Nat, i < 768 → bt (doL G (wl a t (many t))) i = if a ≤ i ∧ i < a + t.size then bt t ((i - a : Nat) : Int) else bt G i := by
 have h0 : onto G a t (4 * 0) G := ⟨hs, fun i hi => by rw [if_neg (by omega)]⟩
 obtain ⟨h1, h2⟩ := onto_all G a t ha hG hr (many t) 0 G (by omega) h0
 rw [List.drop_zero] at h1 h2
 refine ⟨h1, fun i hi => ?_⟩
 rw [h2 i hi]
 have : t.size ≤ 4 * many t := by unfold many; omega
 by_cases c : a ≤ i ∧ i < a + t.size
 ·rw [if_pos c, if_pos (by omega)]
 ·rw [if_neg c, if_neg (by omega)]
/-- "ab", six times. -/
def ab : ByteArray := ⟨#[97, 98, 97, 98, 97, 98, 97, 98, 97, 98, 97, 98]⟩
def abSum : Int := 3146506012
theorem ab_crc : Ev (fun k => skiffref1_Crc.f k ab) abSum := Ev.of (fun k => skiffref1_Crc.mono ab k) (k := 200) (by kernel_rfl)
theorem ab_many : many ab = 3 := rfl
theorem ab_size : ab.size = 12 := rfl
def held1 : ByteArray := doL (ff 768) (wl (192 : Nat) ab (many ab))
theorem held1_size : held1.size = 768 := (lay (ff 768) 192 ab (ff_size 768) rfl (fun i h1 h2 => ff_bt 768 i (by rw [ab_many] at h2; omega)) (by rw [ab_many]; omega)).1
theorem held1_bt (i : Nat) (hi : i < 768) : bt held1 i = if 192 ≤ i ∧ i < 204 then bt ab ((i - 192 : Nat) : Int) else 255 := by
 have := (lay (ff 768) 192 ab (ff_size 768) rfl (fun i h1 h2 => ff_bt 768 i (by rw [ab_many] at h2; omega)) (by rw [ab_many]; omega)).2 i hi
 rw [ab_size, ff_bt _ _ hi] at this
 exact this
def rec1 : ByteArray := ent 1 0 12 abSum
theorem rec1_size : rec1.size = 24 := ent_size _ _ _ _
theorem rec1_many : many rec1 = 6 := by unfold many; rw [rec1_size]
def heldF : ByteArray := doL held1 (wl (0 : Nat) rec1 (many rec1))
theorem heldF_lay : heldF.size = 768 ∧ ∀ i : Nat, i < 768 → bt heldF i = if 0 ≤ i ∧ i < 0 + rec1.size then bt rec1 ((i - 0 : Nat) : Int) else bt held1 i :=
 lay held1 0 rec1 held1_size rfl (fun i h1 h2 => by rw [rec1_many] at h2; rw [held1_bt i (by omega), if_neg (by omega)]) (by rw [rec1_many]; omega)
theorem heldF_size : heldF.size = 768 := heldF_lay.1
theorem heldF_bt (i : Nat) (hi : i < 768) : bt heldF i = if i < 24 then bt rec1 (i : Int) else if 192 ≤ i ∧ i < 204 then bt ab ((i - 192 : Nat) : Int) else 255 := by
 rw [heldF_lay.2 i hi, rec1_size, held1_bt i hi]
 by_cases c : i < 24
 ·rw [if_pos c, if_pos (by omega)]; rfl
 ·rw [if_neg c, if_neg (by omega)]
theorem pl_size (f : ByteArray) (j : Nat) (hf : f.size = 768) (hj : j < 8) : (pl f j).size = 24 := by unfold pl; rw [ByteArray.size_extract]; omega
theorem pl_bt (f : ByteArray) (j : Nat) (hf : f.size = 768) (hj : j < 8) (i : Nat) (hi : i < 24) : bt (pl f j) (i : Int) = bt f ((24 * j + i : Nat) : Int) := bt_extract f _ _ i (by omega)
theorem pl_blank (f : ByteArray) (j : Nat) (hf : f.size = 768) (hj : j < 8) (h : ∀ i, 24 * j ≤ i → i < 24 * j + 24 → bt f ((i : Nat) : Int) = 255) : pl f j = ff 24 := by
 apply bt_ext
 ·rw [pl_size f j hf hj, ff_size]
 ·intro i hi
  rw [pl_size f j hf hj] at hi
  rw [pl_bt f j hf hj i hi, h _ (by omega) (by omega), ff_bt _ _ hi]
theorem getV_ff : getV (ff 24) = (0, 0, 0, 0, 400) := by
 unfold getV
 rw [if_neg]
 rintro ⟨_, h, _⟩
 have := h 0 (by omega)
 rw [ff_bt 24 (12 + 0) (by omega), ff_bt 24 0 (by omega)] at this
 omega
theorem told_ff (j : Nat) : told j (getV (ff 24)) = [] := by rw [getV_ff]; rfl
/-- No records stand in a flash of which all places are blank. -/
theorem scanL_blank (f : ByteArray) (n : Nat) (h : ∀ j, j < n → pl f j = ff 24) : scanL f n = [] := by
 induction n with
 | zero => rfl
 | succ n ih => rw [scanL, ih (fun j hj => h j (by omega)), h n (by omega), told_ff]; rfl
theorem scanV_held1 : scanV held1 = ([], 0) := by
 unfold scanV
 rw [if_pos held1_size, scanL_blank held1 8 (fun j hj => pl_blank held1 j held1_size hj (fun i h1 h2 => by rw [held1_bt i (by omega), if_neg (by omega)]))]
theorem pl_heldF0 : pl heldF 0 = rec1 := by
 apply bt_ext
 ·rw [pl_size _ _ heldF_size (by omega), rec1_size]
 ·intro i hi
  rw [pl_size _ _ heldF_size (by omega)] at hi
  rw [pl_bt _ _ heldF_size (by omega) i hi, heldF_bt _ (by omega), if_pos (by omega)]
  congr 1; omega
theorem pl_heldF (j : Nat) (h0 : 0 < j) (h : j < 8) : pl heldF j = ff 24 := pl_blank heldF j heldF_size h (fun i h1 h2 => by rw [heldF_bt i (by omega), if_neg (by omega), if_neg (by omega)])
theorem rec1_may : recMay 1 0 12 abSum = true := by decide
def place1 : S59 := ⟨0, ⟨1, 0, 12, abSum⟩⟩
theorem scanL_heldF (n : Nat) (h0 : 0 < n) (h : n ≤ 8) : scanL heldF n = [place1] := by
 induction n with
 | zero => omega
 | succ n ih =>
  rw [scanL]
  by_cases c : n = 0
  ·subst c
   rw [pl_heldF0, rec1, getV_ent _ _ _ _ rec1_may]; rfl
  ·rw [ih (by omega) (by omega), pl_heldF n (by omega) (by omega), told_ff]; rfl
theorem scanV_heldF : scanV heldF = ([place1], 0) := by unfold scanV; rw [if_pos heldF_size, scanL_heldF 8 (by omega) (by omega)]
theorem rec1_ne : rec1 ≠ ff 24 := by
 intro h
 have := getV_ent _ _ _ _ rec1_may
 rw [show ent 1 0 12 abSum = ff 24 from h, getV_ff] at this
 exact absurd this (by decide)
theorem freeV_heldF : freeV heldF 0 = (24, true, 0) := by
 unfold freeV
 rw [if_pos ⟨heldF_size, by omega, by omega⟩]
 show freeL heldF 0 4 = _
 rw [freeL, pl_heldF0, if_neg rec1_ne, freeL, pl_heldF 1 (by omega) (by omega), if_pos rfl]; rfl
theorem freeV_held1 : freeV held1 0 = (0, true, 0) := by
 unfold freeV
 rw [if_pos ⟨held1_size, by omega, by omega⟩]
 show freeL held1 0 4 = _
 rw [freeL, pl_blank held1 0 held1_size (by omega) (fun i h1 h2 => by rw [held1_bt i (by omega), if_neg (by omega)]), if_pos rfl]; rfl
theorem held1_ab : held1.extract 192 204 = ab := by
 apply bt_ext
 ·rw [ByteArray.size_extract, held1_size, ab_size]; omega
 ·intro i hi
  rw [ByteArray.size_extract, held1_size] at hi
  rw [bt_extract _ _ _ _ (by rw [held1_size]; omega), held1_bt _ (by omega), if_pos (by omega), show 192 + i - 192 = i by omega]
theorem Next_held1 : Ev (fun k => skiffref1_NextSeq.f k held1) (1, 0) := by
 have h := ref_Scan_ev held1
 rw [scanV_held1] at h
 unfold skiffref1_NextSeq.f
 refine Ev.bind h ?_
 exact Ev.one fun k => by
  show skiffref1_NextSeq.l0 (k + 1) [] 0 0 = _
  rw [skiffref1_NextSeq.l0, if_neg (by decide), if_neg (by decide), show wrap64 (0 + 1) = 1 by unfold wrap64; omega]
theorem RecordOf_held1 : Ev (fun k => skiffref1_RecordOf.f k held1 0 12) (1, 0, 12, abSum, 0) := by
 have hb : skiffref1_Base.f 0 = some (192, 0) := by kernel_rfl
 have hs := held1_size
 have e : ((held1.size : Int) == 768) = true := by rw [hs]; rfl
 have w204 : wrap64 (192 + 12) = 204 := by unfold wrap64; omega
 have hx : held1.extract (192 : Int).toNat (204 : Int).toNat = ab := held1_ab
 unfold skiffref1_RecordOf.f skiffref1_FlashMay.f
 simp only [hb, Option.bind_some, e, if_true, upTo_eq]
 refine Ev.step (f := fun k => (skiffref1_NextSeq.f k held1).bind fun bt380 => (if bt380.2 = 0 then ((skiffref1_Crc.f k ab).bind fun t382 => (some (bt380.1, 0, 12, t382, 0))) else (some (0, 0, 0, 0, bt380.2)))) (fun k => ?_) ?_
 ·rw [skiffref1_RecordOf.j0, if_neg (by decide), w204, hx]
  simp only [if_pos (show (0 : Int) ≤ 192 by decide), if_pos (show (192 : Int) ≤ 204 by decide), if_pos (show (204 : Int) ≤ (held1.size : Int) by rw [hs]; decide)]
 ·refine Ev.bind Next_held1 ?_
  simp only [if_true]
  exact Ev.bind ab_crc (Ev.now _)
theorem Active_held1 : Ev (fun k => skiffref1_Active.f k held1) (0, 0, 0, 0, 0, 701) := by
 have h := ref_Scan_ev held1
 rw [scanV_held1] at h
 unfold skiffref1_Active.f
 refine Ev.bind h ?_
 exact Ev.one fun k => by
  show skiffref1_Active.l0 (k + 1) held1 [] (-1) 0 = _
  rw [skiffref1_Active.l0, if_neg (by decide), if_pos (by decide)]
theorem wordsV_rec1 : wordsV 0 rec1 = (wl (0 : Nat) rec1 (many rec1), 0) := by
 unfold wordsV
 rw [if_pos ⟨by omega, by omega, by decide, by rw [rec1_size]; omega⟩]; rfl
theorem wordsV_ab : wordsV 192 ab = (wl (192 : Nat) ab (many ab), 0) := by
 unfold wordsV
 rw [if_pos ⟨by omega, by omega, by decide, by rw [ab_size]; omega⟩]; rfl
theorem Append_held1 : Ev (fun k => skiffref1_Append.f k held1 1 0 12 abSum) (wl (0 : Nat) rec1 (many rec1), 0) := by
 have hp := PutEntry_ev 1 0 12 abSum
 rw [show putV 1 0 12 abSum = (rec1, 0) from by unfold putV; rw [if_pos rec1_may]; rfl] at hp
 have e : ((held1.size : Int) == 768) = true := by rw [held1_size]; rfl
 have hf := ref_Free_ev held1 0
 rw [freeV_held1] at hf
 have hw := ref_Words_ev 0 rec1 (by omega) (by rw [rec1_size]; omega)
 rw [wordsV_rec1] at hw
 unfold skiffref1_Append.f skiffref1_FlashMay.f
 refine Ev.bind hp ?_
 simp only [Option.bind_some, e, if_true]
 refine Ev.step (f := fun k => (skiffref1_Active.f k held1).bind fun bt410 => (if bt410.2.2.2.2.2 = 0 then (skiffref1_Append.j1 k held1 rec1 (wrap64 (Int.tdiv bt410.1 96))) else (skiffref1_Append.j1 k held1 rec1 0))) (fun k => by rw [skiffref1_Append.j0]; rfl) ?_
 refine Ev.bind Active_held1 ?_
 simp only [show ¬ ((701 : Int) = 0) by decide, if_false]
 refine Ev.step (fun k => by rw [skiffref1_Append.j1]) ?_
 refine Ev.bind hf ?_
 simp only [if_true]
 refine Ev.bind hw ?_
 have hl : ([] : List S35).length + (wl (0 : Nat) rec1 (many rec1)).length < 4398046511104 := by rw [wl_length, rec1_many]; decide
 simp only [if_pos hl]
 exact Ev.now _
end Go.Proofs.Ytjihlabmddfjhaa.M
/- Plain facts: what every program answers that is one, of package journal; no memory in sight. -/
set_option linter.unnecessarySimpa false
set_option linter.unusedSimpArgs false
set_option linter.unusedVariables false
namespace Go.Proofs.Ytjihlabmddfjhaa.M
open Go.RowKit Go.Proofs.YtjihlabmddfjhaaW.PrintWords Go.Proofs.YtjihlabmddfjhaaW.PrintLast Go.Proofs.YtjihlabmddfjhaaW.PrintMore Go.Proofs.Ytjihlabmddfjhaa.Hand Go.Proofs.Ytjihlabmddfjhaa.PAll
theorem Num_eq (x : Int) : skifflaw0_Num.f x = some x := rfl
theorem held5_l1 (l : List S35) (hl : l.length ≤ 1000) (d : Nat) : ∀ (i : Nat) (F : ByteArray), i + d = l.length → Ev (fun k => skifflaw5_held.l1 k F l (i : Int)) (doL F (l.drop i)) := by
 induction d with
 | zero =>
  intro i F hi
  obtain rfl : i = l.length := by omega
  rw [doL_end]
  exact Ev.one fun k => by rw [skifflaw5_held.l1, if_neg (by omega)]
 | succ d ih =>
  intro i F hi
  rw [doL_at F l i (by omega)]
  have w : wrap64 ((i : Int) + 1) = ((i + 1 : Nat) : Int) := by rw [wrap_id (by omega)]; omega
  refine Ev.step (fun k => by rw [skifflaw5_held.l1, if_pos (by omega), if_pos (by omega), w]) ?_
  refine Ev.bind (ref_Do_ev F _ _ _) ?_
  exact ih (i + 1) _ (by omega)
theorem held5_l0 (l : List S35) (hl : l.length ≤ 1000) (r : ByteArray) (hr : Ev (fun k => skifflaw5_held.l0 k (doL (ff 768) l) l (l.length : Int)) r) (d : Nat) : ∀ (i : Nat) (F : ByteArray), i + d = l.length → doL F (l.drop i) = doL (ff 768) l → Ev (fun k => skifflaw5_held.l0 k F l (i : Int)) r := by
 induction d with
 | zero =>
  intro i F hi he
  obtain rfl : i = l.length := by omega
  rw [doL_end] at he
  rw [he]; exact hr
 | succ d ih =>
  intro i F hi he
  rw [doL_at F l i (by omega)] at he
  have w : wrap64 ((i : Int) + 1) = ((i + 1 : Nat) : Int) := by rw [wrap_id (by omega)]; omega
  refine Ev.step (fun k => by rw [skifflaw5_held.l0, if_pos (by omega), if_pos (by omega), w]) ?_
  refine Ev.bind (ref_Do_ev F _ _ _) ?_
  exact ih (i + 1) _ (by omega) he
theorem held5 : Ev (fun k => skifflaw5_held.f k) heldF := by
 have hw := ref_Words_ev 192 ab (by omega) (by rw [ab_size]; omega)
 rw [wordsV_ab] at hw
 unfold skifflaw5_held.f
 refine Ev.bind Blank_ev ?_
 refine Ev.bind hw ?_
 have hl : (wl (192 : Nat) ab (many ab)).length ≤ 1000 := by rw [wl_length, ab_many]; omega
 refine held5_l0 _ hl heldF ?_ (wl (192 : Nat) ab (many ab)).length 0 (ff 768) (by omega) rfl
 refine Ev.step (fun k => by rw [skifflaw5_held.l0, if_neg (by omega)]) ?_
 refine Ev.bind RecordOf_held1 ?_
 refine Ev.bind Append_held1 ?_
 have hl2 : (wl (0 : Nat) rec1 (many rec1)).length ≤ 1000 := by rw [wl_length, rec1_many]; omega
 exact held5_l1 _ hl2 (wl (0 : Nat) rec1 (many rec1)).length 0 held1 (by omega)
theorem awake5 : Ev (fun k => skifflaw5_awake.f k) true := by
 have h1 := Scan_ev heldF
 rw [scanV_heldF] at h1
 have h2 := Free_ev heldF 0
 rw [freeV_heldF] at h2
 have h3 := Free_ev heldF 2
 rw [show freeV heldF 2 = (0, false, 500) by unfold freeV; rw [if_neg (by omega)]] at h3
 have h4 := Scan_ev ⟨#[]⟩
 rw [show scanV ⟨#[]⟩ = ([], 500) by unfold scanV; rw [if_neg (by decide)]] at h4
 unfold skifflaw5_awake.f
 refine Ev.bind held5 (Ev.bind h1 (Ev.bind held5 (Ev.bind h2 (Ev.bind held5 (Ev.bind h3 (Ev.bind h4 ?_))))))
 exact Ev.always fun k => by
  simp only [Num_eq, Option.bind_some]
  rw [if_pos (by decide), if_pos (by decide), if_pos (by decide), if_pos (by decide), if_pos (by decide)]
  simp
theorem same59_go (l : List S59) (hl : l.length ≤ 4611686018427387904) (d : Nat) : ∀ (k i : Nat), i ≤ l.length → l.length - i = d → d < k → skifflaw0_SamePlaces.l0 k l l (i : Int) = some true := by
 induction d with
 | zero =>
  intro k i hi hd hk
  obtain ⟨k, rfl⟩ : ∃ m, k = m + 1 := ⟨k - 1, by omega⟩
  rw [skifflaw0_SamePlaces.l0, if_neg (by omega)]
 | succ d ih =>
  intro k i hi hd hk
  obtain ⟨k, rfl⟩ : ∃ m, k = m + 1 := ⟨k - 1, by omega⟩
  have w : wrap64 ((i : Int) + 1) = ((i + 1 : Nat) : Int) := by rw [wrap_id (by omega)]; omega
  rw [skifflaw0_SamePlaces.l0, if_pos (by omega), if_pos (by omega), if_pos (by omega), if_neg (by simp), w]
  exact ih k (i + 1) (by omega) (by omega) (by omega)
theorem same59 (l : List S59) (hl : l.length ≤ 4611686018427387904) : Ev (fun k => skifflaw0_SamePlaces.f k l l) true := by
 unfold skifflaw0_SamePlaces.f
 refine ⟨l.length + 1, fun k hk => ?_⟩
 show (if (l.length : Int) = (l.length : Int) then skifflaw0_SamePlaces.l0 k l l 0 else some false) = some true
 rw [if_pos rfl]
 exact same59_go l hl l.length k 0 (by omega) (by omega) (by omega)
end Go.Proofs.Ytjihlabmddfjhaa.M
/- The plain law of JournalRow: no program in sight. -/
set_option linter.unnecessarySimpa false
set_option linter.unusedSimpArgs false
set_option linter.unusedVariables false
namespace Go.Proofs.Ytjihlabmddfjhaa.Pure
open Go.RowKit Go.Proofs.Ytjihlabmddfjhaa.Hand Go.Proofs.Ytjihlabmddfjhaa.PAll Go.Proofs.YtjihlabmddfjhaaW.PrintWords Go.Proofs.YtjihlabmddfjhaaW.PrintLast Go.Proofs.Ytjihlabmddfjhaa.M
/-- What stands in place j: a record, junk, nothing. -/
def kd (a0 a1 : Int) (j : Nat) : Nat := if Go.bits .and .i64 (shr .i64 a0 (j : Int)) 1 = 1 then 0 else if Go.bits .and .i64 (shr .i64 a1 (j : Int)) 1 = 1 then 1 else 2
def rowE (j : Nat) : ByteArray := ent (1 + (j : Int)) ((j % 2 : Nat) : Int) (5 + (j : Int)) (100 + (j : Int))
def junk (j : Nat) : ByteArray := if j % 2 = 0 then (((⟨#[0]⟩ : ByteArray) ++ (rowE j).extract 1 24).extract 0 23) ++ (⟨#[0]⟩ : ByteArray) else (⟨#[0]⟩ : ByteArray) ++ (rowE j).extract 1 24
def row (j k : Nat) : ByteArray := if k = 0 then rowE j else if k = 1 then junk j else ff 24
def wantP (j k : Nat) : List S59 := if k = 0 then [⟨24 * (j : Int), ⟨1 + (j : Int), ((j % 2 : Nat) : Int), 5 + (j : Int), 100 + (j : Int)⟩⟩] else []
theorem rowE_size (j : Nat) : (rowE j).size = 24 := ent_size _ _ _ _
theorem cut1_size (j : Nat) : ((⟨#[0]⟩ : ByteArray) ++ (rowE j).extract 1 24).size = 24 := by rw [ByteArray.size_append, ByteArray.size_extract, rowE_size]; rfl
theorem junk_size (j : Nat) : (junk j).size = 24 := by
 unfold junk; split
 ·rw [ByteArray.size_append, ByteArray.size_extract, cut1_size]; rfl
 ·exact cut1_size j
theorem row_size (j k : Nat) : (row j k).size = 24 := by
 unfold row; split
 ·exact rowE_size j
 ·split
  ·exact junk_size j
  ·exact ff_size 24
theorem rowE_may (j : Nat) (h : j < 8) : recMay (1 + (j : Int)) ((j % 2 : Nat) : Int) (5 + (j : Int)) (100 + (j : Int)) = true := by unfold recMay; rw [decide_eq_true_eq]; omega
theorem and1 : ∀ j : Nat, j < 8 → Go.bits .and .i64 (j : Int) 1 = ((j % 2 : Nat) : Int) := by decide +kernel
theorem junk_bt0 (j : Nat) : bt (junk j) ((0 : Nat) : Int) = 0 := by
 have e : bt ((⟨#[0]⟩ : ByteArray) ++ (rowE j).extract 1 24) ((0 : Nat) : Int) = 0 := by rw [bt_append, if_pos (by decide)]; rfl
 unfold junk; split
 ·rw [bt_append, if_pos (by rw [ByteArray.size_extract, cut1_size]; omega), bt_extract _ _ _ _ (by rw [cut1_size]; omega)]; exact e
 ·exact e
theorem rowE_bt12 (j : Nat) (h : j < 8) : bt (rowE j) ((12 : Nat) : Int) = 254 - (j : Int) := by
 have := (ent_bt (1 + (j : Int)) ((j % 2 : Nat) : Int) (5 + (j : Int)) (100 + (j : Int)) 0 (by omega)).2
 rw [show (entL (1 + (j : Int)) ((j % 2 : Nat) : Int) (5 + (j : Int)) (100 + (j : Int))).getD 0 0 = lb (1 + (j : Int)) 0 from rfl] at this
 refine this.trans ?_
 unfold lb
 simp only [Nat.mul_zero, show (2 : Int) ^ 0 = 1 from rfl]
 omega
theorem junk_bt12 (j : Nat) (h : j < 8) : bt (junk j) ((12 : Nat) : Int) = 254 - (j : Int) := by
 have e : bt ((⟨#[0]⟩ : ByteArray) ++ (rowE j).extract 1 24) ((12 : Nat) : Int) = 254 - (j : Int) := by
  rw [bt_append, if_neg (by decide), show (12 - (⟨#[0]⟩ : ByteArray).size) = 11 from rfl, bt_extract _ _ _ _ (by rw [rowE_size]; omega)]
  exact rowE_bt12 j h
 unfold junk; split
 ·rw [bt_append, if_pos (by rw [ByteArray.size_extract, cut1_size]; omega), bt_extract _ _ _ _ (by rw [cut1_size]; omega)]; exact e
 ·exact e
theorem junk_ne (j : Nat) : junk j ≠ ff 24 := by
 intro h
 have := junk_bt0 j
 rw [h, ff_bt 24 0 (by omega)] at this
 omega
theorem getV_junk (j : Nat) (h : j < 8) : getV (junk j) = (0, 0, 0, 0, 400) := by
 unfold getV
 rw [if_neg]
 rintro ⟨_, hc, _⟩
 have := hc 0 (by omega)
 rw [junk_bt0, show (12 + 0 : Nat) = 12 from rfl, junk_bt12 j h] at this
 omega
theorem told_row (j k : Nat) (h : j < 8) : told j (getV (row j k)) = wantP j k := by
 unfold row wantP
 by_cases c : k = 0
 ·rw [if_pos c, if_pos c, rowE, getV_ent _ _ _ _ (rowE_may j h)]; rfl
 ·rw [if_neg c, if_neg c]
  by_cases c1 : k = 1
  ·rw [if_pos c1, getV_junk j h]; rfl
  ·rw [if_neg c1, told_ff]
theorem row_blank (j k : Nat) (h : j < 8) (hk : k < 3) : row j k = ff 24 ↔ k = 2 := by
 unfold row
 by_cases c : k = 0
 ·rw [if_pos c]
  constructor
  ·intro e
   have := getV_ent _ _ _ _ (rowE_may j h)
   rw [show ent (1 + (j : Int)) ((j % 2 : Nat) : Int) (5 + (j : Int)) (100 + (j : Int)) = ff 24 from e, getV_ff] at this
   have e4 := congrArg (fun x => x.2.2.2.2) this
   exact absurd (show (400 : Int) = 0 from e4) (by decide)
  ·intro e; omega
 ·rw [if_neg c]
  by_cases c1 : k = 1
  ·rw [if_pos c1]
   exact ⟨fun e => absurd e (junk_ne j), fun e => by omega⟩
  ·rw [if_neg c1]
   exact ⟨fun _ => by omega, fun _ => rfl⟩
theorem kd_lt (a0 a1 : Int) (j : Nat) : kd a0 a1 j < 3 := by 
 unfold kd; split
 ·omega
 ·split <;> omega
section
variable (a0 a1 : Int)
def rowsF : Nat → ByteArray
 | 0 => ⟨#[]⟩
 | j + 1 => rowsF j ++ row j (kd a0 a1 j)
def wantL : Nat → List S59
 | 0 => []
 | j + 1 => wantL j ++ wantP j (kd a0 a1 j)
def firstI : Nat → Int
 | 0 => -1
 | j + 1 => if kd a0 a1 j = 2 ∧ firstI j < 0 ∧ j < 4 then 24 * (j : Int) else firstI j
theorem rowsF_size (j : Nat) : (rowsF a0 a1 j).size = 24 * j := by
 induction j with
 | zero => rfl
 | succ j ih => rw [rowsF, ByteArray.size_append, ih, row_size]; omega
theorem wantL_length (j : Nat) : (wantL a0 a1 j).length ≤ j := by
 induction j with
 | zero => simp [wantL]
 | succ j ih =>
  have : (wantP j (kd a0 a1 j)).length ≤ 1 := by unfold wantP; split <;> simp
  simp only [wantL, List.length_append]; omega
theorem rowsF_bt (i m : Nat) (hm : m < 24) (j : Nat) (h : i < j) : bt (rowsF a0 a1 j) ((24 * i + m : Nat) : Int) = bt (row i (kd a0 a1 i)) (m : Int) := by
 induction j with
 | zero => omega
 | succ j ih =>
  rw [rowsF, bt_append, rowsF_size]
  by_cases c : i < j
  ·rw [if_pos (by omega)]; exact ih c
  ·obtain rfl : i = j := by omega
   rw [if_neg (by omega), show 24 * i + m - 24 * i = m by omega]
/-- The flash that is asked. -/
def rowX : ByteArray := rowsF a0 a1 8 ++ (ff 768).extract 192 (ff 768).size
theorem rowX_size : (rowX a0 a1).size = 768 := by unfold rowX; rw [ByteArray.size_append, ByteArray.size_extract, rowsF_size, ff_size]; omega
theorem rowX_pl (j : Nat) (h : j < 8) : pl (rowX a0 a1) j = row j (kd a0 a1 j) := by
 apply bt_ext
 ·rw [pl_size _ _ (rowX_size a0 a1) h, row_size]
 ·intro i hi
  rw [pl_size _ _ (rowX_size a0 a1) h] at hi
  rw [pl_bt _ _ (rowX_size a0 a1) h i hi]
  unfold rowX
  rw [bt_append, rowsF_size, if_pos (by omega), rowsF_bt a0 a1 j i hi 8 h]
theorem rowX_scan (n : Nat) (h : n ≤ 8) : scanL (rowX a0 a1) n = wantL a0 a1 n := by
 induction n with
 | zero => rfl
 | succ n ih => rw [scanL, wantL, ih (by omega), rowX_pl a0 a1 n (by omega), told_row n _ (by omega)]
theorem firstI_late (j : Nat) (h : 4 ≤ j) : firstI a0 a1 j = firstI a0 a1 4 := by
 induction j with
 | zero => omega
 | succ j ih =>
  by_cases c : j = 3
  ·subst c; rfl
  ·rw [firstI, if_neg (by omega), ih (by omega)]
theorem firstI_free (j : Nat) (h : j ≤ 4) : (firstI a0 a1 j = -1 ∧ freeL (rowX a0 a1) 0 4 = freeL (rowX a0 a1) j (4 - j)) ∨ (0 ≤ firstI a0 a1 j ∧ freeL (rowX a0 a1) 0 4 = (firstI a0 a1 j, true, 0)) := by
 induction j with
 | zero => exact Or.inl ⟨rfl, rfl⟩
 | succ j ih =>
  rcases ih (by omega) with ⟨h1, h2⟩ | ⟨h1, h2⟩
  ·rw [firstI]
   have e : 4 - j = (4 - (j + 1)) + 1 := by omega
   have g : freeL (rowX a0 a1) j (4 - j) = if pl (rowX a0 a1) j = ff 24 then (24 * (j : Int), true, 0) else freeL (rowX a0 a1) (j + 1) (4 - (j + 1)) := by rw [e]; rfl
   rw [g, rowX_pl a0 a1 j (by omega)] at h2
   by_cases c : kd a0 a1 j = 2
   ·rw [if_pos ⟨c, by omega, by omega⟩]
    rw [if_pos ((row_blank j _ (by omega) (kd_lt a0 a1 j)).2 c)] at h2
    exact Or.inr ⟨by omega, h2⟩
   ·rw [if_neg (fun x => c x.1)]
    rw [if_neg (fun x => c ((row_blank j _ (by omega) (kd_lt a0 a1 j)).1 x))] at h2
    exact Or.inl ⟨h1, h2⟩
  ·rw [firstI, if_neg (by omega)]
   exact Or.inr ⟨h1, h2⟩
theorem rowX_free : freeV (rowX a0 a1) 0 = if 0 ≤ firstI a0 a1 8 then (firstI a0 a1 8, true, 0) else (0, false, 0) := by
 unfold freeV
 rw [if_pos ⟨rowX_size a0 a1, by omega, by omega⟩, firstI_late a0 a1 8 (by omega)]
 show freeL (rowX a0 a1) 0 4 = _
 rcases firstI_free a0 a1 4 (by omega) with ⟨h1, h2⟩ | ⟨h1, h2⟩
 ·rw [if_neg (by omega), h2]; rfl
 ·rw [if_pos h1, h2]
theorem row_end : Ev (fun k => skifflaw5_JournalRow.l0 k a0 a1 (rowsF a0 a1 8) (wantL a0 a1 8) (firstI a0 a1 8) ((8 : Nat) : Int)) true := by
 have h1 := Scan_ev (rowX a0 a1)
 rw [show scanV (rowX a0 a1) = (wantL a0 a1 8, 0) by unfold scanV; rw [if_pos (rowX_size a0 a1), rowX_scan a0 a1 8 (by omega)]] at h1
 have h2 := Free_ev (rowX a0 a1) 0
 rw [rowX_free] at h2
 have hs := same59 (wantL a0 a1 8) (by have := wantL_length a0 a1 8; omega)
 have hz := rowX_size a0 a1
 refine Ev.step (fun k => by rw [skifflaw5_JournalRow.l0, if_neg (by omega)]) ?_
 refine Ev.bind Blank_ev ?_
 have c1 : (192 : Int) ≤ ((ff 768).size : Int) := by rw [ff_size]; decide
 have c2 : (rowsF a0 a1 8).size + ((ff 768).extract 192 (ff 768).size).size ≤ 9223372036854775807 := by
  have : (rowX a0 a1).size = _ := ByteArray.size_append
  rw [hz] at this
  omega
 simp only [if_pos c1, if_pos c2]
 refine Ev.bind h1 (Ev.bind h2 ?_)
 simp only [Num_eq, Option.bind_some, if_true]
 refine Ev.bind hs ?_
 simp only [if_true]
 refine Ev.always fun k => ?_
 by_cases c : 0 ≤ firstI a0 a1 8
 ·have d : decide (firstI a0 a1 8 ≥ 0) = true := decide_eq_true c
  simp only [if_pos c, d, beq_self_eq_true, if_true]
 ·have d : decide (firstI a0 a1 8 ≥ 0) = false := decide_eq_false c
  simp only [if_neg c, d, beq_self_eq_true, if_true]
  simp
theorem row_go (d : Nat) : ∀ (j : Nat), j + d = 8 → Ev (fun k => skifflaw5_JournalRow.l0 k a0 a1 (rowsF a0 a1 j) (wantL a0 a1 j) (firstI a0 a1 j) (j : Int)) true := by
 induction d with
 | zero =>
  intro j hj
  obtain rfl : j = 8 := by omega
  exact row_end a0 a1
 | succ d ih =>
  intro j hj
  have h1 := ih (j + 1) (by omega)
  have hj8 : j < 8 := by omega
  have hp := PutEntry_ev (1 + (j : Int)) ((j % 2 : Nat) : Int) (5 + (j : Int)) (100 + (j : Int))
  rw [show putV (1 + (j : Int)) ((j % 2 : Nat) : Int) (5 + (j : Int)) (100 + (j : Int)) = (rowE j, 0) by unfold putV; rw [if_pos (rowE_may j hj8)]; rfl] at hp
  have w : wrap64 ((j : Int) + 1) = ((j + 1 : Nat) : Int) := by rw [wrap_id (by omega)]; omega
  have w1 : wrap64 (1 + (j : Int)) = 1 + (j : Int) := wrap_id (by omega)
  have w5 : wrap64 (5 + (j : Int)) = 5 + (j : Int) := wrap_id (by omega)
  have w100 : wrap64 (100 + (j : Int)) = 100 + (j : Int) := wrap_id (by omega)
  have w24 : wrap64 (24 * (j : Int)) = 24 * (j : Int) := wrap_id (by omega)
  have z0 := rowsF_size a0 a1 j
  have zE := rowE_size j
  have zl := wantL_length a0 a1 j
  refine Ev.step (fun k => by rw [skifflaw5_JournalRow.l0, if_pos (by omega), w, w1, w5, w100, w24, and1 j hj8]) ?_
  refine Ev.bind hp ?_
  have cj : (0 : Int) ≤ (j : Int) := by omega
  simp only [if_pos cj]
  rw [rowsF, wantL, firstI] at h1
  unfold row wantP at h1
  unfold kd at h1
  by_cases c0 : Go.bits .and .i64 (shr .i64 a0 (j : Int)) 1 = 1
  ·simp only [if_pos c0, if_true, show ¬ ((0 : Nat) = 2 ∧ firstI a0 a1 j < 0 ∧ j < 4) by omega, if_false] at h1
   simp only [if_pos c0, if_pos (show (wantL a0 a1 j).length < 3518437208883 by omega), if_pos (show (rowsF a0 a1 j).size + (rowE j).size ≤ 9223372036854775807 by omega)]
   exact h1
  ·simp only [if_neg c0] at h1 ⊢
   by_cases c1 : Go.bits .and .i64 (shr .i64 a1 (j : Int)) 1 = 1
   ·simp only [if_pos c1, show ¬ ((1 : Nat) = 0) by omega, if_false, if_true, List.append_nil, show ¬ ((1 : Nat) = 2 ∧ firstI a0 a1 j < 0 ∧ j < 4) by omega] at h1
    have zc := cut1_size j
    have zx : ((rowE j).extract 1 24).size = 23 := by rw [ByteArray.size_extract, zE]; rfl
    have zy : (((⟨#[0]⟩ : ByteArray) ++ (rowE j).extract 1 24).extract 0 23).size = 23 := by rw [ByteArray.size_extract, zc]; rfl
    have zv : ((((⟨#[0]⟩ : ByteArray) ++ (rowE j).extract 1 24).extract 0 23) ++ (⟨#[0]⟩ : ByteArray)).size = 24 := by rw [ByteArray.size_append, zy]; rfl
    simp only [if_pos c1, zE, zx, if_pos (show (1 : Int) ≤ ((24 : Nat) : Int) by omega), if_pos (show 1 + 23 ≤ 9223372036854775807 by omega)]
    unfold junk at h1
    by_cases c2 : j % 2 = 0
    ·have c2' : ((j % 2 : Nat) : Int) = 0 := by omega
     simp only [if_pos c2] at h1
     simp only [if_pos c2', zc, zy, zv, if_pos (show (0 : Int) ≤ 23 by omega), if_pos (show (23 : Int) ≤ ((24 : Nat) : Int) by omega), if_pos (show 23 + 1 ≤ 9223372036854775807 by omega), if_pos (show (rowsF a0 a1 j).size + 24 ≤ 9223372036854775807 by omega)]
     exact h1
    ·have c2' : ¬ ((j % 2 : Nat) : Int) = 0 := by omega
     simp only [if_neg c2] at h1
     simp only [if_neg c2', zc, if_pos (show (rowsF a0 a1 j).size + 24 ≤ 9223372036854775807 by omega)]
     exact h1
   ·simp only [if_neg c1, show ¬ ((2 : Nat) = 0) by omega, show ¬ ((2 : Nat) = 1) by omega, if_false, List.append_nil, true_and] at h1
    simp only [if_neg c1]
    refine Ev.bind Blank_ev ?_
    have e24 : (ff 768).extract 0 24 = ff 24 := by
     apply bt_ext
     ·rw [ByteArray.size_extract, ff_size, ff_size]; rfl
     ·intro i hi
      rw [ByteArray.size_extract, ff_size] at hi
      rw [bt_extract _ _ _ _ (by rw [ff_size]; omega), ff_bt _ _ (by omega), ff_bt _ _ (by omega)]
    simp only [e24, ff_size, if_pos (show (0 : Int) ≤ 24 by omega), if_pos (show (24 : Int) ≤ ((768 : Nat) : Int) by omega), if_pos (show (rowsF a0 a1 j).size + 24 ≤ 9223372036854775807 by omega)]
    by_cases c3 : firstI a0 a1 j < 0
    ·simp only [if_pos c3]
     by_cases c4 : (j : Int) < 4
     ·simp only [if_pos c4]
      simp only [if_pos (show firstI a0 a1 j < 0 ∧ j < 4 by omega)] at h1
      exact h1
     ·simp only [if_neg c4]
      simp only [if_neg (show ¬ (firstI a0 a1 j < 0 ∧ j < 4) by omega)] at h1
      exact h1
    ·simp only [if_neg c3]
     simp only [if_neg (show ¬ (firstI a0 a1 j < 0 ∧ j < 4) by omega)] at h1
     exact h1
end
theorem JournalRow : skifflaw5_JournalRow.Pure := by
 intro a0 a1 _ _
 have h : Ev (fun k => skifflaw5_JournalRow.f k a0 a1) true := by
  unfold skifflaw5_JournalRow.f
  refine Ev.bind awake5 ?_
  simp only [if_true]
  exact row_go a0 a1 8 0 rfl
 exact h.rounds
end Go.Proofs.Ytjihlabmddfjhaa.Pure

