/- Plain facts on flashes: texts spliced, words programmed, sectors erased, byte by byte; no memory in sight. -/
import Derived.Test.YtjihlabmddfjhaaMBits
import Derived.Test.YtjihlabmddfjhaaHRTorn
import Derived.Test.YtjihlabmddfjhaaHRepeat
set_option linter.unnecessarySimpa false
set_option linter.unusedSimpArgs false
set_option linter.unusedVariables false
namespace Go.Proofs.Ytjihlabmddfjhaa.M
open Go.RowKit Go.Proofs.YtjihlabmddfjhaaW.PrintWords Go.Proofs.YtjihlabmddfjhaaW.PrintLast Go.Proofs.YtjihlabmddfjhaaW.PrintMore Go.Proofs.Ytjihlabmddfjhaa.Hand

theorem bt_lt (s : ByteArray) (i : Nat) (h : i < s.size) : bt s i = ((s[i]'h).toNat : Int) := bt_nat s i h
theorem bt_u8 (s : ByteArray) (i : Int) : 0 ≤ bt s i ∧ bt s i < 256 := by
  have := bt_range s i; omega
theorem bt_ext {a b : ByteArray} (h : a.size = b.size) (h2 : ∀ i : Nat, i < a.size → bt a i = bt b i) : a = b := by
  apply ByteArray.ext
  apply Array.ext h
  intro i h1 h3
  have := h2 i h1
  rw [bt_lt a i h1, bt_lt b i h3] at this
  have h4 : (a[i]'h1).toNat = (b[i]'h3).toNat := by exact_mod_cast this
  exact UInt8.toNat_inj.mp h4
theorem bt_data (s : ByteArray) (i : Nat) : bt s i = ((s.data.toList.getD i 0).toNat : Int) := by
  by_cases h : i < s.size
  · rw [bt_lt s i h]
    have h' : i < s.data.toList.length := by rw [data_length]; exact h
    simp [List.getD_eq_getElem?_getD, List.getElem?_eq_getElem h']
    rfl
  · have h' : ¬ i < s.data.toList.length := by rw [data_length]; exact h
    unfold bt
    rw [dif_neg (by simpa using h)]
    simp [List.getD_eq_getElem?_getD, List.getElem?_eq_none (Nat.le_of_not_lt h')]
theorem bt_append (a b : ByteArray) (i : Nat) : bt (a ++ b) i = if i < a.size then bt a i else bt b ((i - a.size : Nat) : Int) := by
  rw [bt_data, bt_data, bt_data]
  have hd : (a ++ b).data.toList = a.data.toList ++ b.data.toList := by simp
  rw [hd]
  have hl : a.data.toList.length = a.size := data_length a
  split
  · rename_i h
    rw [List.getD_eq_getElem?_getD, List.getElem?_append_left (by omega), ← List.getD_eq_getElem?_getD]
  · rename_i h
    rw [List.getD_eq_getElem?_getD, List.getElem?_append_right (by omega), ← List.getD_eq_getElem?_getD, hl]
theorem bt_extract (a : ByteArray) (s e i : Nat) (h : i < min e a.size - s) : bt (a.extract s e) i = bt a ((s + i : Nat) : Int) := by
  have h1 : i < (a.extract s e).size := by rw [ByteArray.size_extract]; exact h
  have h2 : s + i < a.size := by omega
  rw [bt_lt _ _ h1, bt_lt a (s + i) h2]
  simp [ByteArray.getElem_extract]
theorem bt_strOfNums (l : List Int) (i : Nat) (h : i < l.length) (h0 : 0 ≤ l.getD i 0) (h1 : l.getD i 0 < 256) : bt (strOfNums l) i = l.getD i 0 := by
  rw [bt_data]
  have e : (strOfNums l).data.toList = l.map fun n => UInt8.ofNat n.toNat := rfl
  rw [e]
  simp only [List.getD_eq_getElem?_getD, List.getElem?_map, List.getElem?_eq_getElem h, Option.map_some, Option.getD_some] at *
  simp
  omega

/-- A flash, some bytes of it others. -/
def sp (f : ByteArray) (at_ : Nat) (t : ByteArray) : ByteArray := (f.extract 0 at_ ++ t) ++ f.extract (at_ + t.size) f.size
theorem sp_size (f : ByteArray) (at_ : Nat) (t : ByteArray) (h : at_ + t.size ≤ f.size) : (sp f at_ t).size = f.size := by
  simp [sp, ByteArray.size_append, ByteArray.size_extract]; omega
theorem sp_bt (f : ByteArray) (at_ : Nat) (t : ByteArray) (h : at_ + t.size ≤ f.size) (i : Nat) (hi : i < f.size) :
    bt (sp f at_ t) i = if at_ ≤ i ∧ i < at_ + t.size then bt t ((i - at_ : Nat) : Int) else bt f i := by
  have s1 : (f.extract 0 at_).size = at_ := by rw [ByteArray.size_extract]; omega
  have s2 : (f.extract 0 at_ ++ t).size = at_ + t.size := by rw [ByteArray.size_append, s1]
  unfold sp
  rw [bt_append, s2]
  by_cases c1 : i < at_ + t.size
  · rw [if_pos c1, bt_append, s1]
    by_cases c2 : i < at_
    · rw [if_pos c2, if_neg (by omega), bt_extract _ _ _ _ (by omega), Nat.zero_add]
    · rw [if_neg c2, if_pos ⟨by omega, c1⟩]
  · rw [if_neg c1, if_neg (by omega), bt_extract _ _ _ _ (by omega)]
    congr 2; omega

/-- How many bits of byte j are programmed. -/
def tn (many : Int) (j : Nat) : Nat := (mn (mx (many - 8 * (j : Int)) 0) 8).toNat
theorem tn_eq (many : Int) (j : Nat) (h : 0 ≤ many) : tn many j = min (many.toNat - 8 * j) 8 := by
  unfold tn mn mx; split <;> split <;> omega
theorem tn_le (many : Int) (j : Nat) : tn many j ≤ 8 := by unfold tn mn mx; split <;> split <;> omega
theorem tornB_clr (f : ByteArray) (at_ : Nat) (x : ByteArray) (many : Int) (j : Nat) : tornB f at_ x many j = clr (bt f ((at_ + j : Nat) : Int)) (bt x j) (tn many j) := by
  unfold tornB maskV
  have h := mask_clr (bt f ((at_ + j : Nat) : Int)) (bt x j) (bt_u8 _ _).1 (bt_u8 _ _).2 (bt_u8 _ _).1 (bt_u8 _ _).2 (tn many j) (tn_le _ _)
  exact h
theorem tornF_size (f : ByteArray) (at_ : Nat) (x : ByteArray) (many : Int) (h : at_ + 4 ≤ f.size) : (tornF f at_ x many).size = f.size := by
  have : (strOfNums (tornL f at_ x many 4)).size = 4 := by rw [strOfNums_size', tornL_length]
  have h2 := sp_size f at_ (strOfNums (tornL f at_ x many 4)) (by omega)
  unfold sp at h2
  rw [this] at h2
  exact h2
theorem tornF_bt (f : ByteArray) (at_ : Nat) (x : ByteArray) (many : Int) (h : at_ + 4 ≤ f.size) (i : Nat) (hi : i < f.size) :
    bt (tornF f at_ x many) i = if at_ ≤ i ∧ i < at_ + 4 then clr (bt f i) (bt x ((i - at_ : Nat) : Int)) (tn many (i - at_)) else bt f i := by
  have hs : (strOfNums (tornL f at_ x many 4)).size = 4 := by rw [strOfNums_size', tornL_length]
  have h2 := sp_bt f at_ (strOfNums (tornL f at_ x many 4)) (by omega) i hi
  unfold sp at h2
  rw [hs] at h2
  unfold tornF
  rw [h2]
  by_cases c : at_ ≤ i ∧ i < at_ + 4
  · rw [if_pos c, if_pos c]
    have hj : i - at_ < 4 := by omega
    have hg : (tornL f at_ x many 4).getD (i - at_) 0 = tornB f at_ x many (i - at_) := by simp [tornL, List.getD_eq_getElem?_getD, hj]
    have hc := tornB_clr f at_ x many (i - at_)
    rw [show at_ + (i - at_) = i by omega] at hc
    have hr := clr_range (bt f i) (bt x ((i - at_ : Nat) : Int)) (bt_u8 _ _).1 (bt_u8 _ _).2 (tn many (i - at_))
    rw [bt_strOfNums _ _ (by rw [tornL_length]; exact hj) (by rw [hg, hc]; exact hr.1) (by rw [hg, hc]; exact hr.2), hg, hc]
  · rw [if_neg c, if_neg c]

theorem rL_at (f : ByteArray) (at_ : Nat) (x : ByteArray) (h : at_ + 4 ≤ f.size) (k : Nat) (hk : k ≤ 32) (j : Nat) (hj : j < 4) : (rL f at_ x k).getD j 0 = clr (bt f ((at_ + j : Nat) : Int)) (bt x j) (min (k - 8 * j) 8) := by
  induction k with
  | zero =>
    rw [rL, show min (0 - 8 * j) 8 = 0 by omega, clr]
    have hs : (f.extract at_ (at_ + 4)).size = 4 := by rw [ByteArray.size_extract]; omega
    have e1 := rd_bytesOf (f.extract at_ (at_ + 4)) (j : Int)
    have e2 : rd (bytesOf (f.extract at_ (at_ + 4))) (j : Int) = (bytesOf (f.extract at_ (at_ + 4))).getD j 0 := by unfold rd; simp
    rw [← e2, e1, bt_extract _ _ _ _ (by omega)]
  | succ k ih =>
    have ih := ih (by omega)
    have hlen := rL_length f at_ x k h
    rw [rL, rstep]
    by_cases e : k / 8 = j
    · have e1 : min (k + 1 - 8 * j) 8 = k % 8 + 1 := by omega
      have e2 : min (k - 8 * j) 8 = k % 8 := by omega
      rw [e2] at ih
      rw [e1, clr, ← ih]
      unfold zeroBit
      rw [e]
      split
      · simp [List.getD_eq_getElem?_getD, hlen, hj]
      · rfl
    · have e1 : min (k + 1 - 8 * j) 8 = min (k - 8 * j) 8 := by omega
      rw [e1, ← ih]
      split
      · simp [List.getD_eq_getElem?_getD, e]
      · rfl
theorem rtornF_eq (f : ByteArray) (at_ : Nat) (x : ByteArray) (many : Int) (h : at_ + 4 ≤ f.size) (h0 : 0 ≤ many) (h1 : many ≤ 32) : rtornF f at_ x many.toNat = tornF f at_ x many := by
  unfold rtornF tornF
  congr 3
  apply List.ext_getElem
  · rw [rL_length _ _ _ _ h, tornL_length]
  · intro j h2 h3
    rw [tornL_length] at h3
    have e1 := rL_at f at_ x h many.toNat (by omega) j h3
    have e2 : (tornL f at_ x many 4).getD j 0 = tornB f at_ x many j := by simp [tornL, List.getD_eq_getElem?_getD, h3]
    have e3 := tornB_clr f at_ x many j
    rw [tn_eq many j h0] at e3
    rw [List.getD_eq_getElem?_getD, List.getElem?_eq_getElem h2] at e1
    rw [List.getD_eq_getElem?_getD, List.getElem?_eq_getElem (by rw [tornL_length]; exact h3)] at e2
    simp only [Option.getD_some] at e1 e2
    rw [e1, e2, e3]

/-- n bytes 255. -/
def ff (n : Nat) : ByteArray := ⟨(List.replicate n 255).toArray⟩
theorem ff_size (n : Nat) : (ff n).size = n := by simp [ff, ByteArray.size]
theorem ff_bt (n i : Nat) (h : i < n) : bt (ff n) i = 255 := by
  rw [bt_data]
  simp [ff, List.getD_eq_getElem?_getD, h]
theorem ff_strOfNums (n : Nat) : strOfNums (List.replicate n 255) = ff n := by
  simp [strOfNums, ff]
theorem repeatL_ff (n : Nat) : Lib.repeatL [255] n = List.replicate n 255 := by
  induction n with
  | zero => rfl
  | succ n ih => rw [Lib.repeatL, ih]; rfl
theorem repeat_ff (n : Int) (h0 : 0 ≤ n) (h1 : n ≤ 140737488355328) : strings_Repeat.f ⟨#[255]⟩ n = some (ff n.toNat) := by
  unfold strings_Repeat.f
  rw [if_pos h0, if_pos (by omega), if_pos (by show 1 * n.toNat ≤ _; omega)]
  congr 1
  show (⟨(Lib.repeatL [255] n.toNat).toArray⟩ : ByteArray) = _
  rw [repeatL_ff]; rfl
/-- A flash, the first bytes of a sector erased. -/
def wornF (f : ByteArray) (s many : Nat) : ByteArray := sp f (s * 96) (ff many)
end Go.Proofs.Ytjihlabmddfjhaa.M
