import Derived.Test.YtjihlabmddfjhaaShS4
-- Laid together from this session's own texts by its program wip/tools/shake.py.
-- Written by this session's own program (wip/tools/myprint.py), which runs the kit's print over functions proved by hand.
namespace Go.Proofs.Ytjihlabmddfjhaa.PAll
open Go.RowKit Go.Proofs.YtjihlabmddfjhaaW.PrintWords Go.Proofs.YtjihlabmddfjhaaW.PrintLast Go.Proofs.YtjihlabmddfjhaaW.PrintMore
attribute [local go_sem] max2_int min2_int max_two min_two max_three min_three max_four min_four   -- for this text's walks alone
set_option linter.unusedVariables false
set_option linter.unusedSimpArgs false
def skifflaw9_awake.f (k : Nat)  : Option (Bool) := (stage_Erases.f k 1).bind fun bt548 => ((skifflaw9_held.f k).bind fun t552 => ((stage_Record.f k t552 0 12).bind fun bt553 => ((stage_Erases.f k 2).bind fun bt559 => ((skifflaw9_held.f k).bind fun t563 => ((stage_Record.f k t563 0 0).bind fun bt564 => ((skifflaw0_SameOps.f k bt548.1 (([(⟨true, 480, (⟨#[]⟩ : ByteArray)⟩ : S35), (⟨true, 576, (⟨#[]⟩ : ByteArray)⟩ : S35), (⟨true, 672, (⟨#[]⟩ : ByteArray)⟩ : S35)] : List (S35)))).bind fun t573 => (if t573 = true then ((skifflaw0_Num.f bt548.2).bind fun t574 => (if t574 = 0 then (if bt553.1 = 2 then (if bt553.2.2.1 = 12 then ((skiffref1_Crc.f k (⟨#[97, 98, 97, 98, 97, 98, 97, 98, 97, 98, 97, 98]⟩ : ByteArray)).bind fun t575 => (if bt553.2.2.2.1 = t575 then ((skifflaw0_Num.f bt553.2.2.2.2).bind fun t576 => (if t576 = 0 then ((skifflaw0_Num.f bt559.2).bind fun t577 => (if t577 = 900 then ((skifflaw0_Num.f bt564.2.2.2.2).bind fun t578 => (some (t578 == 900))) else (none))) else (none))) else (none))) else (none)) else (none)) else (none))) else (none))))))))
def skifflaw9_awake.T5 : Bool × List (List Nat × List Nat) := (true, [([], []), ([], []), ([], []), ([], []), ([1, 2, 3], [1, 2, 3]), ([0, 4], [0, 4]), ([5, 5], [5]), ([6], [6]), ([7, 6, 6], [6, 7]), ([8, 6], [6, 8]), ([6, 9], [6, 9]), ([10, 8], [10]), ([11], [11]), ([12, 11], [11, 12]), ([13, 11], [11, 13]), ([11, 14], [11, 14]), ([15, 11], [15]), ([16], [16]), ([17, 16], [16, 17]), ([18, 16], [16, 18]), ([16, 19], [16, 19]), ([20, 16], [20]), ([21], [21]), ([22, 21], [21, 22]), ([21, 21], [21]), ([23, 24, 21], [21, 23, 24]), ([21, 25], [21, 25]), ([26, 24], [26]), ([27], [27]), ([28, 27, 27], [27, 28]), ([29, 27], [27, 29]), ([27, 30], [27, 30]), ([31, 29], [31]), ([32], [32]), ([33, 32, 32], [32, 33]), ([34, 32], [32, 34]), ([32, 35], [32, 35]), ([36, 34], [36]), ([37], [37]), ([38, 37, 37], [37, 38]), ([39, 37], [37, 39]), ([37, 40], [37, 40]), ([41, 39, 0, 1, 2, 3, 4, 5, 6, 7, 8, 9, 10, 11, 12, 13, 14, 15, 16, 17, 18, 19, 20, 21, 22, 23, 24, 25, 26, 27, 28, 29, 30, 31, 32, 33, 34, 35, 36, 37, 38, 39, 40, 41], [41])])
def skifflaw9_awake.B5 : List Nat := [0, 0, 0, 0, 14, 31, 63, 127, 255, 511, 1023, 2047, 4095, 8191, 16383, 32767, 65535, 131071, 262143, 524287, 1048575, 2097151, 4194303, 8388607, 4194303, 33554431, 67108863, 134217727, 268435455, 536870911, 1073741823, 2147483647, 4294967295, 8589934591, 17179869183, 34359738367, 68719476735, 137438953471, 274877906943, 549755813887, 1099511627775, 2199023255551, 4398046511103]
theorem skifflaw9_awake.tab5 : rtab .any (opsOf Try.f11 5) = skifflaw9_awake.T5 := by kernel_rfl
theorem skifflaw9_awake.bits5 : waitsOk skifflaw9_awake.T5.2 skifflaw9_awake.B5 = true := by kernel_rfl
set_option maxHeartbeats 8000000 in
set_option maxRecDepth 100000 in
theorem skifflaw9_awake.calls (k : Nat)  (r : Bool) (w : World) (h : skifflaw9_awake.f k  = some r) :
  Calls Try.prog 11 #[] w fun e w' => e = .returned (.bool r) ∧ Below w.heap.size w w' := by
 have hu25 := Try.underlying25
 have hu35 := Try.underlying35
 have HB := Aside0.mk (Below.refl w.heap.size w)
 have H : ((stage_Erases.f k 1).bind fun bt548 => ((skifflaw9_held.f k).bind fun t552 => ((stage_Record.f k t552 0 12).bind fun bt553 => ((stage_Erases.f k 2).bind fun bt559 => ((skifflaw9_held.f k).bind fun t563 => ((stage_Record.f k t563 0 0).bind fun bt564 => ((skifflaw0_SameOps.f k bt548.1 (([(⟨true, 480, (⟨#[]⟩ : ByteArray)⟩ : S35), (⟨true, 576, (⟨#[]⟩ : ByteArray)⟩ : S35), (⟨true, 672, (⟨#[]⟩ : ByteArray)⟩ : S35)] : List (S35)))).bind fun t573 => (if t573 = true then ((skifflaw0_Num.f bt548.2).bind fun t574 => (if t574 = 0 then (if bt553.1 = 2 then (if bt553.2.2.1 = 12 then ((skiffref1_Crc.f k (⟨#[97, 98, 97, 98, 97, 98, 97, 98, 97, 98, 97, 98]⟩ : ByteArray)).bind fun t575 => (if bt553.2.2.2.1 = t575 then ((skifflaw0_Num.f bt553.2.2.2.2).bind fun t576 => (if t576 = 0 then ((skifflaw0_Num.f bt559.2).bind fun t577 => (if t577 = 900 then ((skifflaw0_Num.f bt564.2.2.2.2).bind fun t578 => (some (t578 == 900))) else (none))) else (none))) else (none))) else (none)) else (none)) else (none))) else (none))))))))) = some r := h
 clear h
 replace H := Option.bind_eq_some_iff.mp H
 obtain ⟨⟨t548, t549⟩, A10, H⟩ := H
 replace H : ((skifflaw9_held.f k).bind fun t552 => ((stage_Record.f k t552 0 12).bind fun bt553 => ((stage_Erases.f k 2).bind fun bt559 => ((skifflaw9_held.f k).bind fun t563 => ((stage_Record.f k t563 0 0).bind fun bt564 => ((skifflaw0_SameOps.f k t548 (([(⟨true, 480, (⟨#[]⟩ : ByteArray)⟩ : S35), (⟨true, 576, (⟨#[]⟩ : ByteArray)⟩ : S35), (⟨true, 672, (⟨#[]⟩ : ByteArray)⟩ : S35)] : List (S35)))).bind fun t573 => (if t573 = true then ((skifflaw0_Num.f t549).bind fun t574 => (if t574 = 0 then (if bt553.1 = 2 then (if bt553.2.2.1 = 12 then ((skiffref1_Crc.f k (⟨#[97, 98, 97, 98, 97, 98, 97, 98, 97, 98, 97, 98]⟩ : ByteArray)).bind fun t575 => (if bt553.2.2.2.1 = t575 then ((skifflaw0_Num.f bt553.2.2.2.2).bind fun t576 => (if t576 = 0 then ((skifflaw0_Num.f bt559.2).bind fun t577 => (if t577 = 900 then ((skifflaw0_Num.f bt564.2.2.2.2).bind fun t578 => (some (t578 == 900))) else (none))) else (none))) else (none))) else (none)) else (none)) else (none))) else (none)))))))) = some r := H
 have A1 := Aside0.mk A10
 clear A10
 replace H := Option.bind_eq_some_iff.mp H
 obtain ⟨t552, A20, H⟩ := H
 replace H : ((stage_Record.f k t552 0 12).bind fun bt553 => ((stage_Erases.f k 2).bind fun bt559 => ((skifflaw9_held.f k).bind fun t563 => ((stage_Record.f k t563 0 0).bind fun bt564 => ((skifflaw0_SameOps.f k t548 (([(⟨true, 480, (⟨#[]⟩ : ByteArray)⟩ : S35), (⟨true, 576, (⟨#[]⟩ : ByteArray)⟩ : S35), (⟨true, 672, (⟨#[]⟩ : ByteArray)⟩ : S35)] : List (S35)))).bind fun t573 => (if t573 = true then ((skifflaw0_Num.f t549).bind fun t574 => (if t574 = 0 then (if bt553.1 = 2 then (if bt553.2.2.1 = 12 then ((skiffref1_Crc.f k (⟨#[97, 98, 97, 98, 97, 98, 97, 98, 97, 98, 97, 98]⟩ : ByteArray)).bind fun t575 => (if bt553.2.2.2.1 = t575 then ((skifflaw0_Num.f bt553.2.2.2.2).bind fun t576 => (if t576 = 0 then ((skifflaw0_Num.f bt559.2).bind fun t577 => (if t577 = 900 then ((skifflaw0_Num.f bt564.2.2.2.2).bind fun t578 => (some (t578 == 900))) else (none))) else (none))) else (none))) else (none)) else (none)) else (none))) else (none))))))) = some r := H
 have A2 := Aside0.mk A20
 clear A20
 replace H := Option.bind_eq_some_iff.mp H
 obtain ⟨⟨t553, t554, t555, t556, t557⟩, A30, H⟩ := H
 replace H : ((stage_Erases.f k 2).bind fun bt559 => ((skifflaw9_held.f k).bind fun t563 => ((stage_Record.f k t563 0 0).bind fun bt564 => ((skifflaw0_SameOps.f k t548 (([(⟨true, 480, (⟨#[]⟩ : ByteArray)⟩ : S35), (⟨true, 576, (⟨#[]⟩ : ByteArray)⟩ : S35), (⟨true, 672, (⟨#[]⟩ : ByteArray)⟩ : S35)] : List (S35)))).bind fun t573 => (if t573 = true then ((skifflaw0_Num.f t549).bind fun t574 => (if t574 = 0 then (if t553 = 2 then (if t555 = 12 then ((skiffref1_Crc.f k (⟨#[97, 98, 97, 98, 97, 98, 97, 98, 97, 98, 97, 98]⟩ : ByteArray)).bind fun t575 => (if t556 = t575 then ((skifflaw0_Num.f t557).bind fun t576 => (if t576 = 0 then ((skifflaw0_Num.f bt559.2).bind fun t577 => (if t577 = 900 then ((skifflaw0_Num.f bt564.2.2.2.2).bind fun t578 => (some (t578 == 900))) else (none))) else (none))) else (none))) else (none)) else (none)) else (none))) else (none)))))) = some r := H
 have A3 := Aside0.mk A30
 clear A30
 replace H := Option.bind_eq_some_iff.mp H
 obtain ⟨⟨t559, t560⟩, A40, H⟩ := H
 replace H : ((skifflaw9_held.f k).bind fun t563 => ((stage_Record.f k t563 0 0).bind fun bt564 => ((skifflaw0_SameOps.f k t548 (([(⟨true, 480, (⟨#[]⟩ : ByteArray)⟩ : S35), (⟨true, 576, (⟨#[]⟩ : ByteArray)⟩ : S35), (⟨true, 672, (⟨#[]⟩ : ByteArray)⟩ : S35)] : List (S35)))).bind fun t573 => (if t573 = true then ((skifflaw0_Num.f t549).bind fun t574 => (if t574 = 0 then (if t553 = 2 then (if t555 = 12 then ((skiffref1_Crc.f k (⟨#[97, 98, 97, 98, 97, 98, 97, 98, 97, 98, 97, 98]⟩ : ByteArray)).bind fun t575 => (if t556 = t575 then ((skifflaw0_Num.f t557).bind fun t576 => (if t576 = 0 then ((skifflaw0_Num.f t560).bind fun t577 => (if t577 = 900 then ((skifflaw0_Num.f bt564.2.2.2.2).bind fun t578 => (some (t578 == 900))) else (none))) else (none))) else (none))) else (none)) else (none)) else (none))) else (none))))) = some r := H
 have A4 := Aside0.mk A40
 clear A40
 replace H := Option.bind_eq_some_iff.mp H
 obtain ⟨t563, A50, H⟩ := H
 replace H : ((stage_Record.f k t563 0 0).bind fun bt564 => ((skifflaw0_SameOps.f k t548 (([(⟨true, 480, (⟨#[]⟩ : ByteArray)⟩ : S35), (⟨true, 576, (⟨#[]⟩ : ByteArray)⟩ : S35), (⟨true, 672, (⟨#[]⟩ : ByteArray)⟩ : S35)] : List (S35)))).bind fun t573 => (if t573 = true then ((skifflaw0_Num.f t549).bind fun t574 => (if t574 = 0 then (if t553 = 2 then (if t555 = 12 then ((skiffref1_Crc.f k (⟨#[97, 98, 97, 98, 97, 98, 97, 98, 97, 98, 97, 98]⟩ : ByteArray)).bind fun t575 => (if t556 = t575 then ((skifflaw0_Num.f t557).bind fun t576 => (if t576 = 0 then ((skifflaw0_Num.f t560).bind fun t577 => (if t577 = 900 then ((skifflaw0_Num.f bt564.2.2.2.2).bind fun t578 => (some (t578 == 900))) else (none))) else (none))) else (none))) else (none)) else (none)) else (none))) else (none)))) = some r := H
 have A5 := Aside0.mk A50
 clear A50
 replace H := Option.bind_eq_some_iff.mp H
 obtain ⟨⟨t564, t565, t566, t567, t568⟩, A60, H⟩ := H
 replace H : ((skifflaw0_SameOps.f k t548 (([(⟨true, 480, (⟨#[]⟩ : ByteArray)⟩ : S35), (⟨true, 576, (⟨#[]⟩ : ByteArray)⟩ : S35), (⟨true, 672, (⟨#[]⟩ : ByteArray)⟩ : S35)] : List (S35)))).bind fun t573 => (if t573 = true then ((skifflaw0_Num.f t549).bind fun t574 => (if t574 = 0 then (if t553 = 2 then (if t555 = 12 then ((skiffref1_Crc.f k (⟨#[97, 98, 97, 98, 97, 98, 97, 98, 97, 98, 97, 98]⟩ : ByteArray)).bind fun t575 => (if t556 = t575 then ((skifflaw0_Num.f t557).bind fun t576 => (if t576 = 0 then ((skifflaw0_Num.f t560).bind fun t577 => (if t577 = 900 then ((skifflaw0_Num.f t568).bind fun t578 => (some (t578 == 900))) else (none))) else (none))) else (none))) else (none)) else (none)) else (none))) else (none))) = some r := H
 have A6 := Aside0.mk A60
 clear A60
 obtain ⟨y570, hy570⟩ : ∃ y_ : List (S35), y_ = (([(⟨true, 480, (⟨#[]⟩ : ByteArray)⟩ : S35), (⟨true, 576, (⟨#[]⟩ : ByteArray)⟩ : S35), (⟨true, 672, (⟨#[]⟩ : ByteArray)⟩ : S35)] : List (S35))) := ⟨_, rfl⟩
 replace H : ((skifflaw0_SameOps.f k t548 y570).bind fun t573 => (if t573 = true then ((skifflaw0_Num.f t549).bind fun t574 => (if t574 = 0 then (if t553 = 2 then (if t555 = 12 then ((skiffref1_Crc.f k (⟨#[97, 98, 97, 98, 97, 98, 97, 98, 97, 98, 97, 98]⟩ : ByteArray)).bind fun t575 => (if t556 = t575 then ((skifflaw0_Num.f t557).bind fun t576 => (if t576 = 0 then ((skifflaw0_Num.f t560).bind fun t577 => (if t577 = 900 then ((skifflaw0_Num.f t568).bind fun t578 => (some (t578 == 900))) else (none))) else (none))) else (none))) else (none)) else (none)) else (none))) else (none))) = some r := by first | (rw [hy570]; with_reducible exact H) | (have H2_ := (Option.bind_some _ _).symm.trans H; rw [hy570]; with_reducible exact H2_) | (have H2_ := (Option.bind_some _ _).symm.trans H; with_reducible exact H2_) | with_reducible exact H | (rw [hy570]; exact H) | exact H
 have Ny570 := Aside0.mk hy570
 clear hy570
 replace H := Option.bind_eq_some_iff.mp H
 obtain ⟨t573, A70, H⟩ := H
 replace H : (if t573 = true then ((skifflaw0_Num.f t549).bind fun t574 => (if t574 = 0 then (if t553 = 2 then (if t555 = 12 then ((skiffref1_Crc.f k (⟨#[97, 98, 97, 98, 97, 98, 97, 98, 97, 98, 97, 98]⟩ : ByteArray)).bind fun t575 => (if t556 = t575 then ((skifflaw0_Num.f t557).bind fun t576 => (if t576 = 0 then ((skifflaw0_Num.f t560).bind fun t577 => (if t577 = 900 then ((skifflaw0_Num.f t568).bind fun t578 => (some (t578 == 900))) else (none))) else (none))) else (none))) else (none)) else (none)) else (none))) else (none)) = some r := H
 have A7 := Aside0.mk A70
 clear A70
 by_cases c8 : t573 = true
 ·subst c8
  have H1 : ((skifflaw0_Num.f t549).bind fun t574 => (if t574 = 0 then (if t553 = 2 then (if t555 = 12 then ((skiffref1_Crc.f k (⟨#[97, 98, 97, 98, 97, 98, 97, 98, 97, 98, 97, 98]⟩ : ByteArray)).bind fun t575 => (if t556 = t575 then ((skifflaw0_Num.f t557).bind fun t576 => (if t576 = 0 then ((skifflaw0_Num.f t560).bind fun t577 => (if t577 = 900 then ((skifflaw0_Num.f t568).bind fun t578 => (some (t578 == 900))) else (none))) else (none))) else (none))) else (none)) else (none)) else (none))) = some r := by rw [if_pos rfl] at H; exact H
  clear H
  have H := H1
  clear H1
  replace H := Option.bind_eq_some_iff.mp H
  obtain ⟨t574, A90, H⟩ := H
  replace H : (if t574 = 0 then (if t553 = 2 then (if t555 = 12 then ((skiffref1_Crc.f k (⟨#[97, 98, 97, 98, 97, 98, 97, 98, 97, 98, 97, 98]⟩ : ByteArray)).bind fun t575 => (if t556 = t575 then ((skifflaw0_Num.f t557).bind fun t576 => (if t576 = 0 then ((skifflaw0_Num.f t560).bind fun t577 => (if t577 = 900 then ((skifflaw0_Num.f t568).bind fun t578 => (some (t578 == 900))) else (none))) else (none))) else (none))) else (none)) else (none)) else (none)) = some r := H
  have A9 := Aside0.mk A90
  clear A90
  by_cases c10 : t574 = 0
  ·rw [if_pos c10] at H
   have c10b0 : (t574 == 0) = true := beq_iff_eq.mpr c10
   have c10b1 : (t574 != 0) = false := bne_eq_false_iff_eq.mpr c10
   clear c10
   by_cases c11 : t553 = 2
   ·rw [if_pos c11] at H
    have c11b0 : (t553 == 2) = true := beq_iff_eq.mpr c11
    have c11b1 : (t553 != 2) = false := bne_eq_false_iff_eq.mpr c11
    clear c11
    by_cases c12 : t555 = 12
    ·rw [if_pos c12] at H
     have c12b0 : (t555 == 12) = true := beq_iff_eq.mpr c12
     have c12b1 : (t555 != 12) = false := bne_eq_false_iff_eq.mpr c12
     clear c12
     replace H := Option.bind_eq_some_iff.mp H
     obtain ⟨t575, A130, H⟩ := H
     replace H : (if t556 = t575 then ((skifflaw0_Num.f t557).bind fun t576 => (if t576 = 0 then ((skifflaw0_Num.f t560).bind fun t577 => (if t577 = 900 then ((skifflaw0_Num.f t568).bind fun t578 => (some (t578 == 900))) else (none))) else (none))) else (none)) = some r := H
     have A13 := Aside0.mk A130
     clear A130
     by_cases c14 : t556 = t575
     ·rw [if_pos c14] at H
      have c14b0 : (t556 == t575) = true := beq_iff_eq.mpr c14
      have c14b1 : (t556 != t575) = false := bne_eq_false_iff_eq.mpr c14
      clear c14
      replace H := Option.bind_eq_some_iff.mp H
      obtain ⟨t576, A150, H⟩ := H
      replace H : (if t576 = 0 then ((skifflaw0_Num.f t560).bind fun t577 => (if t577 = 900 then ((skifflaw0_Num.f t568).bind fun t578 => (some (t578 == 900))) else (none))) else (none)) = some r := H
      have A15 := Aside0.mk A150
      clear A150
      by_cases c16 : t576 = 0
      ·rw [if_pos c16] at H
       have c16b0 : (t576 == 0) = true := beq_iff_eq.mpr c16
       have c16b1 : (t576 != 0) = false := bne_eq_false_iff_eq.mpr c16
       clear c16
       replace H := Option.bind_eq_some_iff.mp H
       obtain ⟨t577, A170, H⟩ := H
       replace H : (if t577 = 900 then ((skifflaw0_Num.f t568).bind fun t578 => (some (t578 == 900))) else (none)) = some r := H
       have A17 := Aside0.mk A170
       clear A170
       by_cases c18 : t577 = 900
       ·rw [if_pos c18] at H
        have c18b0 : (t577 == 900) = true := beq_iff_eq.mpr c18
        have c18b1 : (t577 != 900) = false := bne_eq_false_iff_eq.mpr c18
        clear c18
        replace H := Option.bind_eq_some_iff.mp H
        obtain ⟨t578, A190, H⟩ := H
        replace H : (some (t578 == 900)) = some r := H
        have A19 := Aside0.mk A190
        clear A190
        obtain rfl := Option.some.inj H
        go_enter Try.func11, Try.ntmps11
        try go_wp2_with (first | ((with_reducible refine gate_callee (f := 33) rfl ?_); refine goesL_ (some 10) rfl rfl Try.func33 (by kernel_rfl) rfl #[.int .i64 1] rfl q1_ ?_; (with_reducible refine (stage_Erases.calls k 1 t548 t549 _ A1.out).mono ?_); rintro e w20 ⟨v550, rfl, ho0, hb⟩; refine ⟨_, rfl, ?_⟩; have n0_ := Aside0.mk (Kd.R_lower ho0 (below_size q2_)); have n1_ := Aside0.mk (below_step q2_ hb); clear HB; have HO551 := n0_; have HB := n1_; clear n0_ n1_; (try clear hb); (try clear hb2); (try clear hk); (try clear hi); (try clear ho0)) | ((with_reducible refine gate_callee (f := 15) rfl ?_); refine goesL_ (some 14) rfl rfl Try.func15 (by kernel_rfl) rfl #[] rfl q1_ ?_; (with_reducible refine (skifflaw9_held.calls k  t552 _ A2.out).mono ?_); rintro e w21 ⟨rfl, hb⟩; refine ⟨_, rfl, ?_⟩; have n0_ := Aside0.mk (Kd.R_below (by (with_reducible repeat (first | apply Kd.R_alloc | apply Kd.R_drewN | apply Kd.R_drew)); exact HO551.out) hb); have n1_ := Aside0.mk (below_step q2_ hb); clear HO551; clear HB; have HO551 := n0_; have HB := n1_; clear n0_ n1_; (try clear hb); (try clear hb2); (try clear hk); (try clear hi)) | ((with_reducible refine gate_callee (f := 12) rfl ?_); refine goesL_ (some 15) rfl rfl Try.func12 (by kernel_rfl) rfl #[.string t552, .int .i64 0, .int .i64 12] rfl q1_ ?_; (with_reducible refine (stage_Record.calls k t552 0 12 t553 t554 t555 t556 t557 _ A3.out).mono ?_); rintro e w22 ⟨rfl, hb⟩; refine ⟨_, rfl, ?_⟩; have n0_ := Aside0.mk (Kd.R_below (by (with_reducible repeat (first | apply Kd.R_alloc | apply Kd.R_drewN | apply Kd.R_drew)); exact HO551.out) hb); have n1_ := Aside0.mk (below_step q2_ hb); clear HO551; clear HB; have HO551 := n0_; have HB := n1_; clear n0_ n1_; (try clear hb); (try clear hb2); (try clear hk); (try clear hi)) | ((with_reducible refine gate_dst (N := 3) rfl ?_); refine box_event ?hg (N := 3) ?hd (cs := #[.int .i64 0, .int .i64 0, .int .i64 0, .int .i64 0]) (t := 25) ?hr ?_; (case hd => rfl); (case hg => rfl); (case hr => first | (go_simp; done) | (go_simp; rfl)); intro gb558 hg w23 hbox hb; have n0_ := Aside0.mk (Kd.R_below (by (with_reducible repeat (first | apply Kd.R_alloc | apply Kd.R_drewN | apply Kd.R_drew)); exact HO551.out) hb); have n1_ := Aside0.mk (below_step q2_ hb); have n2_ := Aside0.mk (hbox); have n3_ := Aside0.mk ((by rw [hg]; exact (below_size q2_) : w.heap.size ≤ gb558)); have n4_ := Aside0.mk ((by rw [hg]; exact (below_size q2_) : w.heap.size ≤ gb558)); clear HO551; clear HB; have HO551 := n0_; have HB := n1_; have BK558 := n2_; have GW558 := n3_; have GE558 := n4_; clear n0_ n1_ n2_ n3_ n4_; clear hb hbox hg; have hcz24_0 : w23.cell? ⟨gb558, 0, none⟩ = some (.int .i64 0) := (blk_cell BK558.out 0).trans rfl; have hcz24_1 : w23.cell? ⟨gb558, 1, none⟩ = some (.int .i64 0) := (blk_cell BK558.out 1).trans rfl; have hcz24_2 : w23.cell? ⟨gb558, 2, none⟩ = some (.int .i64 0) := (blk_cell BK558.out 2).trans rfl; have hcz24_3 : w23.cell? ⟨gb558, 3, none⟩ = some (.int .i64 0) := (blk_cell BK558.out 3).trans rfl; have hfz24_0 := blk_frozen BK558.out 0; have hfz24_1 := blk_frozen BK558.out 1; have hfz24_2 := blk_frozen BK558.out 2; have hfz24_3 := blk_frozen BK558.out 3) | ((with_reducible refine gate_callee (f := 33) rfl ?_); refine goesL_ (some 19) rfl rfl Try.func33 (by kernel_rfl) rfl #[.int .i64 2] rfl q1_ ?_; (with_reducible refine (stage_Erases.calls k 2 t559 t560 _ A4.out).mono ?_); rintro e w25 ⟨v561, rfl, ho0, hb⟩; refine ⟨_, rfl, ?_⟩; have n0_ := Aside0.mk (Kd.R_elder' (by (with_reducible repeat (first | apply Kd.R_alloc | apply Kd.R_drewN | apply Kd.R_drew)); exact (Kd.R_mono (Kd.R_far (p := ⟨gb558, 3, none⟩) (Kd.R_far (p := ⟨gb558, 2, none⟩) (Kd.R_far (p := ⟨gb558, 1, none⟩) (Kd.R_far (p := ⟨gb558, 0, none⟩) (Kd.R_types HO551.out BK558.out (by decide)) (fun _ hk => hk.2) (.int .i64 t553)) (fun _ hk => hk.2) (.int .i64 t554)) (fun _ hk => hk.2) (.int .i64 t555)) (fun _ hk => hk.2) (.int .i64 t556)) (fun _ h_ => h_.1))) (Kd.R_base ho0) hb); have n1_ := Aside0.mk (Kd.R_lower (Kd.R_new' ho0 (Kd.R_lt (by (with_reducible repeat (first | apply Kd.R_alloc | apply Kd.R_drewN | apply Kd.R_drew)); exact (Kd.R_mono (Kd.R_far (p := ⟨gb558, 3, none⟩) (Kd.R_far (p := ⟨gb558, 2, none⟩) (Kd.R_far (p := ⟨gb558, 1, none⟩) (Kd.R_far (p := ⟨gb558, 0, none⟩) (Kd.R_types HO551.out BK558.out (by decide)) (fun _ hk => hk.2) (.int .i64 t553)) (fun _ hk => hk.2) (.int .i64 t554)) (fun _ hk => hk.2) (.int .i64 t555)) (fun _ hk => hk.2) (.int .i64 t556)) (fun _ h_ => h_.1))))) (below_size (by repeat (first | (with_reducible first | exact HB.out | apply below_alloc | apply pw_below_drewN | apply below_drew1 | refine below_set ?_ GE558.out) | exact HB.out)))); have n2_ := Aside0.mk (blk_below (g := gb558) (o := .cells #[.int .i64 t553, .int .i64 t554, .int .i64 t555, .int .i64 t556] 25 (0, 0)) (by (with_reducible repeat (first | refine blk_drewN ?_ _ | refine blk_drew ?_ | refine blk_alloc ?_ _)); refine blk_put (cs := #[.int .i64 t553, .int .i64 t554, .int .i64 t555, .int .i64 0]) ?_ 3 _ rfl; (with_reducible repeat (first | refine blk_drewN ?_ _ | refine blk_drew ?_ | refine blk_alloc ?_ _)); refine blk_put (cs := #[.int .i64 t553, .int .i64 t554, .int .i64 0, .int .i64 0]) ?_ 2 _ rfl; (with_reducible repeat (first | refine blk_drewN ?_ _ | refine blk_drew ?_ | refine blk_alloc ?_ _)); refine blk_put (cs := #[.int .i64 t553, .int .i64 0, .int .i64 0, .int .i64 0]) ?_ 1 _ rfl; (with_reducible repeat (first | refine blk_drewN ?_ _ | refine blk_drew ?_ | refine blk_alloc ?_ _)); refine blk_put (cs := #[.int .i64 0, .int .i64 0, .int .i64 0, .int .i64 0]) ?_ 0 _ rfl; (with_reducible repeat (first | refine blk_drewN ?_ _ | refine blk_drew ?_ | refine blk_alloc ?_ _)); exact BK558.out) hb); have n3_ := Aside0.mk (below_step (by repeat (first | (with_reducible first | exact HB.out | apply below_alloc | apply pw_below_drewN | apply below_drew1 | refine below_set ?_ GE558.out) | exact HB.out)) hb); clear HO551; clear BK558; clear HB; have HO551 := n0_; have HO562 := n1_; have BK558 := n2_; have HB := n3_; clear n0_ n1_ n2_ n3_; (try clear hb); (try clear hb2); (try clear hk); (try clear hi); (try clear ho0)) | ((with_reducible refine gate_callee (f := 15) rfl ?_); refine goesL_ (some 23) rfl rfl Try.func15 (by kernel_rfl) rfl #[] rfl q1_ ?_; (with_reducible refine (skifflaw9_held.calls k  t563 _ A5.out).mono ?_); rintro e w26 ⟨rfl, hb⟩; refine ⟨_, rfl, ?_⟩; have n0_ := Aside0.mk (Kd.R_below (by (with_reducible repeat (first | apply Kd.R_alloc | apply Kd.R_drewN | apply Kd.R_drew)); exact HO551.out) hb); have n1_ := Aside0.mk (Kd.R_below (by (with_reducible repeat (first | apply Kd.R_alloc | apply Kd.R_drewN | apply Kd.R_drew)); exact HO562.out) hb); have n2_ := Aside0.mk (blk_below (g := gb558) (o := .cells #[.int .i64 t553, .int .i64 t554, .int .i64 t555, .int .i64 t556] 25 (0, 0)) (by (with_reducible repeat (first | refine blk_drewN ?_ _ | refine blk_drew ?_ | refine blk_alloc ?_ _)); exact BK558.out) hb); have n3_ := Aside0.mk (below_step (by repeat (first | (with_reducible first | exact HB.out | apply below_alloc | apply pw_below_drewN | apply below_drew1 | refine below_set ?_ GE558.out) | exact HB.out)) hb); clear HO551; clear HO562; clear BK558; clear HB; have HO551 := n0_; have HO562 := n1_; have BK558 := n2_; have HB := n3_; clear n0_ n1_ n2_ n3_; (try clear hb); (try clear hb2); (try clear hk); (try clear hi)) | ((with_reducible refine gate_callee (f := 12) rfl ?_); refine goesL_ (some 24) rfl rfl Try.func12 (by kernel_rfl) rfl #[.string t563, .int .i64 0, .int .i64 0] rfl q1_ ?_; (with_reducible refine (stage_Record.calls k t563 0 0 t564 t565 t566 t567 t568 _ A6.out).mono ?_); rintro e w27 ⟨rfl, hb⟩; refine ⟨_, rfl, ?_⟩; have n0_ := Aside0.mk (Kd.R_below (by (with_reducible repeat (first | apply Kd.R_alloc | apply Kd.R_drewN | apply Kd.R_drew)); exact HO551.out) hb); have n1_ := Aside0.mk (Kd.R_below (by (with_reducible repeat (first | apply Kd.R_alloc | apply Kd.R_drewN | apply Kd.R_drew)); exact HO562.out) hb); have n2_ := Aside0.mk (blk_below (g := gb558) (o := .cells #[.int .i64 t553, .int .i64 t554, .int .i64 t555, .int .i64 t556] 25 (0, 0)) (by (with_reducible repeat (first | refine blk_drewN ?_ _ | refine blk_drew ?_ | refine blk_alloc ?_ _)); exact BK558.out) hb); have n3_ := Aside0.mk (below_step (by repeat (first | (with_reducible first | exact HB.out | apply below_alloc | apply pw_below_drewN | apply below_drew1 | refine below_set ?_ GE558.out) | exact HB.out)) hb); clear HO551; clear HO562; clear BK558; clear HB; have HO551 := n0_; have HO562 := n1_; have BK558 := n2_; have HB := n3_; clear n0_ n1_ n2_ n3_; (try clear hb); (try clear hb2); (try clear hk); (try clear hi)) | ((with_reducible refine gate_dst (N := 7) rfl ?_); refine box_event ?hg (N := 7) ?hd (cs := #[.int .i64 0, .int .i64 0, .int .i64 0, .int .i64 0]) (t := 25) ?hr ?_; (case hd => rfl); (case hg => rfl); (case hr => first | (go_simp; done) | (go_simp; rfl)); intro gb569 hg w28 hbox hb; have n0_ := Aside0.mk (Kd.R_below (by (with_reducible repeat (first | apply Kd.R_alloc | apply Kd.R_drewN | apply Kd.R_drew)); exact HO551.out) hb); have n1_ := Aside0.mk (Kd.R_below (by (with_reducible repeat (first | apply Kd.R_alloc | apply Kd.R_drewN | apply Kd.R_drew)); exact HO562.out) hb); have n2_ := Aside0.mk (blk_below (g := gb558) (o := .cells #[.int .i64 t553, .int .i64 t554, .int .i64 t555, .int .i64 t556] 25 (0, 0)) (by (with_reducible repeat (first | refine blk_drewN ?_ _ | refine blk_drew ?_ | refine blk_alloc ?_ _)); exact BK558.out) hb); have n3_ := Aside0.mk (below_step (by repeat (first | (with_reducible first | exact HB.out | apply below_alloc | apply pw_below_drewN | apply below_drew1 | refine below_set ?_ GE558.out) | exact HB.out)) hb); have n4_ := Aside0.mk (hbox); have n5_ := Aside0.mk ((by rw [hg]; exact (below_size (by repeat (first | (with_reducible first | exact HB.out | apply below_alloc | apply pw_below_drewN | apply below_drew1 | refine below_set ?_ GE558.out) | exact HB.out))) : w.heap.size ≤ gb569)); have n6_ := Aside0.mk ((by rw [hg]; exact (below_size (by repeat (first | (with_reducible first | exact HB.out | apply below_alloc | apply pw_below_drewN | apply below_drew1 | refine below_set ?_ GE558.out) | exact HB.out))) : w.heap.size ≤ gb569)); have n7_ := Aside0.mk ((by rw [hg]; exact Nat.ne_of_lt (blk_lt (g := gb558) (o := .cells #[.int .i64 t553, .int .i64 t554, .int .i64 t555, .int .i64 t556] 25 (0, 0)) (by (with_reducible repeat (first | refine blk_drewN ?_ _ | refine blk_drew ?_ | refine blk_alloc ?_ _)); exact BK558.out)) : gb558 ≠ gb569)); have n8_ := Aside0.mk ((by rw [hg]; exact Nat.ne_of_gt (blk_lt (g := gb558) (o := .cells #[.int .i64 t553, .int .i64 t554, .int .i64 t555, .int .i64 t556] 25 (0, 0)) (by (with_reducible repeat (first | refine blk_drewN ?_ _ | refine blk_drew ?_ | refine blk_alloc ?_ _)); exact BK558.out)) : gb569 ≠ gb558)); clear HO551; clear HO562; clear BK558; clear HB; have HO551 := n0_; have HO562 := n1_; have BK558 := n2_; have HB := n3_; have BK569 := n4_; have GW569 := n5_; have GE569 := n6_; have NB558_569 := n7_; have NB569_558 := n8_; clear n0_ n1_ n2_ n3_ n4_ n5_ n6_ n7_ n8_; clear hb hbox hg; have hnb29 := NB569_558.out; have hnc29 := NB558_569.out; have hcz30_0 : w28.cell? ⟨gb569, 0, none⟩ = some (.int .i64 0) := (blk_cell BK569.out 0).trans rfl; have hcz30_1 : w28.cell? ⟨gb569, 1, none⟩ = some (.int .i64 0) := (blk_cell BK569.out 1).trans rfl; have hcz30_2 : w28.cell? ⟨gb569, 2, none⟩ = some (.int .i64 0) := (blk_cell BK569.out 2).trans rfl; have hcz30_3 : w28.cell? ⟨gb569, 3, none⟩ = some (.int .i64 0) := (blk_cell BK569.out 3).trans rfl; have hfz30_0 := blk_frozen BK569.out 0; have hfz30_1 := blk_frozen BK569.out 1; have hfz30_2 := blk_frozen BK569.out 2; have hfz30_3 := blk_frozen BK569.out 3))
        have n0_ : Aside0 (Kd.R k35 35 ((((w28.setCell ⟨gb569, 0, none⟩ (.int .i64 t564)).setCell ⟨gb569, 1, none⟩ (.int .i64 t565)).setCell ⟨gb569, 2, none⟩ (.int .i64 t566)).setCell ⟨gb569, 3, none⟩ (.int .i64 t567)) w.heap.size (fun k_ => some k_ ≠ (v561 : Value).ownBlock) v550 t548) := ⟨by (with_reducible repeat (first | apply Kd.R_alloc | apply Kd.R_drewN | apply Kd.R_drew)); exact Kd.R_mono (Kd.R_far (p := ⟨gb569, 3, none⟩) (Kd.R_far (p := ⟨gb569, 2, none⟩) (Kd.R_far (p := ⟨gb569, 1, none⟩) (Kd.R_far (p := ⟨gb569, 0, none⟩) (Kd.R_types HO551.out BK569.out (by decide)) (fun _ hk => hk.2) (.int .i64 t564)) (fun _ hk => hk.2) (.int .i64 t565)) (fun _ hk => hk.2) (.int .i64 t566)) (fun _ hk => hk.2) (.int .i64 t567)) (fun _ hk => hk.1.2)⟩
        have n1_ : Aside0 (Kd.R k35 35 ((((w28.setCell ⟨gb569, 0, none⟩ (.int .i64 t564)).setCell ⟨gb569, 1, none⟩ (.int .i64 t565)).setCell ⟨gb569, 2, none⟩ (.int .i64 t566)).setCell ⟨gb569, 3, none⟩ (.int .i64 t567)) w.heap.size (fun k_ => some k_ ≠ (v550 : Value).ownBlock) v561 t559) := ⟨by (with_reducible repeat (first | apply Kd.R_alloc | apply Kd.R_drewN | apply Kd.R_drew)); exact Kd.R_mono (Kd.R_far (p := ⟨gb569, 3, none⟩) (Kd.R_far (p := ⟨gb569, 2, none⟩) (Kd.R_far (p := ⟨gb569, 1, none⟩) (Kd.R_far (p := ⟨gb569, 0, none⟩) (Kd.R_types HO562.out BK569.out (by decide)) (fun _ hk => hk.2) (.int .i64 t564)) (fun _ hk => hk.2) (.int .i64 t565)) (fun _ hk => hk.2) (.int .i64 t566)) (fun _ hk => hk.2) (.int .i64 t567)) (fun _ hk => hk.1.2)⟩
        have n2_ : Aside0 (((((w28.setCell ⟨gb569, 0, none⟩ (.int .i64 t564)).setCell ⟨gb569, 1, none⟩ (.int .i64 t565)).setCell ⟨gb569, 2, none⟩ (.int .i64 t566)).setCell ⟨gb569, 3, none⟩ (.int .i64 t567)).heap[gb558]? = some (.cells #[.int .i64 t553, .int .i64 t554, .int .i64 t555, .int .i64 t556] 25 (0, 0))) := ⟨by (with_reducible repeat (first | refine blk_drewN ?_ _ | refine blk_drew ?_ | refine blk_alloc ?_ _)); refine blk_far ?_ NB558_569.out _; (with_reducible repeat (first | refine blk_drewN ?_ _ | refine blk_drew ?_ | refine blk_alloc ?_ _)); refine blk_far ?_ NB558_569.out _; (with_reducible repeat (first | refine blk_drewN ?_ _ | refine blk_drew ?_ | refine blk_alloc ?_ _)); refine blk_far ?_ NB558_569.out _; (with_reducible repeat (first | refine blk_drewN ?_ _ | refine blk_drew ?_ | refine blk_alloc ?_ _)); refine blk_far ?_ NB558_569.out _; (with_reducible repeat (first | refine blk_drewN ?_ _ | refine blk_drew ?_ | refine blk_alloc ?_ _)); exact BK558.out⟩
        have n3_ : Aside0 (((((w28.setCell ⟨gb569, 0, none⟩ (.int .i64 t564)).setCell ⟨gb569, 1, none⟩ (.int .i64 t565)).setCell ⟨gb569, 2, none⟩ (.int .i64 t566)).setCell ⟨gb569, 3, none⟩ (.int .i64 t567)).heap[gb569]? = some (.cells #[.int .i64 t564, .int .i64 t565, .int .i64 t566, .int .i64 t567] 25 (0, 0))) := ⟨by (with_reducible repeat (first | refine blk_drewN ?_ _ | refine blk_drew ?_ | refine blk_alloc ?_ _)); refine blk_put (cs := #[.int .i64 t564, .int .i64 t565, .int .i64 t566, .int .i64 0]) ?_ 3 _ rfl; (with_reducible repeat (first | refine blk_drewN ?_ _ | refine blk_drew ?_ | refine blk_alloc ?_ _)); refine blk_put (cs := #[.int .i64 t564, .int .i64 t565, .int .i64 0, .int .i64 0]) ?_ 2 _ rfl; (with_reducible repeat (first | refine blk_drewN ?_ _ | refine blk_drew ?_ | refine blk_alloc ?_ _)); refine blk_put (cs := #[.int .i64 t564, .int .i64 0, .int .i64 0, .int .i64 0]) ?_ 1 _ rfl; (with_reducible repeat (first | refine blk_drewN ?_ _ | refine blk_drew ?_ | refine blk_alloc ?_ _)); refine blk_put (cs := #[.int .i64 0, .int .i64 0, .int .i64 0, .int .i64 0]) ?_ 0 _ rfl; (with_reducible repeat (first | refine blk_drewN ?_ _ | refine blk_drew ?_ | refine blk_alloc ?_ _)); exact BK569.out⟩
        have n4_ : Aside0 (Below w.heap.size w ((((w28.setCell ⟨gb569, 0, none⟩ (.int .i64 t564)).setCell ⟨gb569, 1, none⟩ (.int .i64 t565)).setCell ⟨gb569, 2, none⟩ (.int .i64 t566)).setCell ⟨gb569, 3, none⟩ (.int .i64 t567))) := ⟨by repeat (first | (with_reducible first | exact HB.out | apply below_alloc | apply pw_below_drewN | apply below_drew1 | refine below_set ?_ GE558.out | refine below_set ?_ GE569.out) | exact HB.out)⟩
        (try clear HO551)
        (try clear HO562)
        (try clear BK558)
        (try clear BK569)
        (try clear HB)
        generalize ((((w28.setCell ⟨gb569, 0, none⟩ (.int .i64 t564)).setCell ⟨gb569, 1, none⟩ (.int .i64 t565)).setCell ⟨gb569, 2, none⟩ (.int .i64 t566)).setCell ⟨gb569, 3, none⟩ (.int .i64 t567)) = w31 at n0_ n1_ n2_ n3_ n4_ ⊢
        have HO551 := n0_
        have HO562 := n1_
        have BK558 := n2_
        have BK569 := n3_
        have HB := n4_
        clear n0_ n1_ n2_ n3_ n4_
        have n0_ := Aside0.mk (Kd.R_drew HO551.out)
        have n1_ := Aside0.mk (Kd.R_drew HO562.out)
        have n2_ := Aside0.mk (blk_drew BK558.out)
        have n3_ := Aside0.mk (blk_drew BK569.out)
        have n4_ := Aside0.mk (below_drew1 HB.out)
        clear HO551
        clear HO562
        clear BK558
        clear BK569
        clear HB
        have HO551 := n0_
        have HO562 := n1_
        have BK558 := n2_
        have BK569 := n3_
        have HB := n4_
        clear n0_ n1_ n2_ n3_ n4_
        refine start_ (n := 43) (S := fun w' => w'.cell? ⟨gb558, 0, none⟩ = some (.int .i64 t553) ∧ w'.cell? ⟨gb558, 1, none⟩ = some (.int .i64 t554) ∧ w'.cell? ⟨gb558, 2, none⟩ = some (.int .i64 t555) ∧ w'.cell? ⟨gb558, 3, none⟩ = some (.int .i64 t556)) (ds := []) #[false, false, false, false, false, false, false, false, false, false, false, false, false, false, false, false, false, false, false, false, false, false, false, false, false, false, false, false, false, false, false, false, false, false, false, false, false, false, false, false, false, false, false] (by kernel_rfl) rfl rfl ⟨(blk_cell BK558.out 0).trans rfl, (blk_cell BK558.out 1).trans rfl, (blk_cell BK558.out 2).trans rfl, (blk_cell BK558.out 3).trans rfl⟩ (fun hHeld => ?_); refine with_tabW skifflaw9_awake.tab5 skifflaw9_awake.bits5 (fun HT_ HW_ => ?_)
        generalize w31.drew = w32 at HO551 HO562 BK558 BK569 HB hHeld ⊢
        refine pure_ (i := 0) (N := some 27) (v := ?_) (a' := ?_) #[true, false, false, false, false, false, false, false, false, false, false, false, false, false, false, false, false, false, false, false, false, false, false, false, false, false, false, false, false, false, false, false, false, false, false, false, false, false, false, false, false, false, false] rfl rfl (any_of HT_.out (by kernel_rfl)) (fun _ _ _ h => h) (Or.inl ⟨by rfl, ?_⟩) ?_ ?_
        rotate_left
        ·intro w'
         go_simp
         with_reducible rfl
        rotate_left
        ·simp only [Act.put, List.setIfInBounds_toArray, List.set_cons_zero, List.set_cons_succ, i64_w, i32_w]
         rfl
        refine pure_ (i := 1) (N := some 28) (v := ?_) (a' := ?_) #[true, true, false, false, false, false, false, false, false, false, false, false, false, false, false, false, false, false, false, false, false, false, false, false, false, false, false, false, false, false, false, false, false, false, false, false, false, false, false, false, false, false, false] rfl rfl (any_of HT_.out (by kernel_rfl)) (fun _ _ _ h => h) (Or.inl ⟨by rfl, ?_⟩) ?_ ?_
        rotate_left
        ·intro w'
         go_simp
         with_reducible rfl
        rotate_left
        ·simp only [Act.put, List.setIfInBounds_toArray, List.set_cons_zero, List.set_cons_succ, i64_w, i32_w]
         rfl
        refine pure_ (i := 2) (N := some 29) (v := ?_) (a' := ?_) #[true, true, true, false, false, false, false, false, false, false, false, false, false, false, false, false, false, false, false, false, false, false, false, false, false, false, false, false, false, false, false, false, false, false, false, false, false, false, false, false, false, false, false] rfl rfl (any_of HT_.out (by kernel_rfl)) (fun _ _ _ h => h) (Or.inl ⟨by rfl, ?_⟩) ?_ ?_
        rotate_left
        ·intro w'
         go_simp
         with_reducible rfl
        rotate_left
        ·simp only [Act.put, List.setIfInBounds_toArray, List.set_cons_zero, List.set_cons_succ, i64_w, i32_w]
         rfl
        refine pure_ (i := 3) (N := some 30) (v := ?_) (a' := ?_) #[true, true, true, true, false, false, false, false, false, false, false, false, false, false, false, false, false, false, false, false, false, false, false, false, false, false, false, false, false, false, false, false, false, false, false, false, false, false, false, false, false, false, false] rfl rfl (any_of HT_.out (by kernel_rfl)) (fun _ _ _ h => h) (Or.inl ⟨by rfl, ?_⟩) ?_ ?_
        rotate_left
        ·intro w'
         go_simp
         with_reducible rfl
        rotate_left
        ·simp only [Act.put, List.setIfInBounds_toArray, List.set_cons_zero, List.set_cons_succ, i64_w, i32_w]
         rfl
        refine one_ (i := 4) (N := some 31) #[true, true, true, true, true, false, false, false, false, false, false, false, false, false, false, false, false, false, false, false, false, false, false, false, false, false, false, false, false, false, false, false, false, false, false, false, false, false, false, false, false, false, false] rfl rfl (one_of HT_.out (by kernel_rfl)) (by decide) (fun K hK => ?_)
        refine Kd.R_lit_step k35 _ 35 ?hg (N := 31) ?hd (xs := ([(⟨true, 480, (⟨#[]⟩ : ByteArray)⟩ : S35), (⟨true, 576, (⟨#[]⟩ : ByteArray)⟩ : S35), (⟨true, 672, (⟨#[]⟩ : ByteArray)⟩ : S35)] : List (S35))) (inner := [.bool true, .int .i64 480, .string (⟨#[]⟩ : ByteArray), .bool true, .int .i64 576, .string (⟨#[]⟩ : ByteArray), .bool true, .int .i64 672, .string (⟨#[]⟩ : ByteArray)]) (ok := fun _ => True) (okp := fun _ => True) ?hr ?hp (fun _ hk => hk) trivial (Below.refl _ _) (Nat.le_refl _) (by simp) ?_; (case hd => rfl); (case hg => rfl); (case hr => first | (go_simp; done) | (go_simp; rfl)); (case hp => exact (Reps.c3 (show Kd.M k35 _ _ _ (⟨true, 480, (⟨#[]⟩ : ByteArray)⟩ : S35) [.bool true, .int .i64 480, .string (⟨#[]⟩ : ByteArray)] from (k35_mkM _ _ _ (⟨true, 480, (⟨#[]⟩ : ByteArray)⟩ : S35) )) (Reps.c3 (show Kd.M k35 _ _ _ (⟨true, 576, (⟨#[]⟩ : ByteArray)⟩ : S35) [.bool true, .int .i64 576, .string (⟨#[]⟩ : ByteArray)] from (k35_mkM _ _ _ (⟨true, 576, (⟨#[]⟩ : ByteArray)⟩ : S35) )) (Reps.c3 (show Kd.M k35 _ _ _ (⟨true, 672, (⟨#[]⟩ : ByteArray)⟩ : S35) [.bool true, .int .i64 672, .string (⟨#[]⟩ : ByteArray)] from (k35_mkM _ _ _ (⟨true, 672, (⟨#[]⟩ : ByteArray)⟩ : S35) )) (Reps.none _ _)))))
        intro v571 w33 ho34 hb hg_ hnew_
        clear hg_ hnew_
        (first | rw [← Ny570.out] at ho34 | (simp only [Int.reduceToNat] at ho34; rw [← Ny570.out] at ho34))
        have n0_ := Aside0.mk (Kd.R_elder' (by (with_reducible repeat (first | apply Kd.R_alloc | apply Kd.R_drewN | apply Kd.R_drew)); exact HO551.out) (Kd.R_base ho34) hb)
        have n1_ := Aside0.mk (Kd.R_elder' (by (with_reducible repeat (first | apply Kd.R_alloc | apply Kd.R_drewN | apply Kd.R_drew)); exact HO562.out) (Kd.R_base ho34) hb)
        have n2_ := Aside0.mk (Kd.R_lower (Kd.R_new' (Kd.R_new' ho34 (Kd.R_lt (by (with_reducible repeat (first | apply Kd.R_alloc | apply Kd.R_drewN | apply Kd.R_drew)); exact HO551.out))) (Kd.R_lt (by (with_reducible repeat (first | apply Kd.R_alloc | apply Kd.R_drewN | apply Kd.R_drew)); exact HO562.out))) (below_size (by repeat (first | (with_reducible first | exact HB.out | apply below_alloc | apply pw_below_drewN | apply below_drew1 | refine below_set ?_ GE558.out | refine below_set ?_ GE569.out) | exact HB.out))))
        have n3_ := Aside0.mk (blk_below (g := gb558) (o := .cells #[.int .i64 t553, .int .i64 t554, .int .i64 t555, .int .i64 t556] 25 (0, 0)) (by (with_reducible repeat (first | refine blk_drewN ?_ _ | refine blk_drew ?_ | refine blk_alloc ?_ _)); exact BK558.out) hb)
        have n4_ := Aside0.mk (blk_below (g := gb569) (o := .cells #[.int .i64 t564, .int .i64 t565, .int .i64 t566, .int .i64 t567] 25 (0, 0)) (by (with_reducible repeat (first | refine blk_drewN ?_ _ | refine blk_drew ?_ | refine blk_alloc ?_ _)); exact BK569.out) hb)
        have n5_ := Aside0.mk (below_step (by repeat (first | (with_reducible first | exact HB.out | apply below_alloc | apply pw_below_drewN | apply below_drew1 | refine below_set ?_ GE558.out | refine below_set ?_ GE569.out) | exact HB.out)) hb)
        clear HO551
        clear HO562
        clear BK558
        clear BK569
        clear HB
        have HO551 := n0_
        have HO562 := n1_
        have HO572 := n2_
        have BK558 := n3_
        have BK569 := n4_
        have HB := n5_
        clear n0_ n1_ n2_ n3_ n4_ n5_
        clear hb ho34
        obtain ⟨Ao35, co35, eo35⟩ := Kd.R_slice HO551.out
        (first | subst eo35 | (injection eo35 with f1_ f2_ f3_; have f4_ := f1_.symm; have f5_ := f3_.symm; clear f1_ f2_ f3_; subst f4_; subst f5_))
        obtain ⟨Ao36, co36, eo36⟩ := Kd.R_slice HO572.out
        (first | subst eo36 | (injection eo36 with f1_ f2_ f3_; have f4_ := f1_.symm; have f5_ := f3_.symm; clear f1_ f2_ f3_; subst f4_; subst f5_))
        refine hK.out _ _ ⟨(blk_cell BK558.out 0).trans rfl, (blk_cell BK558.out 1).trans rfl, (blk_cell BK558.out 2).trans rfl, (blk_cell BK558.out 3).trans rfl⟩ (fun hHeld => ?_)
        clear hK K
        refine norm_ (a' := ?_) ?_ ?_
        rotate_left
        ·show Act.put _ (some 31) _ = _
         simp only [Act.put, List.setIfInBounds_toArray, List.set_cons_zero, List.set_cons_succ, i64_w, i32_w]
         rfl
        refine one_ (i := 5) (N := some 32) #[true, true, true, true, true, true, false, false, false, false, false, false, false, false, false, false, false, false, false, false, false, false, false, false, false, false, false, false, false, false, false, false, false, false, false, false, false, false, false, false, false, false, false] rfl rfl (one_of HT_.out (by kernel_rfl)) (by decide) (fun K hK => ?_)
        refine goes_ Try.func23 (by kernel_rfl) rfl #[.slice Ao35 t548.length co35, .slice Ao36 y570.length co36] (by rfl) rfl rfl q1_ ?_
        with_reducible refine (skifflaw0_SameOps.calls k _ _ t548 _ _ y570 true _ ?side1 ?side2 ?side3 ?side4 A7.out).mono ?_
        (case side1 => repeat (first | exact (Kd.R_reads' HO551.out).2.2 | (with_reducible refine Kd.C_alloc ?_ _) | (with_reducible refine Kd.C_drewN ?_ _) | (with_reducible refine Kd.C_drew ?_)))
        (case side2 => exact (Kd.R_reads' HO551.out).2.1)
        (case side3 => repeat (first | exact (Kd.R_reads' HO572.out).2.2 | (with_reducible refine Kd.C_alloc ?_ _) | (with_reducible refine Kd.C_drewN ?_ _) | (with_reducible refine Kd.C_drew ?_)))
        (case side4 => exact (Kd.R_reads' HO572.out).2.1)
        rintro e w' ⟨rfl, ⟨nd, rfl⟩⟩
        refine ⟨_, rfl, ?_⟩
        refine hK.out _ _ ⟨(blk_cell BK558.out 0).trans rfl, (blk_cell BK558.out 1).trans rfl, (blk_cell BK558.out 2).trans rfl, (blk_cell BK558.out 3).trans rfl⟩ (fun hHeld => ?_)
        clear hK K
        refine norm_ (a' := ?_) ?_ ?_
        rotate_left
        ·show Act.put _ (some 32) _ = _
         simp only [Act.put, List.setIfInBounds_toArray, List.set_cons_zero, List.set_cons_succ, i64_w, i32_w]
         rfl
        refine pure_ (i := 6) (N := some 33) (v := ?_) (a' := ?_) #[true, true, true, true, true, true, true, false, false, false, false, false, false, false, false, false, false, false, false, false, false, false, false, false, false, false, false, false, false, false, false, false, false, false, false, false, false, false, false, false, false, false, false] rfl rfl (any_of HT_.out (by kernel_rfl)) (fun _ _ _ h => h) (Or.inl ⟨by rfl, ?_⟩) ?_ ?_
        rotate_left
        ·intro w'
         go_simp
         with_reducible rfl
        rotate_left
        ·simp only [Act.put, List.setIfInBounds_toArray, List.set_cons_zero, List.set_cons_succ, i64_w, i32_w]
         rfl
        refine pure_ (i := 7) (N := some 34) (v := ?_) (a' := ?_) #[true, true, true, true, true, true, true, true, false, false, false, false, false, false, false, false, false, false, false, false, false, false, false, false, false, false, false, false, false, false, false, false, false, false, false, false, false, false, false, false, false, false, false] rfl rfl (any_of HT_.out (by kernel_rfl)) (fun _ _ _ h => h) (Or.inl ⟨by rfl, ?_⟩) ?_ ?_
        rotate_left
        ·intro w'
         go_simp
         with_reducible rfl
        rotate_left
        ·simp only [Act.put, List.setIfInBounds_toArray, List.set_cons_zero, List.set_cons_succ, i64_w, i32_w]
         rfl
        refine one_ (i := 8) (N := some 35) #[true, true, true, true, true, true, true, true, true, false, false, false, false, false, false, false, false, false, false, false, false, false, false, false, false, false, false, false, false, false, false, false, false, false, false, false, false, false, false, false, false, false, false] rfl rfl (one_of HT_.out (by kernel_rfl)) (by decide) (fun K hK => ?_)
        refine goes_ Try.func13 (by kernel_rfl) rfl #[.int .i64 t549] (by rfl) rfl rfl q1_ ?_
        with_reducible refine (skifflaw0_Num.calls t549 t574 _ A9.out).mono ?_
        rintro e w' ⟨rfl, ⟨nd, rfl⟩⟩
        refine ⟨_, rfl, ?_⟩
        refine hK.out _ _ ⟨(blk_cell BK558.out 0).trans rfl, (blk_cell BK558.out 1).trans rfl, (blk_cell BK558.out 2).trans rfl, (blk_cell BK558.out 3).trans rfl⟩ (fun hHeld => ?_)
        clear hK K
        refine norm_ (a' := ?_) ?_ ?_
        rotate_left
        ·show Act.put _ (some 35) _ = _
         simp only [Act.put, List.setIfInBounds_toArray, List.set_cons_zero, List.set_cons_succ, i64_w, i32_w]
         rfl
        refine pure_ (i := 9) (N := some 36) (v := ?_) (a' := ?_) #[true, true, true, true, true, true, true, true, true, true, false, false, false, false, false, false, false, false, false, false, false, false, false, false, false, false, false, false, false, false, false, false, false, false, false, false, false, false, false, false, false, false, false] rfl rfl (any_of HT_.out (by kernel_rfl)) (fun _ _ _ h => h) (Or.inl ⟨by rfl, ?_⟩) ?_ ?_
        rotate_left
        ·intro w'
         go_simp
         with_reducible rfl
        rotate_left
        ·simp only [Act.put, List.setIfInBounds_toArray, List.set_cons_zero, List.set_cons_succ, i64_w, i32_w]
         rfl
        refine pure_ (i := 10) (N := some 37) (v := ?_) (a' := ?_) #[true, true, true, true, true, true, true, true, true, true, true, false, false, false, false, false, false, false, false, false, false, false, false, false, false, false, false, false, false, false, false, false, false, false, false, false, false, false, false, false, false, false, false] rfl rfl (any_of HT_.out (by kernel_rfl)) (fun _ _ _ h => h) (Or.inl ⟨by rfl, ?_⟩) ?_ ?_
        rotate_left
        ·intro w'
         go_simp
         with_reducible rfl
        rotate_left
        ·simp only [Act.put, List.setIfInBounds_toArray, List.set_cons_zero, List.set_cons_succ, i64_w, i32_w]
         rfl
        refine pure_ (i := 11) (N := some 38) (v := ?_) (a' := ?_) #[true, true, true, true, true, true, true, true, true, true, true, true, false, false, false, false, false, false, false, false, false, false, false, false, false, false, false, false, false, false, false, false, false, false, false, false, false, false, false, false, false, false, false] rfl rfl (any_of HT_.out (by kernel_rfl)) (fun _ _ _ h => h) (Or.inl ⟨by rfl, ?_⟩) ?_ ?_
        rotate_left
        ·intro w'
         go_simp
         with_reducible rfl
        rotate_left
        ·simp only [Act.put, List.setIfInBounds_toArray, List.set_cons_zero, List.set_cons_succ, i64_w, i32_w]
         rfl
        refine pure_ (i := 12) (N := some 39) (v := ?_) (a' := ?_) #[true, true, true, true, true, true, true, true, true, true, true, true, true, false, false, false, false, false, false, false, false, false, false, false, false, false, false, false, false, false, false, false, false, false, false, false, false, false, false, false, false, false, false] rfl rfl (any_of HT_.out (by kernel_rfl)) (fun _ _ _ h => h) (Or.inl ⟨by rfl, ?_⟩) ?_ ?_
        rotate_left
        ·intro w'
         go_simp
         with_reducible rfl
        rotate_left
        ·simp only [Act.put, List.setIfInBounds_toArray, List.set_cons_zero, List.set_cons_succ, i64_w, i32_w]
         rfl
        refine take_ (i := 13) (N := some 40) (v := ?_) (a' := ?_) #[true, true, true, true, true, true, true, true, true, true, true, true, true, true, false, false, false, false, false, false, false, false, false, false, false, false, false, false, false, false, false, false, false, false, false, false, false, false, false, false, false, false, false] rfl rfl (take_ofW HT_.out HW_.out (by kernel_rfl)) (fun _ _ _ h => h) (Or.inl ⟨by rfl, ?_⟩) hHeld ?_ ?_
        rotate_left
        ·rintro w' ⟨s0, s1, s2, s3⟩
         go_simp
         with_reducible rfl
        rotate_left
        ·simp only [Act.put, List.setIfInBounds_toArray, List.set_cons_zero, List.set_cons_succ, i64_w, i32_w]
         rfl
        refine pure_ (i := 14) (N := some 41) (v := ?_) (a' := ?_) #[true, true, true, true, true, true, true, true, true, true, true, true, true, true, true, false, false, false, false, false, false, false, false, false, false, false, false, false, false, false, false, false, false, false, false, false, false, false, false, false, false, false, false] rfl rfl (any_of HT_.out (by kernel_rfl)) (fun _ _ _ h => h) (Or.inl ⟨by rfl, ?_⟩) ?_ ?_
        rotate_left
        ·intro w'
         go_simp
         with_reducible rfl
        rotate_left
        ·simp only [Act.put, List.setIfInBounds_toArray, List.set_cons_zero, List.set_cons_succ, i64_w, i32_w]
         rfl
        refine pure_ (i := 15) (N := some 42) (v := ?_) (a' := ?_) #[true, true, true, true, true, true, true, true, true, true, true, true, true, true, true, true, false, false, false, false, false, false, false, false, false, false, false, false, false, false, false, false, false, false, false, false, false, false, false, false, false, false, false] rfl rfl (any_of HT_.out (by kernel_rfl)) (fun _ _ _ h => h) (Or.inl ⟨by rfl, ?_⟩) ?_ ?_
        rotate_left
        ·intro w'
         go_simp
         with_reducible rfl
        rotate_left
        ·simp only [Act.put, List.setIfInBounds_toArray, List.set_cons_zero, List.set_cons_succ, i64_w, i32_w]
         rfl
        refine pure_ (i := 16) (N := some 43) (v := ?_) (a' := ?_) #[true, true, true, true, true, true, true, true, true, true, true, true, true, true, true, true, true, false, false, false, false, false, false, false, false, false, false, false, false, false, false, false, false, false, false, false, false, false, false, false, false, false, false] rfl rfl (any_of HT_.out (by kernel_rfl)) (fun _ _ _ h => h) (Or.inl ⟨by rfl, ?_⟩) ?_ ?_
        rotate_left
        ·intro w'
         go_simp
         with_reducible rfl
        rotate_left
        ·simp only [Act.put, List.setIfInBounds_toArray, List.set_cons_zero, List.set_cons_succ, i64_w, i32_w]
         rfl
        refine pure_ (i := 17) (N := some 44) (v := ?_) (a' := ?_) #[true, true, true, true, true, true, true, true, true, true, true, true, true, true, true, true, true, true, false, false, false, false, false, false, false, false, false, false, false, false, false, false, false, false, false, false, false, false, false, false, false, false, false] rfl rfl (any_of HT_.out (by kernel_rfl)) (fun _ _ _ h => h) (Or.inl ⟨by rfl, ?_⟩) ?_ ?_
        rotate_left
        ·intro w'
         go_simp
         with_reducible rfl
        rotate_left
        ·simp only [Act.put, List.setIfInBounds_toArray, List.set_cons_zero, List.set_cons_succ, i64_w, i32_w]
         rfl
        refine take_ (i := 18) (N := some 45) (v := ?_) (a' := ?_) #[true, true, true, true, true, true, true, true, true, true, true, true, true, true, true, true, true, true, true, false, false, false, false, false, false, false, false, false, false, false, false, false, false, false, false, false, false, false, false, false, false, false, false] rfl rfl (take_ofW HT_.out HW_.out (by kernel_rfl)) (fun _ _ _ h => h) (Or.inl ⟨by rfl, ?_⟩) hHeld ?_ ?_
        rotate_left
        ·rintro w' ⟨s0, s1, s2, s3⟩
         go_simp
         with_reducible rfl
        rotate_left
        ·simp only [Act.put, List.setIfInBounds_toArray, List.set_cons_zero, List.set_cons_succ, i64_w, i32_w]
         rfl
        refine pure_ (i := 19) (N := some 46) (v := ?_) (a' := ?_) #[true, true, true, true, true, true, true, true, true, true, true, true, true, true, true, true, true, true, true, true, false, false, false, false, false, false, false, false, false, false, false, false, false, false, false, false, false, false, false, false, false, false, false] rfl rfl (any_of HT_.out (by kernel_rfl)) (fun _ _ _ h => h) (Or.inl ⟨by rfl, ?_⟩) ?_ ?_
        rotate_left
        ·intro w'
         go_simp
         with_reducible rfl
        rotate_left
        ·simp only [Act.put, List.setIfInBounds_toArray, List.set_cons_zero, List.set_cons_succ, i64_w, i32_w]
         rfl
        refine pure_ (i := 20) (N := some 47) (v := ?_) (a' := ?_) #[true, true, true, true, true, true, true, true, true, true, true, true, true, true, true, true, true, true, true, true, true, false, false, false, false, false, false, false, false, false, false, false, false, false, false, false, false, false, false, false, false, false, false] rfl rfl (any_of HT_.out (by kernel_rfl)) (fun _ _ _ h => h) (Or.inl ⟨by rfl, ?_⟩) ?_ ?_
        rotate_left
        ·intro w'
         go_simp
         with_reducible rfl
        rotate_left
        ·simp only [Act.put, List.setIfInBounds_toArray, List.set_cons_zero, List.set_cons_succ, i64_w, i32_w]
         rfl
        refine pure_ (i := 21) (N := some 48) (v := ?_) (a' := ?_) #[true, true, true, true, true, true, true, true, true, true, true, true, true, true, true, true, true, true, true, true, true, true, false, false, false, false, false, false, false, false, false, false, false, false, false, false, false, false, false, false, false, false, false] rfl rfl (any_of HT_.out (by kernel_rfl)) (fun _ _ _ h => h) (Or.inl ⟨by rfl, ?_⟩) ?_ ?_
        rotate_left
        ·intro w'
         go_simp
         with_reducible rfl
        rotate_left
        ·simp only [Act.put, List.setIfInBounds_toArray, List.set_cons_zero, List.set_cons_succ, i64_w, i32_w]
         rfl
        refine pure_ (i := 22) (N := some 49) (v := ?_) (a' := ?_) #[true, true, true, true, true, true, true, true, true, true, true, true, true, true, true, true, true, true, true, true, true, true, true, false, false, false, false, false, false, false, false, false, false, false, false, false, false, false, false, false, false, false, false] rfl rfl (any_of HT_.out (by kernel_rfl)) (fun _ _ _ h => h) (Or.inl ⟨by rfl, ?_⟩) ?_ ?_
        rotate_left
        ·intro w'
         go_simp
         with_reducible rfl
        rotate_left
        ·simp only [Act.put, List.setIfInBounds_toArray, List.set_cons_zero, List.set_cons_succ, i64_w, i32_w]
         rfl
        refine take_ (i := 23) (N := some 50) (v := ?_) (a' := ?_) #[true, true, true, true, true, true, true, true, true, true, true, true, true, true, true, true, true, true, true, true, true, true, true, true, false, false, false, false, false, false, false, false, false, false, false, false, false, false, false, false, false, false, false] rfl rfl (take_ofW HT_.out HW_.out (by kernel_rfl)) (fun _ _ _ h => h) (Or.inl ⟨by rfl, ?_⟩) hHeld ?_ ?_
        rotate_left
        ·rintro w' ⟨s0, s1, s2, s3⟩
         go_simp
         with_reducible rfl
        rotate_left
        ·simp only [Act.put, List.setIfInBounds_toArray, List.set_cons_zero, List.set_cons_succ, i64_w, i32_w]
         rfl
        refine one_ (i := 24) (N := some 51) #[true, true, true, true, true, true, true, true, true, true, true, true, true, true, true, true, true, true, true, true, true, true, true, true, true, false, false, false, false, false, false, false, false, false, false, false, false, false, false, false, false, false, false] rfl rfl (one_of HT_.out (by kernel_rfl)) (by decide) (fun K hK => ?_)
        refine goes_ Try.func14 (by kernel_rfl) rfl #[.string (⟨#[97, 98, 97, 98, 97, 98, 97, 98, 97, 98, 97, 98]⟩ : ByteArray)] (by rfl) rfl rfl q1_ ?_
        with_reducible refine (skiffref1_Crc.calls k (⟨#[97, 98, 97, 98, 97, 98, 97, 98, 97, 98, 97, 98]⟩ : ByteArray) t575 _ A13.out).mono ?_
        rintro e w' ⟨rfl, ⟨nd, rfl⟩⟩
        refine ⟨_, rfl, ?_⟩
        refine hK.out _ _ ⟨(blk_cell BK558.out 0).trans rfl, (blk_cell BK558.out 1).trans rfl, (blk_cell BK558.out 2).trans rfl, (blk_cell BK558.out 3).trans rfl⟩ (fun hHeld => ?_)
        clear hK K
        refine norm_ (a' := ?_) ?_ ?_
        rotate_left
        ·show Act.put _ (some 51) _ = _
         simp only [Act.put, List.setIfInBounds_toArray, List.set_cons_zero, List.set_cons_succ, i64_w, i32_w]
         rfl
        refine pure_ (i := 25) (N := some 52) (v := ?_) (a' := ?_) #[true, true, true, true, true, true, true, true, true, true, true, true, true, true, true, true, true, true, true, true, true, true, true, true, true, true, false, false, false, false, false, false, false, false, false, false, false, false, false, false, false, false, false] rfl rfl (any_of HT_.out (by kernel_rfl)) (fun _ _ _ h => h) (Or.inl ⟨by rfl, ?_⟩) ?_ ?_
        rotate_left
        ·intro w'
         go_simp
         with_reducible rfl
        rotate_left
        ·simp only [Act.put, List.setIfInBounds_toArray, List.set_cons_zero, List.set_cons_succ, i64_w, i32_w]
         rfl
        refine pure_ (i := 26) (N := some 53) (v := ?_) (a' := ?_) #[true, true, true, true, true, true, true, true, true, true, true, true, true, true, true, true, true, true, true, true, true, true, true, true, true, true, true, false, false, false, false, false, false, false, false, false, false, false, false, false, false, false, false] rfl rfl (any_of HT_.out (by kernel_rfl)) (fun _ _ _ h => h) (Or.inl ⟨by rfl, ?_⟩) ?_ ?_
        rotate_left
        ·intro w'
         go_simp
         with_reducible rfl
        rotate_left
        ·simp only [Act.put, List.setIfInBounds_toArray, List.set_cons_zero, List.set_cons_succ, i64_w, i32_w]
         rfl
        refine pure_ (i := 27) (N := some 54) (v := ?_) (a' := ?_) #[true, true, true, true, true, true, true, true, true, true, true, true, true, true, true, true, true, true, true, true, true, true, true, true, true, true, true, true, false, false, false, false, false, false, false, false, false, false, false, false, false, false, false] rfl rfl (any_of HT_.out (by kernel_rfl)) (fun _ _ _ h => h) (Or.inl ⟨by rfl, ?_⟩) ?_ ?_
        rotate_left
        ·intro w'
         go_simp
         with_reducible rfl
        rotate_left
        ·simp only [Act.put, List.setIfInBounds_toArray, List.set_cons_zero, List.set_cons_succ, i64_w, i32_w]
         rfl
        refine pure_ (i := 28) (N := some 55) (v := ?_) (a' := ?_) #[true, true, true, true, true, true, true, true, true, true, true, true, true, true, true, true, true, true, true, true, true, true, true, true, true, true, true, true, true, false, false, false, false, false, false, false, false, false, false, false, false, false, false] rfl rfl (any_of HT_.out (by kernel_rfl)) (fun _ _ _ h => h) (Or.inl ⟨by rfl, ?_⟩) ?_ ?_
        rotate_left
        ·intro w'
         go_simp
         with_reducible rfl
        rotate_left
        ·simp only [Act.put, List.setIfInBounds_toArray, List.set_cons_zero, List.set_cons_succ, i64_w, i32_w]
         rfl
        refine one_ (i := 29) (N := some 56) #[true, true, true, true, true, true, true, true, true, true, true, true, true, true, true, true, true, true, true, true, true, true, true, true, true, true, true, true, true, true, false, false, false, false, false, false, false, false, false, false, false, false, false] rfl rfl (one_of HT_.out (by kernel_rfl)) (by decide) (fun K hK => ?_)
        refine goes_ Try.func13 (by kernel_rfl) rfl #[.int .i64 t557] (by rfl) rfl rfl q1_ ?_
        with_reducible refine (skifflaw0_Num.calls t557 t576 _ A15.out).mono ?_
        rintro e w' ⟨rfl, ⟨nd, rfl⟩⟩
        refine ⟨_, rfl, ?_⟩
        refine hK.out _ _ ⟨(blk_cell BK558.out 0).trans rfl, (blk_cell BK558.out 1).trans rfl, (blk_cell BK558.out 2).trans rfl, (blk_cell BK558.out 3).trans rfl⟩ (fun hHeld => ?_)
        clear hK K
        refine norm_ (a' := ?_) ?_ ?_
        rotate_left
        ·show Act.put _ (some 56) _ = _
         simp only [Act.put, List.setIfInBounds_toArray, List.set_cons_zero, List.set_cons_succ, i64_w, i32_w]
         rfl
        refine pure_ (i := 30) (N := some 57) (v := ?_) (a' := ?_) #[true, true, true, true, true, true, true, true, true, true, true, true, true, true, true, true, true, true, true, true, true, true, true, true, true, true, true, true, true, true, true, false, false, false, false, false, false, false, false, false, false, false, false] rfl rfl (any_of HT_.out (by kernel_rfl)) (fun _ _ _ h => h) (Or.inl ⟨by rfl, ?_⟩) ?_ ?_
        rotate_left
        ·intro w'
         go_simp
         with_reducible rfl
        rotate_left
        ·simp only [Act.put, List.setIfInBounds_toArray, List.set_cons_zero, List.set_cons_succ, i64_w, i32_w]
         rfl
        refine pure_ (i := 31) (N := some 58) (v := ?_) (a' := ?_) #[true, true, true, true, true, true, true, true, true, true, true, true, true, true, true, true, true, true, true, true, true, true, true, true, true, true, true, true, true, true, true, true, false, false, false, false, false, false, false, false, false, false, false] rfl rfl (any_of HT_.out (by kernel_rfl)) (fun _ _ _ h => h) (Or.inl ⟨by rfl, ?_⟩) ?_ ?_
        rotate_left
        ·intro w'
         go_simp
         with_reducible rfl
        rotate_left
        ·simp only [Act.put, List.setIfInBounds_toArray, List.set_cons_zero, List.set_cons_succ, i64_w, i32_w]
         rfl
        refine pure_ (i := 32) (N := some 59) (v := ?_) (a' := ?_) #[true, true, true, true, true, true, true, true, true, true, true, true, true, true, true, true, true, true, true, true, true, true, true, true, true, true, true, true, true, true, true, true, true, false, false, false, false, false, false, false, false, false, false] rfl rfl (any_of HT_.out (by kernel_rfl)) (fun _ _ _ h => h) (Or.inl ⟨by rfl, ?_⟩) ?_ ?_
        rotate_left
        ·intro w'
         go_simp
         with_reducible rfl
        rotate_left
        ·simp only [Act.put, List.setIfInBounds_toArray, List.set_cons_zero, List.set_cons_succ, i64_w, i32_w]
         rfl
        refine pure_ (i := 33) (N := some 60) (v := ?_) (a' := ?_) #[true, true, true, true, true, true, true, true, true, true, true, true, true, true, true, true, true, true, true, true, true, true, true, true, true, true, true, true, true, true, true, true, true, true, false, false, false, false, false, false, false, false, false] rfl rfl (any_of HT_.out (by kernel_rfl)) (fun _ _ _ h => h) (Or.inl ⟨by rfl, ?_⟩) ?_ ?_
        rotate_left
        ·intro w'
         go_simp
         with_reducible rfl
        rotate_left
        ·simp only [Act.put, List.setIfInBounds_toArray, List.set_cons_zero, List.set_cons_succ, i64_w, i32_w]
         rfl
        refine one_ (i := 34) (N := some 61) #[true, true, true, true, true, true, true, true, true, true, true, true, true, true, true, true, true, true, true, true, true, true, true, true, true, true, true, true, true, true, true, true, true, true, true, false, false, false, false, false, false, false, false] rfl rfl (one_of HT_.out (by kernel_rfl)) (by decide) (fun K hK => ?_)
        refine goes_ Try.func13 (by kernel_rfl) rfl #[.int .i64 t560] (by rfl) rfl rfl q1_ ?_
        with_reducible refine (skifflaw0_Num.calls t560 t577 _ A17.out).mono ?_
        rintro e w' ⟨rfl, ⟨nd, rfl⟩⟩
        refine ⟨_, rfl, ?_⟩
        refine hK.out _ _ ⟨(blk_cell BK558.out 0).trans rfl, (blk_cell BK558.out 1).trans rfl, (blk_cell BK558.out 2).trans rfl, (blk_cell BK558.out 3).trans rfl⟩ (fun hHeld => ?_)
        clear hK K
        refine norm_ (a' := ?_) ?_ ?_
        rotate_left
        ·show Act.put _ (some 61) _ = _
         simp only [Act.put, List.setIfInBounds_toArray, List.set_cons_zero, List.set_cons_succ, i64_w, i32_w]
         rfl
        refine pure_ (i := 35) (N := some 62) (v := ?_) (a' := ?_) #[true, true, true, true, true, true, true, true, true, true, true, true, true, true, true, true, true, true, true, true, true, true, true, true, true, true, true, true, true, true, true, true, true, true, true, true, false, false, false, false, false, false, false] rfl rfl (any_of HT_.out (by kernel_rfl)) (fun _ _ _ h => h) (Or.inl ⟨by rfl, ?_⟩) ?_ ?_
        rotate_left
        ·intro w'
         go_simp
         with_reducible rfl
        rotate_left
        ·simp only [Act.put, List.setIfInBounds_toArray, List.set_cons_zero, List.set_cons_succ, i64_w, i32_w]
         rfl
        refine pure_ (i := 36) (N := some 63) (v := ?_) (a' := ?_) #[true, true, true, true, true, true, true, true, true, true, true, true, true, true, true, true, true, true, true, true, true, true, true, true, true, true, true, true, true, true, true, true, true, true, true, true, true, false, false, false, false, false, false] rfl rfl (any_of HT_.out (by kernel_rfl)) (fun _ _ _ h => h) (Or.inl ⟨by rfl, ?_⟩) ?_ ?_
        rotate_left
        ·intro w'
         go_simp
         with_reducible rfl
        rotate_left
        ·simp only [Act.put, List.setIfInBounds_toArray, List.set_cons_zero, List.set_cons_succ, i64_w, i32_w]
         rfl
        refine pure_ (i := 37) (N := some 64) (v := ?_) (a' := ?_) #[true, true, true, true, true, true, true, true, true, true, true, true, true, true, true, true, true, true, true, true, true, true, true, true, true, true, true, true, true, true, true, true, true, true, true, true, true, true, false, false, false, false, false] rfl rfl (any_of HT_.out (by kernel_rfl)) (fun _ _ _ h => h) (Or.inl ⟨by rfl, ?_⟩) ?_ ?_
        rotate_left
        ·intro w'
         go_simp
         with_reducible rfl
        rotate_left
        ·simp only [Act.put, List.setIfInBounds_toArray, List.set_cons_zero, List.set_cons_succ, i64_w, i32_w]
         rfl
        refine pure_ (i := 38) (N := some 65) (v := ?_) (a' := ?_) #[true, true, true, true, true, true, true, true, true, true, true, true, true, true, true, true, true, true, true, true, true, true, true, true, true, true, true, true, true, true, true, true, true, true, true, true, true, true, true, false, false, false, false] rfl rfl (any_of HT_.out (by kernel_rfl)) (fun _ _ _ h => h) (Or.inl ⟨by rfl, ?_⟩) ?_ ?_
        rotate_left
        ·intro w'
         go_simp
         with_reducible rfl
        rotate_left
        ·simp only [Act.put, List.setIfInBounds_toArray, List.set_cons_zero, List.set_cons_succ, i64_w, i32_w]
         rfl
        refine one_ (i := 39) (N := some 66) #[true, true, true, true, true, true, true, true, true, true, true, true, true, true, true, true, true, true, true, true, true, true, true, true, true, true, true, true, true, true, true, true, true, true, true, true, true, true, true, true, false, false, false] rfl rfl (one_of HT_.out (by kernel_rfl)) (by decide) (fun K hK => ?_)
        refine goes_ Try.func13 (by kernel_rfl) rfl #[.int .i64 t568] (by rfl) rfl rfl q1_ ?_
        with_reducible refine (skifflaw0_Num.calls t568 t578 _ A19.out).mono ?_
        rintro e w' ⟨rfl, ⟨nd, rfl⟩⟩
        refine ⟨_, rfl, ?_⟩
        refine hK.out _ _ ⟨(blk_cell BK558.out 0).trans rfl, (blk_cell BK558.out 1).trans rfl, (blk_cell BK558.out 2).trans rfl, (blk_cell BK558.out 3).trans rfl⟩ (fun hHeld => ?_)
        clear hK K
        refine norm_ (a' := ?_) ?_ ?_
        rotate_left
        ·show Act.put _ (some 66) _ = _
         simp only [Act.put, List.setIfInBounds_toArray, List.set_cons_zero, List.set_cons_succ, i64_w, i32_w]
         rfl
        refine pure_ (i := 40) (N := some 67) (v := ?_) (a' := ?_) #[true, true, true, true, true, true, true, true, true, true, true, true, true, true, true, true, true, true, true, true, true, true, true, true, true, true, true, true, true, true, true, true, true, true, true, true, true, true, true, true, true, false, false] rfl rfl (any_of HT_.out (by kernel_rfl)) (fun _ _ _ h => h) (Or.inl ⟨by rfl, ?_⟩) ?_ ?_
        rotate_left
        ·intro w'
         go_simp
         with_reducible rfl
        rotate_left
        ·simp only [Act.put, List.setIfInBounds_toArray, List.set_cons_zero, List.set_cons_succ, i64_w, i32_w]
         rfl
        refine pure_ (i := 41) (N := some 68) (v := ?_) (a' := ?_) #[true, true, true, true, true, true, true, true, true, true, true, true, true, true, true, true, true, true, true, true, true, true, true, true, true, true, true, true, true, true, true, true, true, true, true, true, true, true, true, true, true, true, false] rfl rfl (any_of HT_.out (by kernel_rfl)) (fun _ _ _ h => h) (Or.inl ⟨by rfl, ?_⟩) ?_ ?_
        rotate_left
        ·intro w'
         go_simp
         with_reducible rfl
        rotate_left
        ·simp only [Act.put, List.setIfInBounds_toArray, List.set_cons_zero, List.set_cons_succ, i64_w, i32_w]
         rfl
        refine pure_ (i := 42) (N := some 0) (v := ?_) (a' := ?_) #[true, true, true, true, true, true, true, true, true, true, true, true, true, true, true, true, true, true, true, true, true, true, true, true, true, true, true, true, true, true, true, true, true, true, true, true, true, true, true, true, true, true, true] rfl rfl (any_of HT_.out (by kernel_rfl)) (fun _ _ _ h => h) (Or.inl ⟨by rfl, ?_⟩) ?_ ?_
        rotate_left
        ·intro w'
         go_simp
         with_reducible rfl
        rotate_left
        ·simp only [Act.put, List.setIfInBounds_toArray, List.set_cons_zero, List.set_cons_succ, i64_w, i32_w]
         rfl
        refine done_ (done_of HT_.out (by kernel_rfl)) ?_
        try go_wp2
        go_ret
        exact ⟨by first | rfl | (simp [errW_none, errW_some] <;> rfl) | (simp [*, errW_none, errW_some] <;> rfl), by repeat (first | (with_reducible first | exact HB.out | apply below_alloc | apply pw_below_drewN | apply below_drew1 | refine below_set ?_ GE558.out | refine below_set ?_ GE569.out) | exact HB.out)⟩
       ·rw [if_neg c18] at H
        have c18b0 : (t577 == 900) = false := beq_eq_false_iff_ne.mpr c18
        have c18b1 : (t577 != 900) = true := bne_iff_ne.mpr c18
        exact absurd H (by simp)
      ·rw [if_neg c16] at H
       have c16b0 : (t576 == 0) = false := beq_eq_false_iff_ne.mpr c16
       have c16b1 : (t576 != 0) = true := bne_iff_ne.mpr c16
       exact absurd H (by simp)
     ·rw [if_neg c14] at H
      have c14b0 : (t556 == t575) = false := beq_eq_false_iff_ne.mpr c14
      have c14b1 : (t556 != t575) = true := bne_iff_ne.mpr c14
      exact absurd H (by simp)
    ·rw [if_neg c12] at H
     have c12b0 : (t555 == 12) = false := beq_eq_false_iff_ne.mpr c12
     have c12b1 : (t555 != 12) = true := bne_iff_ne.mpr c12
     exact absurd H (by simp)
   ·rw [if_neg c11] at H
    have c11b0 : (t553 == 2) = false := beq_eq_false_iff_ne.mpr c11
    have c11b1 : (t553 != 2) = true := bne_iff_ne.mpr c11
    exact absurd H (by simp)
  ·rw [if_neg c10] at H
   have c10b0 : (t574 == 0) = false := beq_eq_false_iff_ne.mpr c10
   have c10b1 : (t574 != 0) = true := bne_iff_ne.mpr c10
   exact absurd H (by simp)
 ·replace c8 := Bool.eq_false_iff.mpr c8
  subst c8
  have H1 : (none) = some r := by rw [if_neg (show ¬ (false = true) by decide)] at H; exact H
  clear H
  have H := H1
  clear H1
  exact absurd H (by simp)
-- NOT PRINTED: function 3 (skifflaw9_StageBytes)
end Go.Proofs.Ytjihlabmddfjhaa.PAll

/- Plain facts: the next record, of what stands in a slot; what every program answers that is one, of package stage; no memory in sight. -/
set_option linter.unnecessarySimpa false
set_option linter.unusedSimpArgs false
set_option linter.unusedVariables false
namespace Go.Proofs.Ytjihlabmddfjhaa.M
open Go.RowKit Go.Proofs.YtjihlabmddfjhaaW.PrintWords Go.Proofs.YtjihlabmddfjhaaW.PrintLast Go.Proofs.YtjihlabmddfjhaaW.PrintMore Go.Proofs.Ytjihlabmddfjhaa.Hand Go.Proofs.Ytjihlabmddfjhaa.PAll
theorem Num_eq (x : Int) : skifflaw0_Num.f x = some x := rfl
def imgF (f : ByteArray) (sl sz : Int) : ByteArray := f.extract (192 + 288 * sl).toNat (192 + 288 * sl + sz).toNat
theorem imgF_size (f : ByteArray) (sl sz : Int) : (imgF f sl sz).size ≤ f.size := by unfold imgF; rw [ByteArray.size_extract]; omega
theorem base_eq {sl : Int} (h0 : 0 ≤ sl) (h1 : sl ≤ 1) : wrap64 ((wrap64 (2 + (wrap64 (3 * sl)))) * 96) = 192 + 288 * sl := by
 rw [wrap_id (x := 3 * sl) (by omega), wrap_id (x := 2 + 3 * sl) (by omega), wrap_id (by omega)]; omega
theorem mem_told {j : Nat} {g : Int × Int × Int × Int × Int} {x : S59} : x ∈ told j g ↔ g.2.2.2.2 = 0 ∧ x = ⟨24 * (j : Int), ⟨g.1, g.2.1, g.2.2.1, g.2.2.2.1⟩⟩ := by
 unfold told
 by_cases h : g.2.2.2.2 = 0
 ·rw [if_pos h]; simp [h]
 ·rw [if_neg h]; simp [h]
theorem getV_may {s : ByteArray} (h : (getV s).2.2.2.2 = 0) : recMay (getV s).1 (getV s).2.1 (getV s).2.2.1 (getV s).2.2.2.1 = true := by
 unfold getV at h ⊢
 by_cases c : getOk s
 ·rw [if_pos c]; exact c.2.2
 ·rw [if_neg c] at h; exact absurd h (by decide)
theorem scanL_seq {f : ByteArray} {n : Nat} {x : S59} (h : x ∈ scanL f n) : 1 ≤ x.f1.f0 ∧ x.f1.f0 ≤ 1048576 := by
 induction n with
 | zero => simp [scanL] at h
 | succ n ih =>
  rw [scanL, List.mem_append] at h
  rcases h with h | h
  ·exact ih h
  ·obtain ⟨h0, rfl⟩ := mem_told.1 h
   have := of_decide_eq_true (getV_may h0)
   exact ⟨this.1, this.2.1⟩
def mxL (l : List S59) (m : Int) : Int := l.foldl (fun m x => mx m x.f1.f0) m
theorem mx_eq (a b : Int) : mx a b = max a b := by unfold mx; omega
theorem mxL_range (l : List S59) (h : ∀ x, x ∈ l → 1 ≤ x.f1.f0 ∧ x.f1.f0 ≤ 1048576) : ∀ m, 0 ≤ m → m ≤ 1048576 → 0 ≤ mxL l m ∧ mxL l m ≤ 1048576 := by
 induction l with
 | nil => intro m h0 h1; exact ⟨h0, h1⟩
 | cons x l ih =>
  intro m h0 h1
  have hx := h x (by simp)
  refine ih (fun y hy => h y (by simp [hy])) (mx m x.f1.f0) ?_ ?_ <;> rw [mx_eq] <;> omega
def nextV (f : ByteArray) : Int × Int := if f.size = 768 then (if mxL (scanL f 8) 0 ≥ 1048576 then (0, 801) else (mxL (scanL f 8) 0 + 1, 0)) else (0, 800)
theorem next_go (l : List S59) (hl : l.length ≤ 1000) (d : Nat) : ∀ (i : Nat) (m : Int), i + d = l.length → 0 ≤ mxL (l.drop i) m → mxL (l.drop i) m ≤ 1048576 → Ev (fun k => place_Next.l0 k m l (l.length : Int) (i : Int)) (if mxL (l.drop i) m ≥ 1048576 then (0, 801) else (mxL (l.drop i) m + 1, 0)) := by
 induction d with
 | zero =>
  intro i m hi h0 h1
  obtain rfl : i = l.length := by omega
  rw [List.drop_length] at h0 h1 ⊢
  have h0' : 0 ≤ m := h0
  have h1' : m ≤ 1048576 := h1
  exact Ev.one fun k => by
   rw [place_Next.l0, if_neg (by omega)]
   show (if m ≥ 1048576 then _ else _) = some (if m ≥ 1048576 then _ else _)
   by_cases c : m ≥ 1048576
   ·rw [if_pos c, if_pos c]
   ·rw [if_neg c, if_neg c, wrap_id (by omega)]; rfl
 | succ d ih =>
  intro i m hi h0 h1
  have hil : i < l.length := by omega
  have w : wrap64 ((i : Int) + 1) = ((i + 1 : Nat) : Int) := by rw [wrap_id (by omega)]; omega
  have e : rd_T59 l (i : Int) = l[i] := by simp [rd_T59, List.getD_eq_getElem?_getD, List.getElem?_eq_getElem hil]
  have e2 : mxL (l.drop i) m = mxL (l.drop (i + 1)) (mx m (rd_T59 l (i : Int)).f1.f0) := by rw [List.drop_eq_getElem_cons hil, e]; rfl
  rw [e2] at h0 h1 ⊢
  exact Ev.step (fun k => by rw [place_Next.l0, if_pos (by omega), if_pos (by omega), if_pos (by omega), w]) (ih (i + 1) _ (by omega) h0 h1)
theorem Next_ev (f : ByteArray) : Ev (fun k => place_Next.f k f) (nextV f) := by
 unfold place_Next.f
 refine Ev.bind (Scan_ev f) ?_
 unfold scanV nextV
 by_cases h : f.size = 768
 ·have hl := scanL_length f 8
  have hr := mxL_range (scanL f 8) (fun x hx => scanL_seq hx)
  have h00 := hr 0 (by omega) (by omega)
  simp only [if_pos h, if_true]
  have := next_go (scanL f 8) (by omega) (scanL f 8).length 0 0 (by omega) (by rw [List.drop_zero]; exact h00.1) (by rw [List.drop_zero]; exact h00.2)
  rw [List.drop_zero] at this
  exact this
 ·simp only [if_neg h, show ¬ ((500 : Int) = 0) by decide, if_false]
  exact Ev.now _
def recOk (f : ByteArray) (K M : Int) : Prop := f.size = 768 ∧ 0 ≤ K ∧ K ≤ 1 ∧ 1 ≤ M ∧ M ≤ 288
instance (f : ByteArray) (K M : Int) : Decidable (recOk f K M) := by unfold recOk; exact inferInstance
/-- The next record. -/
def recV (f : ByteArray) (K M : Int) : Int × Int × Int × Int × Int := if recOk f K M then (if (nextV f).2 = 0 then ((nextV f).1, K, M, crcV (imgF f K M), 0) else (0, 0, 0, 0, (nextV f).2)) else (0, 0, 0, 0, 900)
theorem Record_ev (f : ByteArray) (K M : Int) : Ev (fun k => stage_Record.f k f K M) (recV f K M) := by
 have no : Ev (fun k => stage_Record.j0 k f K M true) (0, 0, 0, 0, 900) := Ev.one fun k => by rw [stage_Record.j0, if_pos rfl]
 unfold stage_Record.f nor_May.f entry_Slot.f entry_Size.f recV
 simp only [in_eq, Option.bind_some]
 by_cases h : f.size = 768
 ·have e : ((f.size : Int) == 768) = true := by simp; omega
  simp only [e, if_true]
  by_cases h1 : 0 ≤ K ∧ K ≤ 1
  ·simp only [decide_eq_true h1, if_true]
   by_cases h2 : 1 ≤ M ∧ M ≤ 288
   ·rw [decide_eq_true h2, if_pos ⟨h, h1.1, h1.2, h2.1, h2.2⟩]
    refine Ev.step (fun k => by rw [stage_Record.j0, if_neg (by decide)]) ?_
    refine Ev.bind (Next_ev f) ?_
    by_cases h3 : (nextV f).2 = 0
    ·have hb : image_Base.f K = some (192 + 288 * K, 0) := by
      unfold image_Base.f entry_Slot.f image_Sector.f journal_Begin.f
      simp only [in_eq, Option.bind_some]
      rw [if_pos (decide_eq_true h1), base_eq h1.1 h1.2]
     have hs := imgF_size f K M
     simp only [if_pos h3, hb, Option.bind_some, wrap_id (x := 192 + 288 * K + M) (by omega)]
     rw [if_pos (by omega), if_pos (by omega), if_pos (by omega)]
     refine Ev.always fun k => ?_
     have := crc_Sum_eq (imgF f K M) (by omega)
     unfold imgF at this
     rw [this]; rfl
    ·simp only [if_neg h3]
     exact Ev.now _
   ·rw [decide_eq_false h2, if_neg (fun x => h2 ⟨x.2.2.2.1, x.2.2.2.2⟩)]; exact no
  ·rw [if_neg (fun x => h1 ⟨x.2.1, x.2.2.1⟩)]
   simp only [decide_eq_false h1, Bool.false_eq_true, if_false]; exact no
 ·have e : ((f.size : Int) == 768) = false := by simp; omega
  rw [if_neg (fun x => h x.1)]
  simp only [e, Bool.false_eq_true, if_false]
  exact no
theorem held9_l1 (l : List S35) (hl : l.length ≤ 1000) (d : Nat) : ∀ (i : Nat) (F : ByteArray), i + d = l.length → Ev (fun k => skifflaw9_held.l1 k F l (i : Int)) (doL F (l.drop i)) := by
 induction d with
 | zero =>
  intro i F hi
  obtain rfl : i = l.length := by omega
  rw [doL_end]
  exact Ev.one fun k => by rw [skifflaw9_held.l1, if_neg (by omega)]
 | succ d ih =>
  intro i F hi
  rw [doL_at F l i (by omega)]
  have w : wrap64 ((i : Int) + 1) = ((i + 1 : Nat) : Int) := by rw [wrap_id (by omega)]; omega
  refine Ev.step (fun k => by rw [skifflaw9_held.l1, if_pos (by omega), if_pos (by omega), w]) ?_
  refine Ev.bind (ref_Do_ev F _ _ _) ?_
  exact ih (i + 1) _ (by omega)
theorem held9_l0 (l : List S35) (hl : l.length ≤ 1000) (r : ByteArray) (hr : Ev (fun k => skifflaw9_held.l0 k (doL (ff 768) l) l (l.length : Int)) r) (d : Nat) : ∀ (i : Nat) (F : ByteArray), i + d = l.length → doL F (l.drop i) = doL (ff 768) l → Ev (fun k => skifflaw9_held.l0 k F l (i : Int)) r := by
 induction d with
 | zero =>
  intro i F hi he
  obtain rfl : i = l.length := by omega
  rw [doL_end] at he
  rw [he]; exact hr
 | succ d ih =>
  intro i F hi he
  rw [doL_at F l i (by omega)] at he
  have w : wrap64 ((i : Int) + 1) = ((i + 1 : Nat) : Int) := by rw [wrap_id (by omega)]; omega
  refine Ev.step (fun k => by rw [skifflaw9_held.l0, if_pos (by omega), if_pos (by omega), w]) ?_
  refine Ev.bind (ref_Do_ev F _ _ _) ?_
  exact ih (i + 1) _ (by omega) he
theorem held9 : Ev (fun k => skifflaw9_held.f k) heldF := by
 have hw := ref_Words_ev 192 ab (by omega) (by rw [ab_size]; omega)
 rw [wordsV_ab] at hw
 unfold skifflaw9_held.f
 refine Ev.bind Blank_ev ?_
 refine Ev.bind hw ?_
 have hl : (wl (192 : Nat) ab (many ab)).length ≤ 1000 := by rw [wl_length, ab_many]; omega
 refine held9_l0 _ hl heldF ?_ (wl (192 : Nat) ab (many ab)).length 0 (ff 768) (by omega) rfl
 refine Ev.step (fun k => by rw [skifflaw9_held.l0, if_neg (by omega)]) ?_
 refine Ev.bind RecordOf_held1 ?_
 refine Ev.bind Append_held1 ?_
 have hl2 : (wl (0 : Nat) rec1 (many rec1)).length ≤ 1000 := by rw [wl_length, rec1_many]; omega
 exact held9_l1 _ hl2 (wl (0 : Nat) rec1 (many rec1)).length 0 held1 (by omega)
theorem Ev.same {α : Type} {g : Nat → Option α} {r s : α} (h1 : Ev g r) (h2 : Ev g s) : r = s := by
 obtain ⟨a, ha⟩ := h1; obtain ⟨b, hb⟩ := h2
 have e1 := ha (max a b) (Nat.le_max_left _ _)
 have e2 := hb (max a b) (Nat.le_max_right _ _)
 rw [e1] at e2; exact Option.some.inj e2
theorem crcV_ab : crcV ab = abSum := Ev.same (Crc_ev ab (by rw [ab_size]; omega)) ab_crc
theorem imgF_at (f : ByteArray) (sz : Int) (n : Nat) (h : sz = (n : Int)) : imgF f 0 sz = f.extract 192 (192 + n) := by
 subst h; unfold imgF; congr 1
theorem heldF_ab : imgF heldF 0 12 = ab := by
 rw [imgF_at heldF 12 12 rfl]
 apply bt_ext
 ·rw [ByteArray.size_extract, heldF_size, ab_size]; omega
 ·intro i hi
  rw [ByteArray.size_extract, heldF_size] at hi
  rw [bt_extract _ _ _ _ (by rw [heldF_size]; omega), heldF_bt _ (by omega), if_neg (by omega), if_pos (by omega), show 192 + i - 192 = i by omega]
theorem nextV_held : nextV heldF = (2, 0) := by
 unfold nextV
 rw [if_pos heldF_size, scanL_heldF 8 (by omega) (by omega)]; rfl
theorem recV_of (f : ByteArray) (K M q : Int) (h : recOk f K M) (hn : nextV f = (q, 0)) : recV f K M = (q, K, M, crcV (imgF f K M), 0) := by
 unfold recV; rw [if_pos h, hn, if_pos rfl]
theorem recV_held : recV heldF 0 12 = (2, 0, 12, abSum, 0) := by
 rw [recV_of heldF 0 12 2 ⟨heldF_size, by omega, by omega, by omega, by omega⟩ nextV_held, heldF_ab, crcV_ab]
theorem recV_no (f : ByteArray) (K : Int) : recV f K 0 = (0, 0, 0, 0, 900) := by unfold recV; rw [if_neg (fun x => by have := x.2.2.2.1; omega)]
def er1 : List S35 := [⟨true, 480, ⟨#[]⟩⟩, ⟨true, 576, ⟨#[]⟩⟩, ⟨true, 672, ⟨#[]⟩⟩]
theorem Erases1 : Ev (fun k => stage_Erases.f k 1) (er1, 0) := Ev.of (fun k => stage_Erases.mono 1 k) (k := 5) (by kernel_rfl)
theorem Erases2 : Ev (fun k => stage_Erases.f k 2) ([], 900) := Ev.of (fun k => stage_Erases.mono 2 k) (k := 5) (by kernel_rfl)
theorem same_er1 : Ev (fun k => skifflaw0_SameOps.f k er1 er1) true := Ev.of (fun k => skifflaw0_SameOps.mono er1 er1 k) (k := 5) (by kernel_rfl)
theorem awake9 : Ev (fun k => skifflaw9_awake.f k) true := by
 have h1 := Record_ev heldF 0 12
 rw [recV_held] at h1
 have h2 := Record_ev heldF 0 0
 rw [recV_no] at h2
 unfold skifflaw9_awake.f
 refine Ev.bind Erases1 (Ev.bind held9 (Ev.bind h1 (Ev.bind Erases2 (Ev.bind held9 (Ev.bind h2 (Ev.bind same_er1 ?_))))))
 simp only [if_true, Num_eq, Option.bind_some]
 refine Ev.bind ab_crc ?_
 simp only [if_true]
 exact Ev.always fun k => rfl
end Go.Proofs.Ytjihlabmddfjhaa.M

/- Plain facts: a byte of a slot turned: the next record's sum is another one just if the byte is the image's; no memory in sight. -/
set_option linter.unnecessarySimpa false
set_option linter.unusedSimpArgs false
set_option linter.unusedVariables false
namespace Go.Proofs.Ytjihlabmddfjhaa.M
open Go.RowKit Go.Proofs.YtjihlabmddfjhaaW.PrintWords Go.Proofs.YtjihlabmddfjhaaW.PrintLast Go.Proofs.YtjihlabmddfjhaaW.PrintMore Go.Proofs.Ytjihlabmddfjhaa.Hand Go.Proofs.Ytjihlabmddfjhaa.PAll
theorem xor_turns {b y : Int} (h0 : 0 ≤ b) (h1 : b < 256) (y0 : 1 ≤ y) (y1 : y ≤ 128) : Go.bits .xor .u8 b y ≠ b ∧ 0 ≤ Go.bits .xor .u8 b y ∧ Go.bits .xor .u8 b y < 256 := by
 rw [bits_xor_u8]
 have hlt := (B b ^^^ B y).isLt
 refine ⟨fun h => ?_, by omega, by omega⟩
 have e1 : ((B b ^^^ B y).toNat : Int) = ((B b).toNat : Int) := by rw [h, toNat_B b h0 h1]
 have e2 : B b ^^^ B y = B b := BitVec.eq_of_toNat_eq (by exact_mod_cast e1)
 have e3 : B y = 0#8 := by
  have := congrArg (B b ^^^ ·) e2
  simpa [← BitVec.xor_assoc] using this
 have e4 := toNat_B y (by omega) (by omega)
 rw [e3] at e4
 have : ((0#8).toNat : Int) = 0 := rfl
 omega
/-- A flash, one byte of it another. -/
def turnF (f : ByteArray) (i : Nat) (v : Int) : ByteArray := strOfNums ((bytesOf f).set i v)
theorem turnF_size (f : ByteArray) (i : Nat) (v : Int) : (turnF f i v).size = f.size := by unfold turnF; rw [strOfNums_size', List.length_set, bytesOf_length]
theorem turnF_bt (f : ByteArray) (i : Nat) (v : Int) (hi : i < f.size) (h0 : 0 ≤ v) (h1 : v < 256) (j : Nat) (hj : j < f.size) : bt (turnF f i v) (j : Int) = if j = i then v else bt f (j : Int) := by
 have hl : (bytesOf f).length = f.size := bytesOf_length f
 have e : ((bytesOf f).set i v).getD j 0 = if j = i then v else bt f (j : Int) := by
  rw [List.getD_eq_getElem?_getD, List.getElem?_set]
  by_cases c : j = i
  ·subst c; rw [if_pos rfl, if_pos (by omega), if_pos rfl]; rfl
  ·rw [if_neg (fun x => c x.symm), if_neg c, ← List.getD_eq_getElem?_getD, bytesOf_getD f j hj]
 have b := bt_u8 f (j : Int)
 unfold turnF
 rw [bt_strOfNums _ _ (by rw [List.length_set]; omega) (by rw [e]; split <;> omega) (by rw [e]; split <;> omega), e]
theorem pl_same {f f' : ByteArray} (h1 : f.size = 768) (h2 : f'.size = 768) (h : ∀ i : Nat, i < 192 → bt f' (i : Int) = bt f (i : Int)) (j : Nat) (hj : j < 8) : pl f' j = pl f j := by
 apply bt_ext
 ·rw [pl_size _ _ h2 hj, pl_size _ _ h1 hj]
 ·intro i hi
  rw [pl_size _ _ h2 hj] at hi
  rw [pl_bt _ _ h2 hj i hi, pl_bt _ _ h1 hj i hi]
  exact h _ (by omega)
theorem scanL_same {f f' : ByteArray} (h1 : f.size = 768) (h2 : f'.size = 768) (h : ∀ i : Nat, i < 192 → bt f' (i : Int) = bt f (i : Int)) (n : Nat) (hn : n ≤ 8) : scanL f' n = scanL f n := by
 induction n with
 | zero => rfl
 | succ n ih => rw [scanL, scanL, ih (by omega), pl_same h1 h2 h n (by omega)]
theorem imgF_btF (f : ByteArray) (K M : Int) (hf : f.size = 768) (k0 : 0 ≤ K) (k1 : K ≤ 1) (m0 : 1 ≤ M) (m1 : M ≤ 288) : (imgF f K M).size = M.toNat ∧ ∀ j : Nat, j < M.toNat → bt (imgF f K M) (j : Int) = bt f (((192 + 288 * K).toNat + j : Nat) : Int) := by
 unfold imgF
 constructor
 ·rw [ByteArray.size_extract]; omega
 ·intro j hj
  rw [bt_extract _ _ _ _ (by omega)]
/-- The byte stands outside the image: the sum stays; inside: it is another one. -/
theorem turn_sum (f : ByteArray) (K M : Int) (i : Nat) (v : Int) (hf : f.size = 768) (k0 : 0 ≤ K) (k1 : K ≤ 1) (m0 : 1 ≤ M) (m1 : M ≤ 288) (i0 : 192 ≤ i) (i1 : i < 768) (h0 : 0 ≤ v) (h1 : v < 256) (hv : v ≠ bt f (i : Int)) :
  (crcV (imgF (turnF f i v) K M) == crcV (imgF f K M)) = (decide ((i : Int) < 192 + 288 * K) || decide (192 + 288 * K + M ≤ (i : Int))) := by
 have hs := turnF_size f i v
 obtain ⟨z1, b1⟩ := imgF_btF f K M hf k0 k1 m0 m1
 obtain ⟨z2, b2⟩ := imgF_btF (turnF f i v) K M (by omega) k0 k1 m0 m1
 have tb := fun j hj => turnF_bt f i v (by omega) h0 h1 j hj
 by_cases c : (i : Int) < 192 + 288 * K ∨ 192 + 288 * K + M ≤ (i : Int)
 ·have e : imgF (turnF f i v) K M = imgF f K M := by
   apply bt_ext
   ·rw [z1, z2]
   ·intro j hj
    rw [z2] at hj
    rw [b1 j hj, b2 j hj, tb _ (by omega), if_neg (by omega)]
  rw [e, beq_self_eq_true]
  symm
  rw [Bool.or_eq_true, decide_eq_true_eq, decide_eq_true_eq]; exact c
 ·have ne : crcV (imgF (turnF f i v) K M) ≠ crcV (imgF f K M) := by
   refine crc_diff (by rw [z1, z2]) (i - (192 + 288 * K).toNat) (by omega) ?_ (fun j hj hne => ?_) (fun j => bt_u8 _ _) (fun j => bt_u8 _ _)
   ·rw [b1 _ (by omega), b2 _ (by omega), tb _ (by omega), if_pos (by omega)]
    rw [show (192 + 288 * K).toNat + (i - (192 + 288 * K).toNat) = i by omega]; exact hv
   ·rw [z2] at hj
    rw [b1 j hj, b2 j hj, tb _ (by omega), if_neg (by omega)]
  rw [beq_eq_false_iff_ne.2 ne]
  symm
  rw [Bool.or_eq_false_iff, decide_eq_false_iff_not, decide_eq_false_iff_not]; omega
theorem nextV_turn (f : ByteArray) (i : Nat) (v : Int) (hf : f.size = 768) (i0 : 192 ≤ i) (i1 : i < 768) (h0 : 0 ≤ v) (h1 : v < 256) : nextV (turnF f i v) = nextV f := by
 have hs : (turnF f i v).size = 768 := by rw [turnF_size]; exact hf
 unfold nextV
 rw [if_pos hs, if_pos hf, scanL_same hf hs (fun j hj => by rw [turnF_bt f i v (by omega) h0 h1 j (by omega), if_neg (by omega)]) 8 (by omega)]
theorem recV_ok {f : ByteArray} {K M : Int} (h : (recV f K M).2.2.2.2 = 0) : recOk f K M ∧ (nextV f).2 = 0 := by
 unfold recV at h
 by_cases c : recOk f K M
 ·rw [if_pos c] at h
  by_cases d : (nextV f).2 = 0
  ·exact ⟨c, d⟩
  ·rw [if_neg d] at h; exact absurd h d
 ·rw [if_neg c] at h; exact absurd h (by decide)
end Go.Proofs.Ytjihlabmddfjhaa.M

/- StageBytes: the walk of the law itself, where the two records are told. -/
set_option linter.unnecessarySimpa false
set_option linter.unusedSimpArgs false
set_option linter.unusedVariables false
namespace Go.Proofs.Ytjihlabmddfjhaa.Hand
open Go.RowKit Go.Proofs.YtjihlabmddfjhaaW.PrintWords Go.Proofs.YtjihlabmddfjhaaW.PrintLast Go.Proofs.YtjihlabmddfjhaaW.PrintMore Go.Proofs.Ytjihlabmddfjhaa.HWords Go.Proofs.Ytjihlabmddfjhaa.PAll
def stageReg.T : Bool × List (List Nat × List Nat) := (true, [([], []), ([0], [0]), ([1], [1]), ([2, 1], [2]), ([3], [3]), ([4, 3], [3, 4]), ([3], [3]), ([6, 3], [3, 6]), ([5, 7, 3], [3, 5, 7]), ([3, 8], [3, 8]), ([9, 3], [9]), ([10], [10]), ([11, 10], [10, 11]), ([10], [10]), ([13, 10], [10, 13]), ([12, 14, 10], [10, 12, 14]), ([10], [10]), ([10], [10]), ([16, 17, 10], [10, 16, 17]), ([18, 10, 10], [10, 18]), ([19], [19]), ([19], [19]), ([19], [19]), ([21, 22, 19], [19, 21, 22]), ([20, 23, 19], [19, 20, 23]), ([19, 24, 10], [10, 19, 24]), ([15, 25, 10], [10, 15, 25]), ([10, 26], [10, 26]), ([27, 19], [27]), ([28], [28]), ([29, 28], [28, 29]), ([28], [28]), ([28], [28]), ([28], [28]), ([28], [28]), ([33, 34, 28], [28, 33, 34]), ([31, 32, 35, 28], [28, 31, 32, 35]), ([36, 28, 28], [28, 36]), ([30, 37, 28], [28, 30, 37]), ([28, 38], [28, 38]), ([39, 37], [39]), ([40, 40], [40]), ([41, 40], [40, 41]), ([42, 40], [40, 42]), ([40, 43], [40, 43]), ([44, 41, 0, 1, 2, 3, 4, 5, 6, 7, 8, 9, 10, 11, 12, 13, 14, 15, 16, 17, 18, 19, 20, 21, 22, 23, 24, 25, 26, 27, 28, 29, 30, 31, 32, 33, 34, 35, 36, 37, 38, 39, 40, 41, 42, 43, 44], [44])])
def stageReg.B : List Nat := [0, 1, 3, 7, 15, 31, 15, 79, 255, 511, 1023, 2047, 4095, 2047, 10239, 32767, 2047, 2047, 198655, 460799, 985087, 985087, 985087, 7276543, 16713727, 33490943, 67108863, 134217727, 268435455, 536870911, 1073741823, 536870911, 536870911, 536870911, 536870911, 26306674687, 67108863999, 135828340735, 274877906943, 549755813887, 1099511627775, 2199023255551, 4398046511103, 8796093022207, 17592186044415, 35184372088831]
theorem stageReg.tab : rtab .any (opsOf Try.f3 12) = stageReg.T := by kernel_rfl
theorem stageReg.bits : waitsOk stageReg.T.2 stageReg.B = true := by kernel_rfl
set_option maxHeartbeats 4000000 in
set_option maxRecDepth 100000 in
theorem stage_yes (k : Nat) (f : ByteArray) (slot size at_ by_ K m0 y0 q sm sm2 : Int) (n : Nat) (w : World) (hf : f.size = 768)
  (ha : skifflaw9_awake.f k = some true) (eK : Go.bits .and .i64 slot 1 = K) (eS : Int.tmod (IntKind.u64.wrap size) 288 = m0) (s0 : 0 ≤ m0) (s1 : m0 < 288)
  (eA : Int.tmod (IntKind.u64.wrap at_) 576 = (n : Int)) (a1 : n < 576) (eB : Go.bits .and .i64 by_ 127 = y0) (b0 : 0 ≤ y0) (b1 : y0 < 128)
  (k0 : 0 ≤ K) (k1 : K ≤ 1)
  (h1 : stage_Record.f k f K (1 + m0) = some (q, K, 1 + m0, sm, 0))
  (h2 : stage_Record.f k (strOfNums ((bytesOf f).set (192 + n) (Go.bits .xor .u8 ((bytesOf f).getD (192 + n) 0) (1 + y0)))) K (1 + m0) = some (q, K, 1 + m0, sm2, 0))
  (h3 : skiffref1_Crc.f k (f.extract (192 + 288 * K).toNat (192 + 288 * K + (1 + m0)).toNat) = some sm) (F : ByteArray) (h4 : skifflaw9_held.f k = some F) (h5 : F.size = 768)
  (hsum : (sm2 == sm) = (decide ((192 : Int) + (n : Int) < 192 + 288 * K) || decide (192 + 288 * K + (1 + m0) ≤ (192 : Int) + (n : Int)))) :
  Calls Try.prog 3 #[.string f, .int .i64 slot, .int .i64 size, .int .i64 at_, .int .i64 by_] w fun e w' => e = .returned (.bool true) ∧ Below w.heap.size w w' := by
 have HA := Aside0.mk ha
 have H1 := Aside0.mk h1
 have H2 := Aside0.mk h2
 have HC := Aside0.mk h3
 have HH := Aside0.mk h4
 have HFS := Aside0.mk h5
 have HSUM := Aside0.mk hsum
 have HF := Aside0.mk hf
 have HB := Aside0.mk (Below.refl w.heap.size w)
 clear ha h1 h2 h3 h4 h5 hsum hf
 go_enter Try.func3, Try.ntmps3
 go_wp2_with (first | (go_at_call 11; (with_reducible refine (skifflaw9_awake.calls k true _ HA.out).mono ?_); rintro e w1 ⟨rfl, hb1⟩; have HB1 := Aside0.mk (below_step HB.out hb1)) | (go_at_call 12; (with_reducible refine (stage_Record.calls k f K (1 + m0) q K (1 + m0) sm 0 _ H1.out).mono ?_); rintro e w2 ⟨rfl, hb2⟩; have HB2 := Aside0.mk (below_step HB1.out hb2)) | ((with_reducible refine gate_dst (N := 13) rfl ?_); refine box_event ?hg (N := 13) ?hd (cs := #[.int .i64 0, .int .i64 0, .int .i64 0, .int .i64 0]) (t := 25) ?hr ?_; (case hd => rfl); (case hg => rfl); (case hr => first | (go_simp; done) | (go_simp; rfl)); intro g1 hg1 w3 hbox hb3; subst hg1; have z0 : w3.cell? ⟨w2.heap.size, 0, none⟩ = some (.int .i64 0) := (blk_cell hbox 0).trans rfl; have z1 : w3.cell? ⟨w2.heap.size, 1, none⟩ = some (.int .i64 0) := (blk_cell hbox 1).trans rfl; have z2 : w3.cell? ⟨w2.heap.size, 2, none⟩ = some (.int .i64 0) := (blk_cell hbox 2).trans rfl; have z3 : w3.cell? ⟨w2.heap.size, 3, none⟩ = some (.int .i64 0) := (blk_cell hbox 3).trans rfl; have f0 := blk_frozen hbox 0; have f1 := blk_frozen hbox 1; have f2 := blk_frozen hbox 2; have f3 := blk_frozen hbox 3))
 clear hb1 hb2 z0 z1 z2 z3 f0 f1 f2 f3
 have HBK := Aside0.mk (show ((((w3.setCell ⟨w2.heap.size, 0, none⟩ (.int .i64 q)).setCell ⟨w2.heap.size, 1, none⟩ (.int .i64 K)).setCell ⟨w2.heap.size, 2, none⟩ (.int .i64 (1 + m0))).setCell ⟨w2.heap.size, 3, none⟩ (.int .i64 sm)).heap[w2.heap.size]? = some (.cells #[.int .i64 q, .int .i64 K, .int .i64 (1 + m0), .int .i64 sm] 25 (0, 0)) from by
  refine blk_put (cs := #[.int .i64 q, .int .i64 K, .int .i64 (1 + m0), .int .i64 0]) ?_ 3 _ rfl
  refine blk_put (cs := #[.int .i64 q, .int .i64 K, .int .i64 0, .int .i64 0]) ?_ 2 _ rfl
  refine blk_put (cs := #[.int .i64 q, .int .i64 0, .int .i64 0, .int .i64 0]) ?_ 1 _ rfl
  refine blk_put (cs := #[.int .i64 0, .int .i64 0, .int .i64 0, .int .i64 0]) ?_ 0 _ rfl
  exact hbox)
 have HB3 := Aside0.mk (below_set (j := 3) (v := .int .i64 sm) (below_set (j := 2) (v := .int .i64 (1 + m0)) (below_set (j := 1) (v := .int .i64 K) (below_set (j := 0) (v := .int .i64 q) (below_step HB2.out hb3) HB2.out.size) HB2.out.size) HB2.out.size) HB2.out.size)
 have HG1 := Aside0.mk HB2.out.size
 generalize (((w3.setCell ⟨w2.heap.size, 0, none⟩ (.int .i64 q)).setCell ⟨w2.heap.size, 1, none⟩ (.int .i64 K)).setCell ⟨w2.heap.size, 2, none⟩ (.int .i64 (1 + m0))).setCell ⟨w2.heap.size, 3, none⟩ (.int .i64 sm) = w4 at HBK HB3 ⊢
 generalize w2.heap.size = g1 at HBK HG1 ⊢
 clear hb3 hbox HB1 HB2
 have hfs := HF.out
 go_wp2_with (first | (go_at_call 13; go_in) | (go_at_call 12; (with_reducible refine (stage_Record.calls k (strOfNums L) K (1 + m0) q K (1 + m0) sm2 0 _ H3.out).mono ?_); rintro e w7 ⟨rfl, hb7⟩; have HB7 := Aside0.mk (below_step HB6.out hb7); have HBK7 := Aside0.mk (blk_below HBK6.out hb7); clear hb7) | ((with_reducible refine gate_dst (N := 18) rfl ?_); refine box_event ?hg (N := 18) ?hd (cs := #[.int .i64 0, .int .i64 0, .int .i64 0, .int .i64 0]) (t := 25) ?hr ?_; (case hd => rfl); (case hg => rfl); (case hr => first | (go_simp; done) | (go_simp; rfl)); intro g2 hg2 w8 hbox hb8; subst hg2; have HBX := Aside0.mk hbox; have HB8 := Aside0.mk (below_step HB7.out hb8); have HBK8 := Aside0.mk (blk_below HBK7.out hb8); have HG2 := Aside0.mk HB7.out.size; have HN := Aside0.mk (Nat.ne_of_lt (blk_lt HBK7.out)); clear hb8; have z0 : w8.cell? ⟨w7.heap.size, 0, none⟩ = some (.int .i64 0) := (blk_cell hbox 0).trans rfl; have z1 : w8.cell? ⟨w7.heap.size, 1, none⟩ = some (.int .i64 0) := (blk_cell hbox 1).trans rfl; have z2 : w8.cell? ⟨w7.heap.size, 2, none⟩ = some (.int .i64 0) := (blk_cell hbox 2).trans rfl; have z3 : w8.cell? ⟨w7.heap.size, 3, none⟩ = some (.int .i64 0) := (blk_cell hbox 3).trans rfl; have f0 := blk_frozen hbox 0; have f1 := blk_frozen hbox 1; have f2 := blk_frozen hbox 2; have f3 := blk_frozen hbox 3; clear hbox) | (refine conv_event (w0 := w4) rfl 9 30 5 _ rfl Try.underlying9 Try.underlying30 Try.underlying5 f rfl (Below.refl _ _) ?_; intro g c w5 hg hc hm hb5 hgw; have HBK5 := Aside0.mk (blk_below HBK.out hb5); have HB5 := Aside0.mk (below_step HB3.out hb5); have HM := Aside0.mk hm; have HG := Aside0.mk (Nat.le_trans HB3.out.size hg); have HGG := Aside0.mk hg; obtain ⟨hcell, hfro⟩ := hm (192 + n) (by rw [bytesOf_length, hfs]; omega); clear hm hb5 hgw hc hg; obtain ⟨x, hx⟩ : ∃ x, (bytesOf f).getD (192 + n) 0 = x := ⟨_, rfl⟩; rw [hx] at hcell; have hH2 := H2.out; rw [hx] at hH2; clear hx; have hm6 := HM.out.set (192 + n) (Go.bits .xor .u8 x (1 + y0)); have HB6 := Aside0.mk (below_set (g := g) (j := 192 + n) (v := .int .u8 (Go.bits .xor .u8 x (1 + y0))) HB5.out HG.out); have HBK6 := Aside0.mk (blk_far HBK5.out (p := ⟨g, 192 + n, none⟩) (Nat.ne_of_lt (Nat.lt_of_lt_of_le (blk_lt HBK.out) HGG.out)) (.int .u8 (Go.bits .xor .u8 x (1 + y0)))); obtain ⟨L, hL⟩ : ∃ L, (bytesOf f).set (192 + n) (Go.bits .xor .u8 x (1 + y0)) = L := ⟨_, rfl⟩; rw [hL] at hm6 hH2; have H3 := Aside0.mk hH2; clear hH2; have hll : L.length = 768 := (by rw [← hL, List.length_set, bytesOf_length]; exact hfs); have hconv := run_convert_bytes_arg (P := Try.prog) (w5.setCell ⟨g, 192 + n, none⟩ (.int .u8 (Go.bits .xor .u8 x (1 + y0)))) 30 5 Try.underlying30 Try.underlying5 g 0 768 c L hll (fun i hi => by have := (hm6 i (by omega)).1; rw [Nat.zero_add]; exact this) 9 Try.underlying9; have HL := Aside0.mk hL; clear hL hm6 hll))
 clear z0 z1 z2 z3 f0 f1 f2 f3
 have HBX2 := Aside0.mk (show ((((w8.setCell ⟨w7.heap.size, 0, none⟩ (.int .i64 q)).setCell ⟨w7.heap.size, 1, none⟩ (.int .i64 K)).setCell ⟨w7.heap.size, 2, none⟩ (.int .i64 (1 + m0))).setCell ⟨w7.heap.size, 3, none⟩ (.int .i64 sm2)).heap[w7.heap.size]? = some (.cells #[.int .i64 q, .int .i64 K, .int .i64 (1 + m0), .int .i64 sm2] 25 (0, 0)) from by
  refine blk_put (cs := #[.int .i64 q, .int .i64 K, .int .i64 (1 + m0), .int .i64 0]) ?_ 3 _ rfl
  refine blk_put (cs := #[.int .i64 q, .int .i64 K, .int .i64 0, .int .i64 0]) ?_ 2 _ rfl
  refine blk_put (cs := #[.int .i64 q, .int .i64 0, .int .i64 0, .int .i64 0]) ?_ 1 _ rfl
  refine blk_put (cs := #[.int .i64 0, .int .i64 0, .int .i64 0, .int .i64 0]) ?_ 0 _ rfl
  exact HBX.out)
 have HB9 := Aside0.mk (below_set (j := 3) (v := .int .i64 sm2) (below_set (j := 2) (v := .int .i64 (1 + m0)) (below_set (j := 1) (v := .int .i64 K) (below_set (j := 0) (v := .int .i64 q) HB8.out HG2.out) HG2.out) HG2.out) HG2.out)
 have HBK9 := Aside0.mk (blk_far (p := ⟨w7.heap.size, 3, none⟩) (blk_far (p := ⟨w7.heap.size, 2, none⟩) (blk_far (p := ⟨w7.heap.size, 1, none⟩) (blk_far (p := ⟨w7.heap.size, 0, none⟩) HBK8.out HN.out (.int .i64 q)) HN.out (.int .i64 K)) HN.out (.int .i64 (1 + m0))) HN.out (.int .i64 sm2))
 generalize (((w8.setCell ⟨w7.heap.size, 0, none⟩ (.int .i64 q)).setCell ⟨w7.heap.size, 1, none⟩ (.int .i64 K)).setCell ⟨w7.heap.size, 2, none⟩ (.int .i64 (1 + m0))).setCell ⟨w7.heap.size, 3, none⟩ (.int .i64 sm2) = w9 at HBX2 HB9 HBK9 ⊢
 generalize w7.heap.size = g2 at HBX2 HG2 HN ⊢
 clear hconv hcell hfro HBX HB8 HBK8 HB7 HBK7 HBK6 HB6 HBK5 HB5 HM HBK HB3
 have y10 : w9.cell? ⟨g1, 0, none⟩ = some (.int .i64 q) := (blk_cell HBK9.out 0).trans rfl
 have y13 : w9.cell? ⟨g1, 3, none⟩ = some (.int .i64 sm) := (blk_cell HBK9.out 3).trans rfl
 have y20 : w9.cell? ⟨g2, 0, none⟩ = some (.int .i64 q) := (blk_cell HBX2.out 0).trans rfl
 have y23 : w9.cell? ⟨g2, 3, none⟩ = some (.int .i64 sm2) := (blk_cell HBX2.out 3).trans rfl
 have hFS := HFS.out
 have v1 : IntKind.i64.wrap (192 + 288 * K + (1 + m0)) = 192 + 288 * K + (1 + m0) := IntWalk.i64_in _ (by omega)
 have v2 : 0 ≤ 192 + 288 * K := by omega
 have v3 : 192 + 288 * K ≤ 192 + 288 * K + (1 + m0) := by omega
 have v4 : 192 + 288 * K + (1 + m0) ≤ 768 := by omega
 have v5 : (192 + 288 * K + (1 + m0)).toNat ≤ 768 := by omega
 have v6 : (192 + 288 * K).toNat ≤ (192 + 288 * K + (1 + m0)).toNat := by omega
 have v7 : 0 ≤ 192 + 288 * K + (1 + m0) := by omega
 replace y10 : w9.drew.cell? ⟨g1, 0, none⟩ = some (.int .i64 q) := y10
 replace y13 : w9.drew.cell? ⟨g1, 3, none⟩ = some (.int .i64 sm) := y13
 replace y20 : w9.drew.cell? ⟨g2, 0, none⟩ = some (.int .i64 q) := y20
 replace y23 : w9.drew.cell? ⟨g2, 3, none⟩ = some (.int .i64 sm2) := y23
 replace HB9 := Aside0.mk (below_drew1 HB9.out)
 replace HBK9 := Aside0.mk (show w9.drew.heap[g1]? = _ from HBK9.out)
 replace HBX2 := Aside0.mk (show w9.drew.heap[g2]? = _ from HBX2.out)
 by_cases c1 : (192 : Int) + (n : Int) < 192 + 288 * K
 ·have e1 : (sm2 == sm) = true := by rw [HSUM.out, decide_eq_true c1]; rfl
  have d1 : decide ((192 : Int) + (n : Int) < 192 + 288 * K) = true := decide_eq_true c1
  have c2 : (n : Int) < 288 * K := by omega
  have d2 : decide ((n : Int) < 288 * K) = true := decide_eq_true c2
  refine start_ (n := 46) (S := fun w' => w'.cell? ⟨g1, 0, none⟩ = some (.int .i64 q) ∧ w'.cell? ⟨g1, 3, none⟩ = some (.int .i64 sm) ∧ w'.cell? ⟨g2, 0, none⟩ = some (.int .i64 q) ∧ w'.cell? ⟨g2, 3, none⟩ = some (.int .i64 sm2)) (ds := []) #[false, false, false, false, false, false, false, false, false, false, false, false, false, false, false, false, false, false, false, false, false, false, false, false, false, false, false, false, false, false, false, false, false, false, false, false, false, false, false, false, false, false, false, false, false, false] (by kernel_rfl) rfl rfl ⟨y10, y13, y20, y23⟩ (fun hHeld => ?_); refine with_tabW stageReg.tab stageReg.bits (fun HT_ HW_ => ?_)
  generalize w9.drew = w10 at y10 y13 y20 y23 HB9 HBK9 HBX2 hHeld ⊢
  refine pure_ (i := 0) (N := (some 77)) (v := ?_) (a' := ?_) #[true, false, false, false, false, false, false, false, false, false, false, false, false, false, false, false, false, false, false, false, false, false, false, false, false, false, false, false, false, false, false, false, false, false, false, false, false, false, false, false, false, false, false, false, false, false] rfl rfl (any_of HT_.out (by kernel_rfl)) (fun _ _ _ h => h) (Or.inl ⟨by rfl, ?_⟩) ?_ ?_
  rotate_left
  ·intro w'
   go_simp
   with_reducible rfl
  rotate_left
  ·simp only [Act.put, List.setIfInBounds_toArray, List.set_cons_zero, List.set_cons_succ, i64_w, i32_w]
   rfl
  refine one_ (i := 1) (N := (some 78)) #[true, true, false, false, false, false, false, false, false, false, false, false, false, false, false, false, false, false, false, false, false, false, false, false, false, false, false, false, false, false, false, false, false, false, false, false, false, false, false, false, false, false, false, false, false, false] rfl rfl (one_of HT_.out (by kernel_rfl)) (by decide) (fun Kc hK => ?_)
  refine goes_ Try.func13 (by kernel_rfl) rfl #[.int .i64 0] (by rfl) rfl rfl (by (try simp only [List.map_toArray, List.map_cons, List.map_nil]); first | done | rfl) ?_
  with_reducible refine (skifflaw0_Num.calls 0 0 _ rfl).mono ?_
  rintro e w' ⟨rfl, ⟨nd, rfl⟩⟩
  refine ⟨_, rfl, ?_⟩
  refine hK.out _ _ ⟨y10, y13, y20, y23⟩ (fun hHeld => ?_)
  clear hK Kc
  refine norm_ (a' := ?_) ?_ ?_
  rotate_left
  ·show Act.put _ (some 78) _ = _
   simp only [Act.put, List.setIfInBounds_toArray, List.set_cons_zero, List.set_cons_succ, i64_w, i32_w]
   rfl
  refine pure_ (i := 2) (N := (some 79)) (v := ?_) (a' := ?_) #[true, true, true, false, false, false, false, false, false, false, false, false, false, false, false, false, false, false, false, false, false, false, false, false, false, false, false, false, false, false, false, false, false, false, false, false, false, false, false, false, false, false, false, false, false, false] rfl rfl (any_of HT_.out (by kernel_rfl)) (fun _ _ _ h => h) (Or.inl ⟨by rfl, ?_⟩) ?_ ?_
  rotate_left
  ·intro w'
   go_simp
   with_reducible rfl
  rotate_left
  ·simp only [Act.put, List.setIfInBounds_toArray, List.set_cons_zero, List.set_cons_succ, i64_w, i32_w]
   rfl
  refine pure_ (i := 3) (N := (some 80)) (v := ?_) (a' := ?_) #[true, true, true, true, false, false, false, false, false, false, false, false, false, false, false, false, false, false, false, false, false, false, false, false, false, false, false, false, false, false, false, false, false, false, false, false, false, false, false, false, false, false, false, false, false, false] rfl rfl (any_of HT_.out (by kernel_rfl)) (fun _ _ _ h => h) (Or.inl ⟨by rfl, ?_⟩) ?_ ?_
  rotate_left
  ·intro w'
   go_simp
   with_reducible rfl
  rotate_left
  ·simp only [Act.put, List.setIfInBounds_toArray, List.set_cons_zero, List.set_cons_succ, i64_w, i32_w]
   rfl
  refine pure_ (i := 4) (N := (some 81)) (v := ?_) (a' := ?_) #[true, true, true, true, true, false, false, false, false, false, false, false, false, false, false, false, false, false, false, false, false, false, false, false, false, false, false, false, false, false, false, false, false, false, false, false, false, false, false, false, false, false, false, false, false, false] rfl rfl (any_of HT_.out (by kernel_rfl)) (fun _ _ _ h => h) (Or.inl ⟨by rfl, ?_⟩) ?_ ?_
  rotate_left
  ·intro w'
   go_simp
   with_reducible rfl
  rotate_left
  ·simp only [Act.put, List.setIfInBounds_toArray, List.set_cons_zero, List.set_cons_succ, i64_w, i32_w]
   rfl
  refine take_ (i := 5) (N := (some 82)) (v := ?_) (a' := ?_) #[true, true, true, true, true, true, false, false, false, false, false, false, false, false, false, false, false, false, false, false, false, false, false, false, false, false, false, false, false, false, false, false, false, false, false, false, false, false, false, false, false, false, false, false, false, false] rfl rfl (take_ofW HT_.out HW_.out (by kernel_rfl)) (fun _ _ _ h => h) (Or.inl ⟨by rfl, ?_⟩) hHeld ?_ ?_
  rotate_left
  ·rintro w' ⟨s0, s1, s2, s3⟩
   go_simp
   with_reducible rfl
  rotate_left
  ·simp only [Act.put, List.setIfInBounds_toArray, List.set_cons_zero, List.set_cons_succ, i64_w, i32_w]
   rfl
  refine pure_ (i := 6) (N := (some 83)) (v := ?_) (a' := ?_) #[true, true, true, true, true, true, true, false, false, false, false, false, false, false, false, false, false, false, false, false, false, false, false, false, false, false, false, false, false, false, false, false, false, false, false, false, false, false, false, false, false, false, false, false, false, false] rfl rfl (any_of HT_.out (by kernel_rfl)) (fun _ _ _ h => h) (Or.inl ⟨by rfl, ?_⟩) ?_ ?_
  rotate_left
  ·intro w'
   go_simp
   with_reducible rfl
  rotate_left
  ·simp only [Act.put, List.setIfInBounds_toArray, List.set_cons_zero, List.set_cons_succ, i64_w, i32_w]
   rfl
  refine take_ (i := 7) (N := (some 84)) (v := ?_) (a' := ?_) #[true, true, true, true, true, true, true, true, false, false, false, false, false, false, false, false, false, false, false, false, false, false, false, false, false, false, false, false, false, false, false, false, false, false, false, false, false, false, false, false, false, false, false, false, false, false] rfl rfl (take_ofW HT_.out HW_.out (by kernel_rfl)) (fun _ _ _ h => h) (Or.inl ⟨by rfl, ?_⟩) hHeld ?_ ?_
  rotate_left
  ·rintro w' ⟨s0, s1, s2, s3⟩
   go_simp
   with_reducible rfl
  rotate_left
  ·simp only [Act.put, List.setIfInBounds_toArray, List.set_cons_zero, List.set_cons_succ, i64_w, i32_w]
   rfl
  refine pure_ (i := 8) (N := (some 85)) (v := ?_) (a' := ?_) #[true, true, true, true, true, true, true, true, true, false, false, false, false, false, false, false, false, false, false, false, false, false, false, false, false, false, false, false, false, false, false, false, false, false, false, false, false, false, false, false, false, false, false, false, false, false] rfl rfl (any_of HT_.out (by kernel_rfl)) (fun _ _ _ h => h) (Or.inl ⟨by rfl, ?_⟩) ?_ ?_
  rotate_left
  ·intro w'
   go_simp
   with_reducible rfl
  rotate_left
  ·simp only [Act.put, List.setIfInBounds_toArray, List.set_cons_zero, List.set_cons_succ, i64_w, i32_w]
   rfl
  refine pure_ (i := 9) (N := (some 86)) (v := ?_) (a' := ?_) #[true, true, true, true, true, true, true, true, true, true, false, false, false, false, false, false, false, false, false, false, false, false, false, false, false, false, false, false, false, false, false, false, false, false, false, false, false, false, false, false, false, false, false, false, false, false] rfl rfl (any_of HT_.out (by kernel_rfl)) (fun _ _ _ h => h) (Or.inl ⟨by rfl, ?_⟩) ?_ ?_
  rotate_left
  ·intro w'
   go_simp
   with_reducible rfl
  rotate_left
  ·simp only [Act.put, List.setIfInBounds_toArray, List.set_cons_zero, List.set_cons_succ, i64_w, i32_w]
   rfl
  refine pure_ (i := 10) (N := (some 87)) (v := ?_) (a' := ?_) #[true, true, true, true, true, true, true, true, true, true, true, false, false, false, false, false, false, false, false, false, false, false, false, false, false, false, false, false, false, false, false, false, false, false, false, false, false, false, false, false, false, false, false, false, false, false] rfl rfl (any_of HT_.out (by kernel_rfl)) (fun _ _ _ h => h) (Or.inl ⟨by rfl, ?_⟩) ?_ ?_
  rotate_left
  ·intro w'
   go_simp
   with_reducible rfl
  rotate_left
  ·simp only [Act.put, List.setIfInBounds_toArray, List.set_cons_zero, List.set_cons_succ, i64_w, i32_w]
   rfl
  refine pure_ (i := 11) (N := (some 88)) (v := ?_) (a' := ?_) #[true, true, true, true, true, true, true, true, true, true, true, true, false, false, false, false, false, false, false, false, false, false, false, false, false, false, false, false, false, false, false, false, false, false, false, false, false, false, false, false, false, false, false, false, false, false] rfl rfl (any_of HT_.out (by kernel_rfl)) (fun _ _ _ h => h) (Or.inl ⟨by rfl, ?_⟩) ?_ ?_
  rotate_left
  ·intro w'
   go_simp
   with_reducible rfl
  rotate_left
  ·simp only [Act.put, List.setIfInBounds_toArray, List.set_cons_zero, List.set_cons_succ, i64_w, i32_w]
   rfl
  refine take_ (i := 12) (N := (some 89)) (v := ?_) (a' := ?_) #[true, true, true, true, true, true, true, true, true, true, true, true, true, false, false, false, false, false, false, false, false, false, false, false, false, false, false, false, false, false, false, false, false, false, false, false, false, false, false, false, false, false, false, false, false, false] rfl rfl (take_ofW HT_.out HW_.out (by kernel_rfl)) (fun _ _ _ h => h) (Or.inl ⟨by rfl, ?_⟩) hHeld ?_ ?_
  rotate_left
  ·rintro w' ⟨s0, s1, s2, s3⟩
   go_simp
   with_reducible rfl
  rotate_left
  ·simp only [Act.put, List.setIfInBounds_toArray, List.set_cons_zero, List.set_cons_succ, i64_w, i32_w]
   rfl
  refine pure_ (i := 13) (N := (some 90)) (v := ?_) (a' := ?_) #[true, true, true, true, true, true, true, true, true, true, true, true, true, true, false, false, false, false, false, false, false, false, false, false, false, false, false, false, false, false, false, false, false, false, false, false, false, false, false, false, false, false, false, false, false, false] rfl rfl (any_of HT_.out (by kernel_rfl)) (fun _ _ _ h => h) (Or.inl ⟨by rfl, ?_⟩) ?_ ?_
  rotate_left
  ·intro w'
   go_simp
   with_reducible rfl
  rotate_left
  ·simp only [Act.put, List.setIfInBounds_toArray, List.set_cons_zero, List.set_cons_succ, i64_w, i32_w]
   rfl
  refine take_ (i := 14) (N := (some 91)) (v := ?_) (a' := ?_) #[true, true, true, true, true, true, true, true, true, true, true, true, true, true, true, false, false, false, false, false, false, false, false, false, false, false, false, false, false, false, false, false, false, false, false, false, false, false, false, false, false, false, false, false, false, false] rfl rfl (take_ofW HT_.out HW_.out (by kernel_rfl)) (fun _ _ _ h => h) (Or.inl ⟨by rfl, ?_⟩) hHeld ?_ ?_
  rotate_left
  ·rintro w' ⟨s0, s1, s2, s3⟩
   go_simp
   with_reducible rfl
  rotate_left
  ·simp only [Act.put, List.setIfInBounds_toArray, List.set_cons_zero, List.set_cons_succ, i64_w, i32_w]
   rfl
  refine pure_ (i := 15) (N := (some 92)) (v := ?_) (a' := ?_) #[true, true, true, true, true, true, true, true, true, true, true, true, true, true, true, true, false, false, false, false, false, false, false, false, false, false, false, false, false, false, false, false, false, false, false, false, false, false, false, false, false, false, false, false, false, false] rfl rfl (any_of HT_.out (by kernel_rfl)) (fun _ _ _ h => h) (Or.inl ⟨by rfl, ?_⟩) ?_ ?_
  rotate_left
  ·intro w'
   go_simp
   with_reducible rfl
  rotate_left
  ·simp only [Act.put, List.setIfInBounds_toArray, List.set_cons_zero, List.set_cons_succ, i64_w, i32_w]
   rfl
  refine pure_ (i := 16) (N := (some 93)) (v := ?_) (a' := ?_) #[true, true, true, true, true, true, true, true, true, true, true, true, true, true, true, true, true, false, false, false, false, false, false, false, false, false, false, false, false, false, false, false, false, false, false, false, false, false, false, false, false, false, false, false, false, false] rfl rfl (any_of HT_.out (by kernel_rfl)) (fun _ _ _ h => h) (Or.inl ⟨by rfl, ?_⟩) ?_ ?_
  rotate_left
  ·intro w'
   go_simp
   with_reducible rfl
  rotate_left
  ·simp only [Act.put, List.setIfInBounds_toArray, List.set_cons_zero, List.set_cons_succ, i64_w, i32_w]
   rfl
  refine pure_ (i := 17) (N := (some 94)) (v := ?_) (a' := ?_) #[true, true, true, true, true, true, true, true, true, true, true, true, true, true, true, true, true, true, false, false, false, false, false, false, false, false, false, false, false, false, false, false, false, false, false, false, false, false, false, false, false, false, false, false, false, false] rfl rfl (any_of HT_.out (by kernel_rfl)) (fun _ _ _ h => h) (Or.inl ⟨by rfl, ?_⟩) ?_ ?_
  rotate_left
  ·intro w'
   go_simp
   with_reducible rfl
  rotate_left
  ·simp only [Act.put, List.setIfInBounds_toArray, List.set_cons_zero, List.set_cons_succ, i64_w, i32_w]
   rfl
  refine pure_ (i := 18) (N := (some 95)) (v := ?_) (a' := ?_) #[true, true, true, true, true, true, true, true, true, true, true, true, true, true, true, true, true, true, true, false, false, false, false, false, false, false, false, false, false, false, false, false, false, false, false, false, false, false, false, false, false, false, false, false, false, false] rfl rfl (any_of HT_.out (by kernel_rfl)) (fun _ _ _ h => h) (Or.inl ⟨by rfl, ?_⟩) ?_ ?_
  rotate_left
  ·intro w'
   go_simp
   with_reducible rfl
  rotate_left
  ·simp only [Act.put, List.setIfInBounds_toArray, List.set_cons_zero, List.set_cons_succ, i64_w, i32_w]
   rfl
  refine pure_ (i := 19) (N := (some 96)) (v := ?_) (a' := ?_) #[true, true, true, true, true, true, true, true, true, true, true, true, true, true, true, true, true, true, true, true, false, false, false, false, false, false, false, false, false, false, false, false, false, false, false, false, false, false, false, false, false, false, false, false, false, false] rfl rfl (any_of HT_.out (by kernel_rfl)) (fun _ _ _ h => h) (Or.inl ⟨by rfl, ?_⟩) ?_ ?_
  rotate_left
  ·intro w'
   go_simp
   with_reducible rfl
  rotate_left
  ·simp only [Act.put, List.setIfInBounds_toArray, List.set_cons_zero, List.set_cons_succ, i64_w, i32_w]
   rfl
  refine pure_ (i := 20) (N := (some 97)) (v := undef) (a' := ?_) #[true, true, true, true, true, true, true, true, true, true, true, true, true, true, true, true, true, true, true, true, true, false, false, false, false, false, false, false, false, false, false, false, false, false, false, false, false, false, false, false, false, false, false, false, false, false] rfl rfl (any_of HT_.out (by kernel_rfl)) (fun _ _ _ h => h) (Or.inr ⟨by rfl, rfl⟩) ?_ ?_
  rotate_left
  ·simp only [Act.put, List.setIfInBounds_toArray, List.set_cons_zero, List.set_cons_succ, i64_w, i32_w]
   rfl
  refine pure_ (i := 21) (N := (some 98)) (v := undef) (a' := ?_) #[true, true, true, true, true, true, true, true, true, true, true, true, true, true, true, true, true, true, true, true, true, true, false, false, false, false, false, false, false, false, false, false, false, false, false, false, false, false, false, false, false, false, false, false, false, false] rfl rfl (any_of HT_.out (by kernel_rfl)) (fun _ _ _ h => h) (Or.inr ⟨by rfl, rfl⟩) ?_ ?_
  rotate_left
  ·simp only [Act.put, List.setIfInBounds_toArray, List.set_cons_zero, List.set_cons_succ, i64_w, i32_w]
   rfl
  refine pure_ (i := 22) (N := (some 99)) (v := undef) (a' := ?_) #[true, true, true, true, true, true, true, true, true, true, true, true, true, true, true, true, true, true, true, true, true, true, true, false, false, false, false, false, false, false, false, false, false, false, false, false, false, false, false, false, false, false, false, false, false, false] rfl rfl (any_of HT_.out (by kernel_rfl)) (fun _ _ _ h => h) (Or.inr ⟨by rfl, rfl⟩) ?_ ?_
  rotate_left
  ·simp only [Act.put, List.setIfInBounds_toArray, List.set_cons_zero, List.set_cons_succ, i64_w, i32_w]
   rfl
  refine pure_ (i := 23) (N := (some 100)) (v := undef) (a' := ?_) #[true, true, true, true, true, true, true, true, true, true, true, true, true, true, true, true, true, true, true, true, true, true, true, true, false, false, false, false, false, false, false, false, false, false, false, false, false, false, false, false, false, false, false, false, false, false] rfl rfl (any_of HT_.out (by kernel_rfl)) (fun _ _ _ h => h) (Or.inr ⟨by rfl, rfl⟩) ?_ ?_
  rotate_left
  ·simp only [Act.put, List.setIfInBounds_toArray, List.set_cons_zero, List.set_cons_succ, i64_w, i32_w]
   rfl
  refine pure_ (i := 24) (N := (some 101)) (v := undef) (a' := ?_) #[true, true, true, true, true, true, true, true, true, true, true, true, true, true, true, true, true, true, true, true, true, true, true, true, true, false, false, false, false, false, false, false, false, false, false, false, false, false, false, false, false, false, false, false, false, false] rfl rfl (any_of HT_.out (by kernel_rfl)) (fun _ _ _ h => h) (Or.inr ⟨by rfl, rfl⟩) ?_ ?_
  rotate_left
  ·simp only [Act.put, List.setIfInBounds_toArray, List.set_cons_zero, List.set_cons_succ, i64_w, i32_w]
   rfl
  refine pure_ (i := 25) (N := (some 102)) (v := ?_) (a' := ?_) #[true, true, true, true, true, true, true, true, true, true, true, true, true, true, true, true, true, true, true, true, true, true, true, true, true, true, false, false, false, false, false, false, false, false, false, false, false, false, false, false, false, false, false, false, false, false] rfl rfl (any_of HT_.out (by kernel_rfl)) (fun _ _ _ h => h) (Or.inl ⟨by rfl, ?_⟩) ?_ ?_
  rotate_left
  ·intro w'
   go_simp
   with_reducible rfl
  rotate_left
  ·simp only [Act.put, List.setIfInBounds_toArray, List.set_cons_zero, List.set_cons_succ, i64_w, i32_w]
   rfl
  refine pure_ (i := 26) (N := (some 103)) (v := ?_) (a' := ?_) #[true, true, true, true, true, true, true, true, true, true, true, true, true, true, true, true, true, true, true, true, true, true, true, true, true, true, true, false, false, false, false, false, false, false, false, false, false, false, false, false, false, false, false, false, false, false] rfl rfl (any_of HT_.out (by kernel_rfl)) (fun _ _ _ h => h) (Or.inl ⟨by rfl, ?_⟩) ?_ ?_
  rotate_left
  ·intro w'
   go_simp
   with_reducible rfl
  rotate_left
  ·simp only [Act.put, List.setIfInBounds_toArray, List.set_cons_zero, List.set_cons_succ, i64_w, i32_w]
   rfl
  refine pure_ (i := 27) (N := (some 104)) (v := ?_) (a' := ?_) #[true, true, true, true, true, true, true, true, true, true, true, true, true, true, true, true, true, true, true, true, true, true, true, true, true, true, true, true, false, false, false, false, false, false, false, false, false, false, false, false, false, false, false, false, false, false] rfl rfl (any_of HT_.out (by kernel_rfl)) (fun _ _ _ h => h) (Or.inl ⟨by rfl, ?_⟩) ?_ ?_
  rotate_left
  ·intro w'
   go_simp
   with_reducible rfl
  rotate_left
  ·simp only [Act.put, List.setIfInBounds_toArray, List.set_cons_zero, List.set_cons_succ, i64_w, i32_w]
   rfl
  refine pure_ (i := 28) (N := (some 105)) (v := ?_) (a' := ?_) #[true, true, true, true, true, true, true, true, true, true, true, true, true, true, true, true, true, true, true, true, true, true, true, true, true, true, true, true, true, false, false, false, false, false, false, false, false, false, false, false, false, false, false, false, false, false] rfl rfl (any_of HT_.out (by kernel_rfl)) (fun _ _ _ h => h) (Or.inl ⟨by rfl, ?_⟩) ?_ ?_
  rotate_left
  ·intro w'
   go_simp
   with_reducible rfl
  rotate_left
  ·simp only [Act.put, List.setIfInBounds_toArray, List.set_cons_zero, List.set_cons_succ, i64_w, i32_w]
   rfl
  refine pure_ (i := 29) (N := (some 106)) (v := ?_) (a' := ?_) #[true, true, true, true, true, true, true, true, true, true, true, true, true, true, true, true, true, true, true, true, true, true, true, true, true, true, true, true, true, true, false, false, false, false, false, false, false, false, false, false, false, false, false, false, false, false] rfl rfl (any_of HT_.out (by kernel_rfl)) (fun _ _ _ h => h) (Or.inl ⟨by rfl, ?_⟩) ?_ ?_
  rotate_left
  ·intro w'
   go_simp
   with_reducible rfl
  rotate_left
  ·simp only [Act.put, List.setIfInBounds_toArray, List.set_cons_zero, List.set_cons_succ, i64_w, i32_w]
   rfl
  refine take_ (i := 30) (N := (some 107)) (v := ?_) (a' := ?_) #[true, true, true, true, true, true, true, true, true, true, true, true, true, true, true, true, true, true, true, true, true, true, true, true, true, true, true, true, true, true, true, false, false, false, false, false, false, false, false, false, false, false, false, false, false, false] rfl rfl (take_ofW HT_.out HW_.out (by kernel_rfl)) (fun _ _ _ h => h) (Or.inl ⟨by rfl, ?_⟩) hHeld ?_ ?_
  rotate_left
  ·rintro w' ⟨s0, s1, s2, s3⟩
   go_simp
   with_reducible rfl
  rotate_left
  ·simp only [Act.put, List.setIfInBounds_toArray, List.set_cons_zero, List.set_cons_succ, i64_w, i32_w]
   rfl
  refine pure_ (i := 31) (N := (some 108)) (v := ?_) (a' := ?_) #[true, true, true, true, true, true, true, true, true, true, true, true, true, true, true, true, true, true, true, true, true, true, true, true, true, true, true, true, true, true, true, true, false, false, false, false, false, false, false, false, false, false, false, false, false, false] rfl rfl (any_of HT_.out (by kernel_rfl)) (fun _ _ _ h => h) (Or.inl ⟨by rfl, ?_⟩) ?_ ?_
  rotate_left
  ·intro w'
   go_simp
   with_reducible rfl
  rotate_left
  ·simp only [Act.put, List.setIfInBounds_toArray, List.set_cons_zero, List.set_cons_succ, i64_w, i32_w]
   rfl
  refine pure_ (i := 32) (N := (some 109)) (v := ?_) (a' := ?_) #[true, true, true, true, true, true, true, true, true, true, true, true, true, true, true, true, true, true, true, true, true, true, true, true, true, true, true, true, true, true, true, true, true, false, false, false, false, false, false, false, false, false, false, false, false, false] rfl rfl (any_of HT_.out (by kernel_rfl)) (fun _ _ _ h => h) (Or.inl ⟨by rfl, ?_⟩) ?_ ?_
  rotate_left
  ·intro w'
   go_simp
   with_reducible rfl
  rotate_left
  ·simp only [Act.put, List.setIfInBounds_toArray, List.set_cons_zero, List.set_cons_succ, i64_w, i32_w]
   rfl
  refine pure_ (i := 33) (N := (some 110)) (v := ?_) (a' := ?_) #[true, true, true, true, true, true, true, true, true, true, true, true, true, true, true, true, true, true, true, true, true, true, true, true, true, true, true, true, true, true, true, true, true, true, false, false, false, false, false, false, false, false, false, false, false, false] rfl rfl (any_of HT_.out (by kernel_rfl)) (fun _ _ _ h => h) (Or.inl ⟨by rfl, ?_⟩) ?_ ?_
  rotate_left
  ·intro w'
   go_simp
   with_reducible rfl
  rotate_left
  ·simp only [Act.put, List.setIfInBounds_toArray, List.set_cons_zero, List.set_cons_succ, i64_w, i32_w]
   rfl
  refine pure_ (i := 34) (N := (some 111)) (v := ?_) (a' := ?_) #[true, true, true, true, true, true, true, true, true, true, true, true, true, true, true, true, true, true, true, true, true, true, true, true, true, true, true, true, true, true, true, true, true, true, true, false, false, false, false, false, false, false, false, false, false, false] rfl rfl (any_of HT_.out (by kernel_rfl)) (fun _ _ _ h => h) (Or.inl ⟨by rfl, ?_⟩) ?_ ?_
  rotate_left
  ·intro w'
   go_simp
   with_reducible rfl
  rotate_left
  ·simp only [Act.put, List.setIfInBounds_toArray, List.set_cons_zero, List.set_cons_succ, i64_w, i32_w]
   rfl
  refine pure_ (i := 35) (N := (some 112)) (v := ?_) (a' := ?_) #[true, true, true, true, true, true, true, true, true, true, true, true, true, true, true, true, true, true, true, true, true, true, true, true, true, true, true, true, true, true, true, true, true, true, true, true, false, false, false, false, false, false, false, false, false, false] rfl rfl (any_of HT_.out (by kernel_rfl)) (fun _ _ _ h => h) (Or.inl ⟨by rfl, ?_⟩) ?_ ?_
  rotate_left
  ·intro w'
   go_simp
   with_reducible rfl
  rotate_left
  ·simp only [Act.put, List.setIfInBounds_toArray, List.set_cons_zero, List.set_cons_succ, i64_w, i32_w]
   rfl
  refine pure_ (i := 36) (N := (some 113)) (v := ?_) (a' := ?_) #[true, true, true, true, true, true, true, true, true, true, true, true, true, true, true, true, true, true, true, true, true, true, true, true, true, true, true, true, true, true, true, true, true, true, true, true, true, false, false, false, false, false, false, false, false, false] rfl rfl (any_of HT_.out (by kernel_rfl)) (fun _ _ _ h => h) (Or.inl ⟨by rfl, ?_⟩) ?_ ?_
  rotate_left
  ·intro w'
   go_simp
   with_reducible rfl
  rotate_left
  ·simp only [Act.put, List.setIfInBounds_toArray, List.set_cons_zero, List.set_cons_succ, i64_w, i32_w]
   rfl
  refine one_ (i := 37) (N := (some 114)) #[true, true, true, true, true, true, true, true, true, true, true, true, true, true, true, true, true, true, true, true, true, true, true, true, true, true, true, true, true, true, true, true, true, true, true, true, true, true, false, false, false, false, false, false, false, false] rfl rfl (one_of HT_.out (by kernel_rfl)) (by decide) (fun Kc hK => ?_)
  refine goes_ Try.func14 (by kernel_rfl) rfl #[.string (f.extract (192 + 288 * K).toNat (192 + 288 * K + (1 + m0)).toNat)] (by rfl) rfl rfl (by (try simp only [List.map_toArray, List.map_cons, List.map_nil]); first | done | rfl) ?_
  with_reducible refine (skiffref1_Crc.calls k _ sm _ HC.out).mono ?_
  rintro e w' ⟨rfl, ⟨nd2, rfl⟩⟩
  refine ⟨_, rfl, ?_⟩
  refine hK.out _ _ ⟨y10, y13, y20, y23⟩ (fun hHeld => ?_)
  clear hK Kc
  refine norm_ (a' := ?_) ?_ ?_
  rotate_left
  ·show Act.put _ (some 114) _ = _
   simp only [Act.put, List.setIfInBounds_toArray, List.set_cons_zero, List.set_cons_succ, i64_w, i32_w]
   rfl
  refine pure_ (i := 38) (N := (some 115)) (v := ?_) (a' := ?_) #[true, true, true, true, true, true, true, true, true, true, true, true, true, true, true, true, true, true, true, true, true, true, true, true, true, true, true, true, true, true, true, true, true, true, true, true, true, true, true, false, false, false, false, false, false, false] rfl rfl (any_of HT_.out (by kernel_rfl)) (fun _ _ _ h => h) (Or.inl ⟨by rfl, ?_⟩) ?_ ?_
  rotate_left
  ·intro w'
   go_simp
   with_reducible rfl
  rotate_left
  ·simp only [Act.put, List.setIfInBounds_toArray, List.set_cons_zero, List.set_cons_succ, i64_w, i32_w]
   rfl
  refine pure_ (i := 39) (N := (some 116)) (v := ?_) (a' := ?_) #[true, true, true, true, true, true, true, true, true, true, true, true, true, true, true, true, true, true, true, true, true, true, true, true, true, true, true, true, true, true, true, true, true, true, true, true, true, true, true, true, false, false, false, false, false, false] rfl rfl (any_of HT_.out (by kernel_rfl)) (fun _ _ _ h => h) (Or.inl ⟨by rfl, ?_⟩) ?_ ?_
  rotate_left
  ·intro w'
   go_simp
   with_reducible rfl
  rotate_left
  ·simp only [Act.put, List.setIfInBounds_toArray, List.set_cons_zero, List.set_cons_succ, i64_w, i32_w]
   rfl
  refine pure_ (i := 40) (N := (some 117)) (v := ?_) (a' := ?_) #[true, true, true, true, true, true, true, true, true, true, true, true, true, true, true, true, true, true, true, true, true, true, true, true, true, true, true, true, true, true, true, true, true, true, true, true, true, true, true, true, true, false, false, false, false, false] rfl rfl (any_of HT_.out (by kernel_rfl)) (fun _ _ _ h => h) (Or.inl ⟨by rfl, ?_⟩) ?_ ?_
  rotate_left
  ·intro w'
   go_simp
   with_reducible rfl
  rotate_left
  ·simp only [Act.put, List.setIfInBounds_toArray, List.set_cons_zero, List.set_cons_succ, i64_w, i32_w]
   rfl
  refine one_ (i := 41) (N := (some 118)) #[true, true, true, true, true, true, true, true, true, true, true, true, true, true, true, true, true, true, true, true, true, true, true, true, true, true, true, true, true, true, true, true, true, true, true, true, true, true, true, true, true, true, false, false, false, false] rfl rfl (one_of HT_.out (by kernel_rfl)) (by decide) (fun Kc hK => ?_)
  refine goes_ Try.func15 (by kernel_rfl) rfl #[] (by rfl) rfl rfl (by (try simp only [List.map_toArray, List.map_cons, List.map_nil]); first | done | rfl) ?_
  with_reducible refine (skifflaw9_held.calls k F _ HH.out).mono ?_
  rintro e w12 ⟨rfl, hb12⟩
  refine ⟨_, rfl, ?_⟩
  refine hK.out _ _ ⟨(hb12.cell (p := ⟨g1, 0, none⟩) (blk_lt HBK9.out)).trans y10, (hb12.cell (p := ⟨g1, 3, none⟩) (blk_lt HBK9.out)).trans y13, (hb12.cell (p := ⟨g2, 0, none⟩) (blk_lt HBX2.out)).trans y20, (hb12.cell (p := ⟨g2, 3, none⟩) (blk_lt HBX2.out)).trans y23⟩ (fun hHeld => ?_)
  clear hK Kc
  refine norm_ (a' := ?_) ?_ ?_
  rotate_left
  ·show Act.put _ (some 118) _ = _
   simp only [Act.put, List.setIfInBounds_toArray, List.set_cons_zero, List.set_cons_succ, i64_w, i32_w]
   rfl
  refine pure_ (i := 42) (N := (some 119)) (v := ?_) (a' := ?_) #[true, true, true, true, true, true, true, true, true, true, true, true, true, true, true, true, true, true, true, true, true, true, true, true, true, true, true, true, true, true, true, true, true, true, true, true, true, true, true, true, true, true, true, false, false, false] rfl rfl (any_of HT_.out (by kernel_rfl)) (fun _ _ _ h => h) (Or.inl ⟨by rfl, ?_⟩) ?_ ?_
  rotate_left
  ·intro w'
   go_simp
   with_reducible rfl
  rotate_left
  ·simp only [Act.put, List.setIfInBounds_toArray, List.set_cons_zero, List.set_cons_succ, i64_w, i32_w]
   rfl
  refine pure_ (i := 43) (N := (some 120)) (v := ?_) (a' := ?_) #[true, true, true, true, true, true, true, true, true, true, true, true, true, true, true, true, true, true, true, true, true, true, true, true, true, true, true, true, true, true, true, true, true, true, true, true, true, true, true, true, true, true, true, true, false, false] rfl rfl (any_of HT_.out (by kernel_rfl)) (fun _ _ _ h => h) (Or.inl ⟨by rfl, ?_⟩) ?_ ?_
  rotate_left
  ·intro w'
   go_simp
   with_reducible rfl
  rotate_left
  ·simp only [Act.put, List.setIfInBounds_toArray, List.set_cons_zero, List.set_cons_succ, i64_w, i32_w]
   rfl
  refine pure_ (i := 44) (N := (some 121)) (v := ?_) (a' := ?_) #[true, true, true, true, true, true, true, true, true, true, true, true, true, true, true, true, true, true, true, true, true, true, true, true, true, true, true, true, true, true, true, true, true, true, true, true, true, true, true, true, true, true, true, true, true, false] rfl rfl (any_of HT_.out (by kernel_rfl)) (fun _ _ _ h => h) (Or.inl ⟨by rfl, ?_⟩) ?_ ?_
  rotate_left
  ·intro w'
   go_simp
   with_reducible rfl
  rotate_left
  ·simp only [Act.put, List.setIfInBounds_toArray, List.set_cons_zero, List.set_cons_succ, i64_w, i32_w]
   rfl
  refine pure_ (i := 45) (N := (some 10)) (v := ?_) (a' := ?_) #[true, true, true, true, true, true, true, true, true, true, true, true, true, true, true, true, true, true, true, true, true, true, true, true, true, true, true, true, true, true, true, true, true, true, true, true, true, true, true, true, true, true, true, true, true, true] rfl rfl (any_of HT_.out (by kernel_rfl)) (fun _ _ _ h => h) (Or.inl ⟨by rfl, ?_⟩) ?_ ?_
  rotate_left
  ·intro w'
   go_simp
   with_reducible rfl
  rotate_left
  ·simp only [Act.put, List.setIfInBounds_toArray, List.set_cons_zero, List.set_cons_succ, i64_w, i32_w]
   rfl
  refine done_ (done_of HT_.out (by kernel_rfl)) ?_
  go_wp2
  go_ret
  exact ⟨rfl, below_step (pw_below_drewN (pw_below_drewN HB9.out _) _) hb12⟩
 ·have d1 : decide ((192 : Int) + (n : Int) < 192 + 288 * K) = false := decide_eq_false c1
  have c2 : ¬ (n : Int) < 288 * K := by omega
  have d2 : decide ((n : Int) < 288 * K) = false := decide_eq_false c2
  have e1 : (sm2 == sm) = decide (192 + 288 * K + (1 + m0) ≤ (192 : Int) + (n : Int)) := by rw [HSUM.out, d1]; rfl
  have e0 : ((sm2 == sm) == decide (192 + 288 * K + (1 + m0) ≤ (192 : Int) + (n : Int))) = true := by rw [e1]; exact beq_self_eq_true _
  clear e1
  refine start_ (n := 46) (S := fun w' => w'.cell? ⟨g1, 0, none⟩ = some (.int .i64 q) ∧ w'.cell? ⟨g1, 3, none⟩ = some (.int .i64 sm) ∧ w'.cell? ⟨g2, 0, none⟩ = some (.int .i64 q) ∧ w'.cell? ⟨g2, 3, none⟩ = some (.int .i64 sm2)) (ds := []) #[false, false, false, false, false, false, false, false, false, false, false, false, false, false, false, false, false, false, false, false, false, false, false, false, false, false, false, false, false, false, false, false, false, false, false, false, false, false, false, false, false, false, false, false, false, false] (by kernel_rfl) rfl rfl ⟨y10, y13, y20, y23⟩ (fun hHeld => ?_); refine with_tabW stageReg.tab stageReg.bits (fun HT_ HW_ => ?_)
  generalize w9.drew = w10 at y10 y13 y20 y23 HB9 HBK9 HBX2 hHeld ⊢
  refine pure_ (i := 0) (N := (some 77)) (v := ?_) (a' := ?_) #[true, false, false, false, false, false, false, false, false, false, false, false, false, false, false, false, false, false, false, false, false, false, false, false, false, false, false, false, false, false, false, false, false, false, false, false, false, false, false, false, false, false, false, false, false, false] rfl rfl (any_of HT_.out (by kernel_rfl)) (fun _ _ _ h => h) (Or.inl ⟨by rfl, ?_⟩) ?_ ?_
  rotate_left
  ·intro w'
   go_simp
   with_reducible rfl
  rotate_left
  ·simp only [Act.put, List.setIfInBounds_toArray, List.set_cons_zero, List.set_cons_succ, i64_w, i32_w]
   rfl
  refine one_ (i := 1) (N := (some 78)) #[true, true, false, false, false, false, false, false, false, false, false, false, false, false, false, false, false, false, false, false, false, false, false, false, false, false, false, false, false, false, false, false, false, false, false, false, false, false, false, false, false, false, false, false, false, false] rfl rfl (one_of HT_.out (by kernel_rfl)) (by decide) (fun Kc hK => ?_)
  refine goes_ Try.func13 (by kernel_rfl) rfl #[.int .i64 0] (by rfl) rfl rfl (by (try simp only [List.map_toArray, List.map_cons, List.map_nil]); first | done | rfl) ?_
  with_reducible refine (skifflaw0_Num.calls 0 0 _ rfl).mono ?_
  rintro e w' ⟨rfl, ⟨nd, rfl⟩⟩
  refine ⟨_, rfl, ?_⟩
  refine hK.out _ _ ⟨y10, y13, y20, y23⟩ (fun hHeld => ?_)
  clear hK Kc
  refine norm_ (a' := ?_) ?_ ?_
  rotate_left
  ·show Act.put _ (some 78) _ = _
   simp only [Act.put, List.setIfInBounds_toArray, List.set_cons_zero, List.set_cons_succ, i64_w, i32_w]
   rfl
  refine pure_ (i := 2) (N := (some 79)) (v := ?_) (a' := ?_) #[true, true, true, false, false, false, false, false, false, false, false, false, false, false, false, false, false, false, false, false, false, false, false, false, false, false, false, false, false, false, false, false, false, false, false, false, false, false, false, false, false, false, false, false, false, false] rfl rfl (any_of HT_.out (by kernel_rfl)) (fun _ _ _ h => h) (Or.inl ⟨by rfl, ?_⟩) ?_ ?_
  rotate_left
  ·intro w'
   go_simp
   with_reducible rfl
  rotate_left
  ·simp only [Act.put, List.setIfInBounds_toArray, List.set_cons_zero, List.set_cons_succ, i64_w, i32_w]
   rfl
  refine pure_ (i := 3) (N := (some 80)) (v := ?_) (a' := ?_) #[true, true, true, true, false, false, false, false, false, false, false, false, false, false, false, false, false, false, false, false, false, false, false, false, false, false, false, false, false, false, false, false, false, false, false, false, false, false, false, false, false, false, false, false, false, false] rfl rfl (any_of HT_.out (by kernel_rfl)) (fun _ _ _ h => h) (Or.inl ⟨by rfl, ?_⟩) ?_ ?_
  rotate_left
  ·intro w'
   go_simp
   with_reducible rfl
  rotate_left
  ·simp only [Act.put, List.setIfInBounds_toArray, List.set_cons_zero, List.set_cons_succ, i64_w, i32_w]
   rfl
  refine pure_ (i := 4) (N := (some 81)) (v := ?_) (a' := ?_) #[true, true, true, true, true, false, false, false, false, false, false, false, false, false, false, false, false, false, false, false, false, false, false, false, false, false, false, false, false, false, false, false, false, false, false, false, false, false, false, false, false, false, false, false, false, false] rfl rfl (any_of HT_.out (by kernel_rfl)) (fun _ _ _ h => h) (Or.inl ⟨by rfl, ?_⟩) ?_ ?_
  rotate_left
  ·intro w'
   go_simp
   with_reducible rfl
  rotate_left
  ·simp only [Act.put, List.setIfInBounds_toArray, List.set_cons_zero, List.set_cons_succ, i64_w, i32_w]
   rfl
  refine take_ (i := 5) (N := (some 82)) (v := ?_) (a' := ?_) #[true, true, true, true, true, true, false, false, false, false, false, false, false, false, false, false, false, false, false, false, false, false, false, false, false, false, false, false, false, false, false, false, false, false, false, false, false, false, false, false, false, false, false, false, false, false] rfl rfl (take_ofW HT_.out HW_.out (by kernel_rfl)) (fun _ _ _ h => h) (Or.inl ⟨by rfl, ?_⟩) hHeld ?_ ?_
  rotate_left
  ·rintro w' ⟨s0, s1, s2, s3⟩
   go_simp
   with_reducible rfl
  rotate_left
  ·simp only [Act.put, List.setIfInBounds_toArray, List.set_cons_zero, List.set_cons_succ, i64_w, i32_w]
   rfl
  refine pure_ (i := 6) (N := (some 83)) (v := ?_) (a' := ?_) #[true, true, true, true, true, true, true, false, false, false, false, false, false, false, false, false, false, false, false, false, false, false, false, false, false, false, false, false, false, false, false, false, false, false, false, false, false, false, false, false, false, false, false, false, false, false] rfl rfl (any_of HT_.out (by kernel_rfl)) (fun _ _ _ h => h) (Or.inl ⟨by rfl, ?_⟩) ?_ ?_
  rotate_left
  ·intro w'
   go_simp
   with_reducible rfl
  rotate_left
  ·simp only [Act.put, List.setIfInBounds_toArray, List.set_cons_zero, List.set_cons_succ, i64_w, i32_w]
   rfl
  refine take_ (i := 7) (N := (some 84)) (v := ?_) (a' := ?_) #[true, true, true, true, true, true, true, true, false, false, false, false, false, false, false, false, false, false, false, false, false, false, false, false, false, false, false, false, false, false, false, false, false, false, false, false, false, false, false, false, false, false, false, false, false, false] rfl rfl (take_ofW HT_.out HW_.out (by kernel_rfl)) (fun _ _ _ h => h) (Or.inl ⟨by rfl, ?_⟩) hHeld ?_ ?_
  rotate_left
  ·rintro w' ⟨s0, s1, s2, s3⟩
   go_simp
   with_reducible rfl
  rotate_left
  ·simp only [Act.put, List.setIfInBounds_toArray, List.set_cons_zero, List.set_cons_succ, i64_w, i32_w]
   rfl
  refine pure_ (i := 8) (N := (some 85)) (v := ?_) (a' := ?_) #[true, true, true, true, true, true, true, true, true, false, false, false, false, false, false, false, false, false, false, false, false, false, false, false, false, false, false, false, false, false, false, false, false, false, false, false, false, false, false, false, false, false, false, false, false, false] rfl rfl (any_of HT_.out (by kernel_rfl)) (fun _ _ _ h => h) (Or.inl ⟨by rfl, ?_⟩) ?_ ?_
  rotate_left
  ·intro w'
   go_simp
   with_reducible rfl
  rotate_left
  ·simp only [Act.put, List.setIfInBounds_toArray, List.set_cons_zero, List.set_cons_succ, i64_w, i32_w]
   rfl
  refine pure_ (i := 9) (N := (some 86)) (v := ?_) (a' := ?_) #[true, true, true, true, true, true, true, true, true, true, false, false, false, false, false, false, false, false, false, false, false, false, false, false, false, false, false, false, false, false, false, false, false, false, false, false, false, false, false, false, false, false, false, false, false, false] rfl rfl (any_of HT_.out (by kernel_rfl)) (fun _ _ _ h => h) (Or.inl ⟨by rfl, ?_⟩) ?_ ?_
  rotate_left
  ·intro w'
   go_simp
   with_reducible rfl
  rotate_left
  ·simp only [Act.put, List.setIfInBounds_toArray, List.set_cons_zero, List.set_cons_succ, i64_w, i32_w]
   rfl
  refine pure_ (i := 10) (N := (some 87)) (v := ?_) (a' := ?_) #[true, true, true, true, true, true, true, true, true, true, true, false, false, false, false, false, false, false, false, false, false, false, false, false, false, false, false, false, false, false, false, false, false, false, false, false, false, false, false, false, false, false, false, false, false, false] rfl rfl (any_of HT_.out (by kernel_rfl)) (fun _ _ _ h => h) (Or.inl ⟨by rfl, ?_⟩) ?_ ?_
  rotate_left
  ·intro w'
   go_simp
   with_reducible rfl
  rotate_left
  ·simp only [Act.put, List.setIfInBounds_toArray, List.set_cons_zero, List.set_cons_succ, i64_w, i32_w]
   rfl
  refine pure_ (i := 11) (N := (some 88)) (v := ?_) (a' := ?_) #[true, true, true, true, true, true, true, true, true, true, true, true, false, false, false, false, false, false, false, false, false, false, false, false, false, false, false, false, false, false, false, false, false, false, false, false, false, false, false, false, false, false, false, false, false, false] rfl rfl (any_of HT_.out (by kernel_rfl)) (fun _ _ _ h => h) (Or.inl ⟨by rfl, ?_⟩) ?_ ?_
  rotate_left
  ·intro w'
   go_simp
   with_reducible rfl
  rotate_left
  ·simp only [Act.put, List.setIfInBounds_toArray, List.set_cons_zero, List.set_cons_succ, i64_w, i32_w]
   rfl
  refine take_ (i := 12) (N := (some 89)) (v := ?_) (a' := ?_) #[true, true, true, true, true, true, true, true, true, true, true, true, true, false, false, false, false, false, false, false, false, false, false, false, false, false, false, false, false, false, false, false, false, false, false, false, false, false, false, false, false, false, false, false, false, false] rfl rfl (take_ofW HT_.out HW_.out (by kernel_rfl)) (fun _ _ _ h => h) (Or.inl ⟨by rfl, ?_⟩) hHeld ?_ ?_
  rotate_left
  ·rintro w' ⟨s0, s1, s2, s3⟩
   go_simp
   with_reducible rfl
  rotate_left
  ·simp only [Act.put, List.setIfInBounds_toArray, List.set_cons_zero, List.set_cons_succ, i64_w, i32_w]
   rfl
  refine pure_ (i := 13) (N := (some 90)) (v := ?_) (a' := ?_) #[true, true, true, true, true, true, true, true, true, true, true, true, true, true, false, false, false, false, false, false, false, false, false, false, false, false, false, false, false, false, false, false, false, false, false, false, false, false, false, false, false, false, false, false, false, false] rfl rfl (any_of HT_.out (by kernel_rfl)) (fun _ _ _ h => h) (Or.inl ⟨by rfl, ?_⟩) ?_ ?_
  rotate_left
  ·intro w'
   go_simp
   with_reducible rfl
  rotate_left
  ·simp only [Act.put, List.setIfInBounds_toArray, List.set_cons_zero, List.set_cons_succ, i64_w, i32_w]
   rfl
  refine take_ (i := 14) (N := (some 91)) (v := ?_) (a' := ?_) #[true, true, true, true, true, true, true, true, true, true, true, true, true, true, true, false, false, false, false, false, false, false, false, false, false, false, false, false, false, false, false, false, false, false, false, false, false, false, false, false, false, false, false, false, false, false] rfl rfl (take_ofW HT_.out HW_.out (by kernel_rfl)) (fun _ _ _ h => h) (Or.inl ⟨by rfl, ?_⟩) hHeld ?_ ?_
  rotate_left
  ·rintro w' ⟨s0, s1, s2, s3⟩
   go_simp
   with_reducible rfl
  rotate_left
  ·simp only [Act.put, List.setIfInBounds_toArray, List.set_cons_zero, List.set_cons_succ, i64_w, i32_w]
   rfl
  refine pure_ (i := 15) (N := (some 92)) (v := ?_) (a' := ?_) #[true, true, true, true, true, true, true, true, true, true, true, true, true, true, true, true, false, false, false, false, false, false, false, false, false, false, false, false, false, false, false, false, false, false, false, false, false, false, false, false, false, false, false, false, false, false] rfl rfl (any_of HT_.out (by kernel_rfl)) (fun _ _ _ h => h) (Or.inl ⟨by rfl, ?_⟩) ?_ ?_
  rotate_left
  ·intro w'
   go_simp
   with_reducible rfl
  rotate_left
  ·simp only [Act.put, List.setIfInBounds_toArray, List.set_cons_zero, List.set_cons_succ, i64_w, i32_w]
   rfl
  refine pure_ (i := 16) (N := (some 93)) (v := ?_) (a' := ?_) #[true, true, true, true, true, true, true, true, true, true, true, true, true, true, true, true, true, false, false, false, false, false, false, false, false, false, false, false, false, false, false, false, false, false, false, false, false, false, false, false, false, false, false, false, false, false] rfl rfl (any_of HT_.out (by kernel_rfl)) (fun _ _ _ h => h) (Or.inl ⟨by rfl, ?_⟩) ?_ ?_
  rotate_left
  ·intro w'
   go_simp
   with_reducible rfl
  rotate_left
  ·simp only [Act.put, List.setIfInBounds_toArray, List.set_cons_zero, List.set_cons_succ, i64_w, i32_w]
   rfl
  refine pure_ (i := 17) (N := (some 94)) (v := ?_) (a' := ?_) #[true, true, true, true, true, true, true, true, true, true, true, true, true, true, true, true, true, true, false, false, false, false, false, false, false, false, false, false, false, false, false, false, false, false, false, false, false, false, false, false, false, false, false, false, false, false] rfl rfl (any_of HT_.out (by kernel_rfl)) (fun _ _ _ h => h) (Or.inl ⟨by rfl, ?_⟩) ?_ ?_
  rotate_left
  ·intro w'
   go_simp
   with_reducible rfl
  rotate_left
  ·simp only [Act.put, List.setIfInBounds_toArray, List.set_cons_zero, List.set_cons_succ, i64_w, i32_w]
   rfl
  refine pure_ (i := 18) (N := (some 95)) (v := ?_) (a' := ?_) #[true, true, true, true, true, true, true, true, true, true, true, true, true, true, true, true, true, true, true, false, false, false, false, false, false, false, false, false, false, false, false, false, false, false, false, false, false, false, false, false, false, false, false, false, false, false] rfl rfl (any_of HT_.out (by kernel_rfl)) (fun _ _ _ h => h) (Or.inl ⟨by rfl, ?_⟩) ?_ ?_
  rotate_left
  ·intro w'
   go_simp
   with_reducible rfl
  rotate_left
  ·simp only [Act.put, List.setIfInBounds_toArray, List.set_cons_zero, List.set_cons_succ, i64_w, i32_w]
   rfl
  refine pure_ (i := 19) (N := (some 96)) (v := ?_) (a' := ?_) #[true, true, true, true, true, true, true, true, true, true, true, true, true, true, true, true, true, true, true, true, false, false, false, false, false, false, false, false, false, false, false, false, false, false, false, false, false, false, false, false, false, false, false, false, false, false] rfl rfl (any_of HT_.out (by kernel_rfl)) (fun _ _ _ h => h) (Or.inl ⟨by rfl, ?_⟩) ?_ ?_
  rotate_left
  ·intro w'
   go_simp
   with_reducible rfl
  rotate_left
  ·simp only [Act.put, List.setIfInBounds_toArray, List.set_cons_zero, List.set_cons_succ, i64_w, i32_w]
   rfl
  refine pure_ (i := 20) (N := (some 97)) (v := ?_) (a' := ?_) #[true, true, true, true, true, true, true, true, true, true, true, true, true, true, true, true, true, true, true, true, true, false, false, false, false, false, false, false, false, false, false, false, false, false, false, false, false, false, false, false, false, false, false, false, false, false] rfl rfl (any_of HT_.out (by kernel_rfl)) (fun _ _ _ h => h) (Or.inl ⟨by rfl, ?_⟩) ?_ ?_
  rotate_left
  ·intro w'
   go_simp
   with_reducible rfl
  rotate_left
  ·simp only [Act.put, List.setIfInBounds_toArray, List.set_cons_zero, List.set_cons_succ, i64_w, i32_w]
   rfl
  refine pure_ (i := 21) (N := (some 98)) (v := ?_) (a' := ?_) #[true, true, true, true, true, true, true, true, true, true, true, true, true, true, true, true, true, true, true, true, true, true, false, false, false, false, false, false, false, false, false, false, false, false, false, false, false, false, false, false, false, false, false, false, false, false] rfl rfl (any_of HT_.out (by kernel_rfl)) (fun _ _ _ h => h) (Or.inl ⟨by rfl, ?_⟩) ?_ ?_
  rotate_left
  ·intro w'
   go_simp
   with_reducible rfl
  rotate_left
  ·simp only [Act.put, List.setIfInBounds_toArray, List.set_cons_zero, List.set_cons_succ, i64_w, i32_w]
   rfl
  refine pure_ (i := 22) (N := (some 99)) (v := ?_) (a' := ?_) #[true, true, true, true, true, true, true, true, true, true, true, true, true, true, true, true, true, true, true, true, true, true, true, false, false, false, false, false, false, false, false, false, false, false, false, false, false, false, false, false, false, false, false, false, false, false] rfl rfl (any_of HT_.out (by kernel_rfl)) (fun _ _ _ h => h) (Or.inl ⟨by rfl, ?_⟩) ?_ ?_
  rotate_left
  ·intro w'
   go_simp
   with_reducible rfl
  rotate_left
  ·simp only [Act.put, List.setIfInBounds_toArray, List.set_cons_zero, List.set_cons_succ, i64_w, i32_w]
   rfl
  refine pure_ (i := 23) (N := (some 100)) (v := ?_) (a' := ?_) #[true, true, true, true, true, true, true, true, true, true, true, true, true, true, true, true, true, true, true, true, true, true, true, true, false, false, false, false, false, false, false, false, false, false, false, false, false, false, false, false, false, false, false, false, false, false] rfl rfl (any_of HT_.out (by kernel_rfl)) (fun _ _ _ h => h) (Or.inl ⟨by rfl, ?_⟩) ?_ ?_
  rotate_left
  ·intro w'
   go_simp
   with_reducible rfl
  rotate_left
  ·simp only [Act.put, List.setIfInBounds_toArray, List.set_cons_zero, List.set_cons_succ, i64_w, i32_w]
   rfl
  refine pure_ (i := 24) (N := (some 101)) (v := ?_) (a' := ?_) #[true, true, true, true, true, true, true, true, true, true, true, true, true, true, true, true, true, true, true, true, true, true, true, true, true, false, false, false, false, false, false, false, false, false, false, false, false, false, false, false, false, false, false, false, false, false] rfl rfl (any_of HT_.out (by kernel_rfl)) (fun _ _ _ h => h) (Or.inl ⟨by rfl, ?_⟩) ?_ ?_
  rotate_left
  ·intro w'
   go_simp
   with_reducible rfl
  rotate_left
  ·simp only [Act.put, List.setIfInBounds_toArray, List.set_cons_zero, List.set_cons_succ, i64_w, i32_w]
   rfl
  refine pure_ (i := 25) (N := (some 102)) (v := ?_) (a' := ?_) #[true, true, true, true, true, true, true, true, true, true, true, true, true, true, true, true, true, true, true, true, true, true, true, true, true, true, false, false, false, false, false, false, false, false, false, false, false, false, false, false, false, false, false, false, false, false] rfl rfl (any_of HT_.out (by kernel_rfl)) (fun _ _ _ h => h) (Or.inl ⟨by rfl, ?_⟩) ?_ ?_
  rotate_left
  ·intro w'
   go_simp
   with_reducible rfl
  rotate_left
  ·simp only [Act.put, List.setIfInBounds_toArray, List.set_cons_zero, List.set_cons_succ, i64_w, i32_w]
   rfl
  refine pure_ (i := 26) (N := (some 103)) (v := ?_) (a' := ?_) #[true, true, true, true, true, true, true, true, true, true, true, true, true, true, true, true, true, true, true, true, true, true, true, true, true, true, true, false, false, false, false, false, false, false, false, false, false, false, false, false, false, false, false, false, false, false] rfl rfl (any_of HT_.out (by kernel_rfl)) (fun _ _ _ h => h) (Or.inl ⟨by rfl, ?_⟩) ?_ ?_
  rotate_left
  ·intro w'
   go_simp
   with_reducible rfl
  rotate_left
  ·simp only [Act.put, List.setIfInBounds_toArray, List.set_cons_zero, List.set_cons_succ, i64_w, i32_w]
   rfl
  refine pure_ (i := 27) (N := (some 104)) (v := ?_) (a' := ?_) #[true, true, true, true, true, true, true, true, true, true, true, true, true, true, true, true, true, true, true, true, true, true, true, true, true, true, true, true, false, false, false, false, false, false, false, false, false, false, false, false, false, false, false, false, false, false] rfl rfl (any_of HT_.out (by kernel_rfl)) (fun _ _ _ h => h) (Or.inl ⟨by rfl, ?_⟩) ?_ ?_
  rotate_left
  ·intro w'
   go_simp
   with_reducible rfl
  rotate_left
  ·simp only [Act.put, List.setIfInBounds_toArray, List.set_cons_zero, List.set_cons_succ, i64_w, i32_w]
   rfl
  refine pure_ (i := 28) (N := (some 105)) (v := ?_) (a' := ?_) #[true, true, true, true, true, true, true, true, true, true, true, true, true, true, true, true, true, true, true, true, true, true, true, true, true, true, true, true, true, false, false, false, false, false, false, false, false, false, false, false, false, false, false, false, false, false] rfl rfl (any_of HT_.out (by kernel_rfl)) (fun _ _ _ h => h) (Or.inl ⟨by rfl, ?_⟩) ?_ ?_
  rotate_left
  ·intro w'
   go_simp
   with_reducible rfl
  rotate_left
  ·simp only [Act.put, List.setIfInBounds_toArray, List.set_cons_zero, List.set_cons_succ, i64_w, i32_w]
   rfl
  refine pure_ (i := 29) (N := (some 106)) (v := ?_) (a' := ?_) #[true, true, true, true, true, true, true, true, true, true, true, true, true, true, true, true, true, true, true, true, true, true, true, true, true, true, true, true, true, true, false, false, false, false, false, false, false, false, false, false, false, false, false, false, false, false] rfl rfl (any_of HT_.out (by kernel_rfl)) (fun _ _ _ h => h) (Or.inl ⟨by rfl, ?_⟩) ?_ ?_
  rotate_left
  ·intro w'
   go_simp
   with_reducible rfl
  rotate_left
  ·simp only [Act.put, List.setIfInBounds_toArray, List.set_cons_zero, List.set_cons_succ, i64_w, i32_w]
   rfl
  refine take_ (i := 30) (N := (some 107)) (v := ?_) (a' := ?_) #[true, true, true, true, true, true, true, true, true, true, true, true, true, true, true, true, true, true, true, true, true, true, true, true, true, true, true, true, true, true, true, false, false, false, false, false, false, false, false, false, false, false, false, false, false, false] rfl rfl (take_ofW HT_.out HW_.out (by kernel_rfl)) (fun _ _ _ h => h) (Or.inl ⟨by rfl, ?_⟩) hHeld ?_ ?_
  rotate_left
  ·rintro w' ⟨s0, s1, s2, s3⟩
   go_simp
   with_reducible rfl
  rotate_left
  ·simp only [Act.put, List.setIfInBounds_toArray, List.set_cons_zero, List.set_cons_succ, i64_w, i32_w]
   rfl
  refine pure_ (i := 31) (N := (some 108)) (v := ?_) (a' := ?_) #[true, true, true, true, true, true, true, true, true, true, true, true, true, true, true, true, true, true, true, true, true, true, true, true, true, true, true, true, true, true, true, true, false, false, false, false, false, false, false, false, false, false, false, false, false, false] rfl rfl (any_of HT_.out (by kernel_rfl)) (fun _ _ _ h => h) (Or.inl ⟨by rfl, ?_⟩) ?_ ?_
  rotate_left
  ·intro w'
   go_simp
   with_reducible rfl
  rotate_left
  ·simp only [Act.put, List.setIfInBounds_toArray, List.set_cons_zero, List.set_cons_succ, i64_w, i32_w]
   rfl
  refine pure_ (i := 32) (N := (some 109)) (v := ?_) (a' := ?_) #[true, true, true, true, true, true, true, true, true, true, true, true, true, true, true, true, true, true, true, true, true, true, true, true, true, true, true, true, true, true, true, true, true, false, false, false, false, false, false, false, false, false, false, false, false, false] rfl rfl (any_of HT_.out (by kernel_rfl)) (fun _ _ _ h => h) (Or.inl ⟨by rfl, ?_⟩) ?_ ?_
  rotate_left
  ·intro w'
   go_simp
   with_reducible rfl
  rotate_left
  ·simp only [Act.put, List.setIfInBounds_toArray, List.set_cons_zero, List.set_cons_succ, i64_w, i32_w]
   rfl
  refine pure_ (i := 33) (N := (some 110)) (v := ?_) (a' := ?_) #[true, true, true, true, true, true, true, true, true, true, true, true, true, true, true, true, true, true, true, true, true, true, true, true, true, true, true, true, true, true, true, true, true, true, false, false, false, false, false, false, false, false, false, false, false, false] rfl rfl (any_of HT_.out (by kernel_rfl)) (fun _ _ _ h => h) (Or.inl ⟨by rfl, ?_⟩) ?_ ?_
  rotate_left
  ·intro w'
   go_simp
   with_reducible rfl
  rotate_left
  ·simp only [Act.put, List.setIfInBounds_toArray, List.set_cons_zero, List.set_cons_succ, i64_w, i32_w]
   rfl
  refine pure_ (i := 34) (N := (some 111)) (v := ?_) (a' := ?_) #[true, true, true, true, true, true, true, true, true, true, true, true, true, true, true, true, true, true, true, true, true, true, true, true, true, true, true, true, true, true, true, true, true, true, true, false, false, false, false, false, false, false, false, false, false, false] rfl rfl (any_of HT_.out (by kernel_rfl)) (fun _ _ _ h => h) (Or.inl ⟨by rfl, ?_⟩) ?_ ?_
  rotate_left
  ·intro w'
   go_simp
   with_reducible rfl
  rotate_left
  ·simp only [Act.put, List.setIfInBounds_toArray, List.set_cons_zero, List.set_cons_succ, i64_w, i32_w]
   rfl
  refine pure_ (i := 35) (N := (some 112)) (v := ?_) (a' := ?_) #[true, true, true, true, true, true, true, true, true, true, true, true, true, true, true, true, true, true, true, true, true, true, true, true, true, true, true, true, true, true, true, true, true, true, true, true, false, false, false, false, false, false, false, false, false, false] rfl rfl (any_of HT_.out (by kernel_rfl)) (fun _ _ _ h => h) (Or.inl ⟨by rfl, ?_⟩) ?_ ?_
  rotate_left
  ·intro w'
   go_simp
   with_reducible rfl
  rotate_left
  ·simp only [Act.put, List.setIfInBounds_toArray, List.set_cons_zero, List.set_cons_succ, i64_w, i32_w]
   rfl
  refine pure_ (i := 36) (N := (some 113)) (v := ?_) (a' := ?_) #[true, true, true, true, true, true, true, true, true, true, true, true, true, true, true, true, true, true, true, true, true, true, true, true, true, true, true, true, true, true, true, true, true, true, true, true, true, false, false, false, false, false, false, false, false, false] rfl rfl (any_of HT_.out (by kernel_rfl)) (fun _ _ _ h => h) (Or.inl ⟨by rfl, ?_⟩) ?_ ?_
  rotate_left
  ·intro w'
   go_simp
   with_reducible rfl
  rotate_left
  ·simp only [Act.put, List.setIfInBounds_toArray, List.set_cons_zero, List.set_cons_succ, i64_w, i32_w]
   rfl
  refine one_ (i := 37) (N := (some 114)) #[true, true, true, true, true, true, true, true, true, true, true, true, true, true, true, true, true, true, true, true, true, true, true, true, true, true, true, true, true, true, true, true, true, true, true, true, true, true, false, false, false, false, false, false, false, false] rfl rfl (one_of HT_.out (by kernel_rfl)) (by decide) (fun Kc hK => ?_)
  refine goes_ Try.func14 (by kernel_rfl) rfl #[.string (f.extract (192 + 288 * K).toNat (192 + 288 * K + (1 + m0)).toNat)] (by rfl) rfl rfl (by (try simp only [List.map_toArray, List.map_cons, List.map_nil]); first | done | rfl) ?_
  with_reducible refine (skiffref1_Crc.calls k _ sm _ HC.out).mono ?_
  rintro e w' ⟨rfl, ⟨nd2, rfl⟩⟩
  refine ⟨_, rfl, ?_⟩
  refine hK.out _ _ ⟨y10, y13, y20, y23⟩ (fun hHeld => ?_)
  clear hK Kc
  refine norm_ (a' := ?_) ?_ ?_
  rotate_left
  ·show Act.put _ (some 114) _ = _
   simp only [Act.put, List.setIfInBounds_toArray, List.set_cons_zero, List.set_cons_succ, i64_w, i32_w]
   rfl
  refine pure_ (i := 38) (N := (some 115)) (v := ?_) (a' := ?_) #[true, true, true, true, true, true, true, true, true, true, true, true, true, true, true, true, true, true, true, true, true, true, true, true, true, true, true, true, true, true, true, true, true, true, true, true, true, true, true, false, false, false, false, false, false, false] rfl rfl (any_of HT_.out (by kernel_rfl)) (fun _ _ _ h => h) (Or.inl ⟨by rfl, ?_⟩) ?_ ?_
  rotate_left
  ·intro w'
   go_simp
   with_reducible rfl
  rotate_left
  ·simp only [Act.put, List.setIfInBounds_toArray, List.set_cons_zero, List.set_cons_succ, i64_w, i32_w]
   rfl
  refine pure_ (i := 39) (N := (some 116)) (v := ?_) (a' := ?_) #[true, true, true, true, true, true, true, true, true, true, true, true, true, true, true, true, true, true, true, true, true, true, true, true, true, true, true, true, true, true, true, true, true, true, true, true, true, true, true, true, false, false, false, false, false, false] rfl rfl (any_of HT_.out (by kernel_rfl)) (fun _ _ _ h => h) (Or.inl ⟨by rfl, ?_⟩) ?_ ?_
  rotate_left
  ·intro w'
   go_simp
   with_reducible rfl
  rotate_left
  ·simp only [Act.put, List.setIfInBounds_toArray, List.set_cons_zero, List.set_cons_succ, i64_w, i32_w]
   rfl
  refine pure_ (i := 40) (N := (some 117)) (v := ?_) (a' := ?_) #[true, true, true, true, true, true, true, true, true, true, true, true, true, true, true, true, true, true, true, true, true, true, true, true, true, true, true, true, true, true, true, true, true, true, true, true, true, true, true, true, true, false, false, false, false, false] rfl rfl (any_of HT_.out (by kernel_rfl)) (fun _ _ _ h => h) (Or.inl ⟨by rfl, ?_⟩) ?_ ?_
  rotate_left
  ·intro w'
   go_simp
   with_reducible rfl
  rotate_left
  ·simp only [Act.put, List.setIfInBounds_toArray, List.set_cons_zero, List.set_cons_succ, i64_w, i32_w]
   rfl
  refine one_ (i := 41) (N := (some 118)) #[true, true, true, true, true, true, true, true, true, true, true, true, true, true, true, true, true, true, true, true, true, true, true, true, true, true, true, true, true, true, true, true, true, true, true, true, true, true, true, true, true, true, false, false, false, false] rfl rfl (one_of HT_.out (by kernel_rfl)) (by decide) (fun Kc hK => ?_)
  refine goes_ Try.func15 (by kernel_rfl) rfl #[] (by rfl) rfl rfl (by (try simp only [List.map_toArray, List.map_cons, List.map_nil]); first | done | rfl) ?_
  with_reducible refine (skifflaw9_held.calls k F _ HH.out).mono ?_
  rintro e w12 ⟨rfl, hb12⟩
  refine ⟨_, rfl, ?_⟩
  refine hK.out _ _ ⟨(hb12.cell (p := ⟨g1, 0, none⟩) (blk_lt HBK9.out)).trans y10, (hb12.cell (p := ⟨g1, 3, none⟩) (blk_lt HBK9.out)).trans y13, (hb12.cell (p := ⟨g2, 0, none⟩) (blk_lt HBX2.out)).trans y20, (hb12.cell (p := ⟨g2, 3, none⟩) (blk_lt HBX2.out)).trans y23⟩ (fun hHeld => ?_)
  clear hK Kc
  refine norm_ (a' := ?_) ?_ ?_
  rotate_left
  ·show Act.put _ (some 118) _ = _
   simp only [Act.put, List.setIfInBounds_toArray, List.set_cons_zero, List.set_cons_succ, i64_w, i32_w]
   rfl
  refine pure_ (i := 42) (N := (some 119)) (v := ?_) (a' := ?_) #[true, true, true, true, true, true, true, true, true, true, true, true, true, true, true, true, true, true, true, true, true, true, true, true, true, true, true, true, true, true, true, true, true, true, true, true, true, true, true, true, true, true, true, false, false, false] rfl rfl (any_of HT_.out (by kernel_rfl)) (fun _ _ _ h => h) (Or.inl ⟨by rfl, ?_⟩) ?_ ?_
  rotate_left
  ·intro w'
   go_simp
   with_reducible rfl
  rotate_left
  ·simp only [Act.put, List.setIfInBounds_toArray, List.set_cons_zero, List.set_cons_succ, i64_w, i32_w]
   rfl
  refine pure_ (i := 43) (N := (some 120)) (v := ?_) (a' := ?_) #[true, true, true, true, true, true, true, true, true, true, true, true, true, true, true, true, true, true, true, true, true, true, true, true, true, true, true, true, true, true, true, true, true, true, true, true, true, true, true, true, true, true, true, true, false, false] rfl rfl (any_of HT_.out (by kernel_rfl)) (fun _ _ _ h => h) (Or.inl ⟨by rfl, ?_⟩) ?_ ?_
  rotate_left
  ·intro w'
   go_simp
   with_reducible rfl
  rotate_left
  ·simp only [Act.put, List.setIfInBounds_toArray, List.set_cons_zero, List.set_cons_succ, i64_w, i32_w]
   rfl
  refine pure_ (i := 44) (N := (some 121)) (v := ?_) (a' := ?_) #[true, true, true, true, true, true, true, true, true, true, true, true, true, true, true, true, true, true, true, true, true, true, true, true, true, true, true, true, true, true, true, true, true, true, true, true, true, true, true, true, true, true, true, true, true, false] rfl rfl (any_of HT_.out (by kernel_rfl)) (fun _ _ _ h => h) (Or.inl ⟨by rfl, ?_⟩) ?_ ?_
  rotate_left
  ·intro w'
   go_simp
   with_reducible rfl
  rotate_left
  ·simp only [Act.put, List.setIfInBounds_toArray, List.set_cons_zero, List.set_cons_succ, i64_w, i32_w]
   rfl
  refine pure_ (i := 45) (N := (some 10)) (v := ?_) (a' := ?_) #[true, true, true, true, true, true, true, true, true, true, true, true, true, true, true, true, true, true, true, true, true, true, true, true, true, true, true, true, true, true, true, true, true, true, true, true, true, true, true, true, true, true, true, true, true, true] rfl rfl (any_of HT_.out (by kernel_rfl)) (fun _ _ _ h => h) (Or.inl ⟨by rfl, ?_⟩) ?_ ?_
  rotate_left
  ·intro w'
   go_simp
   with_reducible rfl
  rotate_left
  ·simp only [Act.put, List.setIfInBounds_toArray, List.set_cons_zero, List.set_cons_succ, i64_w, i32_w]
   rfl
  refine done_ (done_of HT_.out (by kernel_rfl)) ?_
  go_wp2
  go_ret
  exact ⟨rfl, below_step (pw_below_drewN (pw_below_drewN HB9.out _) _) hb12⟩
set_option maxHeartbeats 4000000 in
set_option maxRecDepth 100000 in
theorem stage_no (k : Nat) (f : ByteArray) (slot size at_ by_ K m0 q1 q2 q3 q4 e0 : Int) (w : World)
  (ha : skifflaw9_awake.f k = some true) (eK : Go.bits .and .i64 slot 1 = K) (eS : Int.tmod (IntKind.u64.wrap size) 288 = m0) (s0 : 0 ≤ m0) (s1 : m0 < 288)
  (h1 : stage_Record.f k f K (1 + m0) = some (q1, q2, q3, q4, e0)) (he : e0 ≠ 0) :
  Calls Try.prog 3 #[.string f, .int .i64 slot, .int .i64 size, .int .i64 at_, .int .i64 by_] w fun e w' => e = .returned (.bool true) ∧ Below w.heap.size w w' := by
 have HA := Aside0.mk ha
 have H1 := Aside0.mk h1
 have HB := Aside0.mk (Below.refl w.heap.size w)
 have he1 : (e0 != 0) = true := bne_iff_ne.mpr he
 have he2 : (e0 == 0) = false := beq_eq_false_iff_ne.mpr he
 have he3 : (e0 = 0) = False := eq_false he
 clear ha h1 he
 go_enter Try.func3, Try.ntmps3
 go_wp2_with (first | (go_at_call 11; (with_reducible refine (skifflaw9_awake.calls k true _ HA.out).mono ?_); rintro e w1 ⟨rfl, hb1⟩; have HB1 := Aside0.mk (below_step HB.out hb1)) | (go_at_call 12; (with_reducible refine (stage_Record.calls k f K (1 + m0) q1 q2 q3 q4 e0 _ H1.out).mono ?_); rintro e w2 ⟨rfl, hb2⟩; have HB2 := Aside0.mk (below_step HB1.out hb2)) | ((with_reducible refine gate_dst (N := 13) rfl ?_); refine box_event ?hg (N := 13) ?hd (cs := #[.int .i64 0, .int .i64 0, .int .i64 0, .int .i64 0]) (t := 25) ?hr ?_; (case hd => rfl); (case hg => rfl); (case hr => first | (go_simp; done) | (go_simp; rfl)); intro g1 hg1 w3 hbox hb3; subst hg1; have z0 : w3.cell? ⟨w2.heap.size, 0, none⟩ = some (.int .i64 0) := (blk_cell hbox 0).trans rfl; have z1 : w3.cell? ⟨w2.heap.size, 1, none⟩ = some (.int .i64 0) := (blk_cell hbox 1).trans rfl; have z2 : w3.cell? ⟨w2.heap.size, 2, none⟩ = some (.int .i64 0) := (blk_cell hbox 2).trans rfl; have z3 : w3.cell? ⟨w2.heap.size, 3, none⟩ = some (.int .i64 0) := (blk_cell hbox 3).trans rfl; have f0 := blk_frozen hbox 0; have f1 := blk_frozen hbox 1; have f2 := blk_frozen hbox 2; have f3 := blk_frozen hbox 3))
 clear hb1 hb2 z0 z1 z2 z3 f0 f1 f2 f3
 have HB3 := Aside0.mk (below_set (j := 3) (v := .int .i64 q4) (below_set (j := 2) (v := .int .i64 q3) (below_set (j := 1) (v := .int .i64 q2) (below_set (j := 0) (v := .int .i64 q1) (below_step HB2.out hb3) HB2.out.size) HB2.out.size) HB2.out.size) HB2.out.size)
 generalize (((w3.setCell ⟨w2.heap.size, 0, none⟩ (.int .i64 q1)).setCell ⟨w2.heap.size, 1, none⟩ (.int .i64 q2)).setCell ⟨w2.heap.size, 2, none⟩ (.int .i64 q3)).setCell ⟨w2.heap.size, 3, none⟩ (.int .i64 q4) = w4 at HB3 ⊢
 clear hb3 hbox HB1 HB2
 go_wp2_with (go_at_call 13; go_in)
 go_ret
 exact ⟨rfl, HB3.out⟩
end Go.Proofs.Ytjihlabmddfjhaa.Hand

/- StageBytes: a record's sum is that of just its bytes: the walk of the law joined with the plain facts on sums. -/
set_option linter.unusedSimpArgs false
set_option linter.unusedVariables false
namespace Go.Proofs.Ytjihlabmddfjhaa.Pure
open Go.RowKit Go.Proofs.Ytjihlabmddfjhaa.PAll Go.Proofs.YtjihlabmddfjhaaW.PrintWords Go.Proofs.YtjihlabmddfjhaaW.PrintLast Go.Proofs.YtjihlabmddfjhaaW.PrintMore Go.Proofs.Ytjihlabmddfjhaa.M Go.Proofs.Ytjihlabmddfjhaa.Hand
abbrev B8 (x : Int) : BitVec 64 := BitVec.ofInt 64 x
theorem bits_and_i64 (x : Int) (m : Nat) (hm : m < 1000) : Go.bits .and .i64 x (m : Int) = (((B8 x).toNat &&& m : Nat) : Int) := by
 have e : (B8 x &&& B8 (m : Int)).toNat = (B8 x).toNat &&& m := by
  rw [BitVec.toNat_and]
  have e2 : (B8 (m : Int)).toNat = m := by
   show (BitVec.ofInt 64 (m : Int)).toNat = m
   rw [BitVec.ofInt_natCast, BitVec.toNat_ofNat, Nat.mod_eq_of_lt (by omega)]
  rw [e2]
 have hlt : (B8 x).toNat &&& m ≤ m := Nat.and_le_right
 show IntKind.i64.wrap ((B8 x &&& B8 (m : Int)).toNat : Int) = _
 rw [e, IntKind.wrap_i64]; omega
theorem and_le (x : Int) (m : Nat) (hm : m < 1000) : 0 ≤ Go.bits .and .i64 x (m : Int) ∧ Go.bits .and .i64 x (m : Int) ≤ (m : Int) := by
 rw [bits_and_i64 x m hm]
 have hlt : (B8 x).toNat &&& m ≤ m := Nat.and_le_right
 omega
theorem urem (x : Int) (n : Int) (h0 : 0 < n) : 0 ≤ Int.tmod (IntKind.u64.wrap x) n ∧ Int.tmod (IntKind.u64.wrap x) n < n := by
 have hx : 0 ≤ IntKind.u64.wrap x := by rw [IntKind.wrap_u64]; omega
 rw [Int.tmod_eq_emod_of_nonneg hx]
 exact ⟨Int.emod_nonneg _ (by omega), Int.emod_lt_of_pos _ h0⟩
theorem StageBytes_walk (f : ByteArray) (slot size at_ by_ : Int) (w : World) :
  Calls Try.prog 3 #[.string f, .int .i64 slot, .int .i64 size, .int .i64 at_, .int .i64 by_] w fun e w' => e = .returned (.bool true) ∧ Below w.heap.size w w' := by
 obtain ⟨K, eK⟩ : ∃ K, Go.bits .and .i64 slot 1 = K := ⟨_, rfl⟩
 obtain ⟨m0, eS⟩ : ∃ m, Int.tmod (IntKind.u64.wrap size) 288 = m := ⟨_, rfl⟩
 obtain ⟨y0, eB⟩ : ∃ y, Go.bits .and .i64 by_ 127 = y := ⟨_, rfl⟩
 have kb := and_le slot 1 (by omega)
 have yb := and_le by_ 127 (by omega)
 have sb := urem size 288 (by omega)
 have ab := urem at_ 576 (by omega)
 obtain ⟨n, hn⟩ := Int.eq_ofNat_of_zero_le ab.1
 have eA : Int.tmod (IntKind.u64.wrap at_) 576 = (n : Int) := hn
 rw [show ((1 : Nat) : Int) = 1 from rfl, eK] at kb
 rw [show ((127 : Nat) : Int) = 127 from rfl, eB] at yb
 rw [eS] at sb
 rw [eA] at ab
 obtain ⟨n1, a1⟩ := awake9
 obtain ⟨n2, a2⟩ := Record_ev f K (1 + m0)
 by_cases he : (recV f K (1 + m0)).2.2.2.2 = 0
 ·obtain ⟨ok, hnx⟩ := recV_ok he
  obtain ⟨hf, k0, k1, z0, z1⟩ := ok
  have hrec := recV_of f K (1 + m0) (nextV f).1 ⟨hf, k0, k1, z0, z1⟩ (by rw [← hnx])
  rw [hrec] at a2
  have hin : 192 + n < f.size := by omega
  have hg : (bytesOf f).getD (192 + n) 0 = bt f ((192 + n : Nat) : Int) := bytesOf_getD f (192 + n) hin
  have hb := bt_u8 f ((192 + n : Nat) : Int)
  obtain ⟨v, hv⟩ : ∃ v, Go.bits .xor .u8 (bt f ((192 + n : Nat) : Int)) (1 + y0) = v := ⟨_, rfl⟩
  have hx := xor_turns hb.1 hb.2 (y := 1 + y0) (by omega) (by omega)
  rw [hv] at hx
  have hts : (turnF f (192 + n) v).size = 768 := by rw [turnF_size]; exact hf
  obtain ⟨n3, a3⟩ := Record_ev (turnF f (192 + n) v) K (1 + m0)
  have hrec2 := recV_of (turnF f (192 + n) v) K (1 + m0) (nextV f).1 ⟨hts, k0, k1, z0, z1⟩ (by rw [nextV_turn f (192 + n) v hf (by omega) (by omega) hx.2.1 hx.2.2, ← hnx])
  rw [hrec2] at a3
  have hsz := imgF_size f K (1 + m0)
  obtain ⟨n4, a4⟩ := Crc_ev (imgF f K (1 + m0)) (by omega)
  obtain ⟨n5, a5⟩ := held9
  have hsum := turn_sum f K (1 + m0) (192 + n) v hf k0 k1 z0 z1 (by omega) (by omega) hx.2.1 hx.2.2 hx.1
  rw [show ((192 + n : Nat) : Int) = (192 : Int) + (n : Int) by omega] at hsum
  refine stage_yes (n1 + n2 + n3 + n4 + n5) f slot size at_ by_ K m0 y0 (nextV f).1 (crcV (imgF f K (1 + m0))) (crcV (imgF (turnF f (192 + n) v) K (1 + m0))) n w hf (a1 _ (by omega)) eK eS sb.1 sb.2 eA (by omega) eB yb.1 (by omega) k0 k1 (a2 _ (by omega)) ?_ (a4 _ (by omega)) heldF (a5 _ (by omega)) heldF_size hsum
  rw [hg, hv]
  exact a3 _ (by omega)
 ·have e : recV f K (1 + m0) = ((recV f K (1 + m0)).1, (recV f K (1 + m0)).2.1, (recV f K (1 + m0)).2.2.1, (recV f K (1 + m0)).2.2.2.1, (recV f K (1 + m0)).2.2.2.2) := rfl
  rw [e] at a2
  exact stage_no (n1 + n2) f slot size at_ by_ K m0 _ _ _ _ _ w (a1 _ (by omega)) eK eS sb.1 sb.2 (a2 _ (by omega)) he
end Go.Proofs.Ytjihlabmddfjhaa.Pure

