import Derived.Test.YtjadcjkjpkkmkaaShU5
namespace Go.Proofs.Ytjadcjkjpkkmkaa.PAll
open Go.RowKit Go.Proofs.YtjadcjkjpkkmkaaW.PrintWords Go.Proofs.YtjadcjkjpkkmkaaW.PrintLast Go.Proofs.YtjadcjkjpkkmkaaW.PrintMore
attribute [local go_sem] max2_int min2_int max_two min_two max_three min_three max_four min_four
set_option linter.unusedVariables false
set_option linter.unusedSimpArgs false
def skiffref1_Worn.f (k : Nat) (a0 : ByteArray) (a1 : Int) (a2 : Int) : Option (ByteArray × Int) := (skiffref1_FlashMay.f a0).bind fun t329 => (if t329 = true then ((PBase.skiffref1_upTo.f a1 0 7).bind fun t330 => (if t330 = true then ((PBase.skiffref1_upTo.f a2 0 96).bind fun t331 => (if t331 = true then (if 0 ≤ (wrap64 (a1 * 96)) then (if (wrap64 (a1 * 96)) ≤ (a0.size : Int) then ((skiffref1_full.f k a2).bind fun t332 => (if (a0.extract 0 ((wrap64 (a1 * 96)) : Int).toNat).size + t332.size ≤ 9223372036854775807 then (if 0 ≤ (wrap64 ((wrap64 (a1 * 96)) + a2)) then (if (wrap64 ((wrap64 (a1 * 96)) + a2)) ≤ (a0.size : Int) then (if ((a0.extract 0 ((wrap64 (a1 * 96)) : Int).toNat) ++ t332).size + (a0.extract ((wrap64 ((wrap64 (a1 * 96)) + a2)) : Int).toNat a0.size).size ≤ 9223372036854775807 then (some (((a0.extract 0 ((wrap64 (a1 * 96)) : Int).toNat) ++ t332) ++ (a0.extract ((wrap64 ((wrap64 (a1 * 96)) + a2)) : Int).toNat a0.size), 0)) else (none)) else (none)) else (none)) else (none))) else (none)) else (none)) else (some ((⟨#[]⟩ : ByteArray), 200)))) else (some ((⟨#[]⟩ : ByteArray), 200)))) else (some ((⟨#[]⟩ : ByteArray), 200)))
def skiffref1_Worn.T4 : Bool × List (List Nat × List Nat) := (true, [([], []), ([], []), ([0, 1], [0, 1]), ([], []), ([3], [3]), ([2, 4], [2, 4]), ([], []), ([], []), ([], []), ([7, 8], [7, 8]), ([6, 9], [6, 9]), ([5, 10], [5, 10]), ([11, 4, 0, 1, 2, 3, 4, 5, 6, 7, 8, 9, 10, 11], [11]), ([12, 0, 1, 2, 3, 4, 5, 6, 7, 8, 9, 10, 11, 12], [])])
def skiffref1_Worn.B4 : List Nat := [0, 0, 3, 0, 8, 31, 0, 0, 0, 384, 960, 2047, 4095, 8191]
theorem skiffref1_Worn.tab4 : rtab .any (opsOf Try.f85 4) = skiffref1_Worn.T4 := by kernel_rfl
theorem skiffref1_Worn.bits4 : waitsOk skiffref1_Worn.T4.2 skiffref1_Worn.B4 = true := by kernel_rfl
set_option maxHeartbeats 8000000 in
set_option maxRecDepth 100000 in
theorem skiffref1_Worn.calls (k : Nat) (a0 : ByteArray) (a1 : Int) (a2 : Int) (r1 : ByteArray) (r2 : Int) (w : World) (h : skiffref1_Worn.f k a0 a1 a2 = some (r1, r2)) :
  Calls Try.prog 85 #[.string a0, .int .i64 a1, .int .i64 a2] w fun e w' => e = .returned (.tuple #[.string r1, .int .i64 r2]) ∧ Below w.heap.size w w' := by
 have HB := Aside0.mk (Below.refl w.heap.size w)
 have H : ((skiffref1_FlashMay.f a0).bind fun t329 => (if t329 = true then ((PBase.skiffref1_upTo.f a1 0 7).bind fun t330 => (if t330 = true then ((PBase.skiffref1_upTo.f a2 0 96).bind fun t331 => (if t331 = true then (if 0 ≤ (wrap64 (a1 * 96)) then (if (wrap64 (a1 * 96)) ≤ (a0.size : Int) then ((skiffref1_full.f k a2).bind fun t332 => (if (a0.extract 0 ((wrap64 (a1 * 96)) : Int).toNat).size + t332.size ≤ 9223372036854775807 then (if 0 ≤ (wrap64 ((wrap64 (a1 * 96)) + a2)) then (if (wrap64 ((wrap64 (a1 * 96)) + a2)) ≤ (a0.size : Int) then (if ((a0.extract 0 ((wrap64 (a1 * 96)) : Int).toNat) ++ t332).size + (a0.extract ((wrap64 ((wrap64 (a1 * 96)) + a2)) : Int).toNat a0.size).size ≤ 9223372036854775807 then (some (((a0.extract 0 ((wrap64 (a1 * 96)) : Int).toNat) ++ t332) ++ (a0.extract ((wrap64 ((wrap64 (a1 * 96)) + a2)) : Int).toNat a0.size), 0)) else (none)) else (none)) else (none)) else (none))) else (none)) else (none)) else (some ((⟨#[]⟩ : ByteArray), 200)))) else (some ((⟨#[]⟩ : ByteArray), 200)))) else (some ((⟨#[]⟩ : ByteArray), 200)))) = some (r1, r2) := h
 clear h
 replace H := Option.bind_eq_some_iff.mp H
 obtain ⟨t329, A40, H⟩ := H
 (try dsimp only at H)
 have A4 := Aside0.mk A40
 clear A40
 by_cases c5 : t329 = true
 rotate_left
 ·replace c5 := Bool.eq_false_iff.mpr c5
  subst c5
  have H1 : (some ((⟨#[]⟩ : ByteArray), 200)) = some (r1, r2) := by rw [if_neg (show ¬ (false = true) by decide)] at H; exact H
  clear H
  have H := H1
  clear H1
  simp only [Option.some.injEq, Prod.mk.injEq] at H
  obtain ⟨rfl, rfl⟩ := H
  go_enter Try.func85, Try.ntmps85
  go_wp2_with (first | ((with_reducible refine gate_callee (f := 34) rfl ?_); refine goesL_ (some 10) rfl rfl Try.func34 (by kernel_rfl) rfl #[.string a0] rfl q1_ ?_; (with_reducible refine (skiffref1_FlashMay.calls a0 false _ A4.out).mono ?_); rintro e w' ⟨rfl, ⟨nd, rfl⟩⟩; refine ⟨_, rfl, ?_⟩))
  go_ret2
  exact ⟨by first | rfl | (simp [errW_none, errW_some] <;> rfl) | (simp [*, errW_none, errW_some] <;> rfl), by repeat (first | (with_reducible first | exact HB.out | apply below_alloc | apply pw_below_drewN | apply below_drew1) | exact HB.out | exact Below.refl _ _)⟩
 subst c5
 have H1 : ((PBase.skiffref1_upTo.f a1 0 7).bind fun t330 => (if t330 = true then ((PBase.skiffref1_upTo.f a2 0 96).bind fun t331 => (if t331 = true then (if 0 ≤ (wrap64 (a1 * 96)) then (if (wrap64 (a1 * 96)) ≤ (a0.size : Int) then ((skiffref1_full.f k a2).bind fun t332 => (if (a0.extract 0 ((wrap64 (a1 * 96)) : Int).toNat).size + t332.size ≤ 9223372036854775807 then (if 0 ≤ (wrap64 ((wrap64 (a1 * 96)) + a2)) then (if (wrap64 ((wrap64 (a1 * 96)) + a2)) ≤ (a0.size : Int) then (if ((a0.extract 0 ((wrap64 (a1 * 96)) : Int).toNat) ++ t332).size + (a0.extract ((wrap64 ((wrap64 (a1 * 96)) + a2)) : Int).toNat a0.size).size ≤ 9223372036854775807 then (some (((a0.extract 0 ((wrap64 (a1 * 96)) : Int).toNat) ++ t332) ++ (a0.extract ((wrap64 ((wrap64 (a1 * 96)) + a2)) : Int).toNat a0.size), 0)) else (none)) else (none)) else (none)) else (none))) else (none)) else (none)) else (some ((⟨#[]⟩ : ByteArray), 200)))) else (some ((⟨#[]⟩ : ByteArray), 200)))) = some (r1, r2) := by rw [if_pos rfl] at H; exact H
 clear H
 have H := H1
 clear H1
 replace H := Option.bind_eq_some_iff.mp H
 obtain ⟨t330, A60, H⟩ := H
 (try dsimp only at H)
 have A6 := Aside0.mk A60
 clear A60
 by_cases c7 : t330 = true
 rotate_left
 ·replace c7 := Bool.eq_false_iff.mpr c7
  subst c7
  have H1 : (some ((⟨#[]⟩ : ByteArray), 200)) = some (r1, r2) := by rw [if_neg (show ¬ (false = true) by decide)] at H; exact H
  clear H
  have H := H1
  clear H1
  simp only [Option.some.injEq, Prod.mk.injEq] at H
  obtain ⟨rfl, rfl⟩ := H
  go_enter Try.func85, Try.ntmps85
  go_wp2_with (first | ((with_reducible refine gate_callee (f := 34) rfl ?_); refine goesL_ (some 10) rfl rfl Try.func34 (by kernel_rfl) rfl #[.string a0] rfl q1_ ?_; (with_reducible refine (skiffref1_FlashMay.calls a0 true _ A4.out).mono ?_); rintro e w' ⟨rfl, ⟨nd, rfl⟩⟩; refine ⟨_, rfl, ?_⟩) | (go_at_call 40; (with_reducible refine (PBase.skiffref1_upTo.calls a1 0 7 false _ A6.out).mono ?_); rintro e w' ⟨rfl, ⟨nd, rfl⟩⟩))
  go_ret2
  exact ⟨by first | rfl | (simp [errW_none, errW_some] <;> rfl) | (simp [*, errW_none, errW_some] <;> rfl), by repeat (first | (with_reducible first | exact HB.out | apply below_alloc | apply pw_below_drewN | apply below_drew1) | exact HB.out | exact Below.refl _ _)⟩
 subst c7
 have H1 : ((PBase.skiffref1_upTo.f a2 0 96).bind fun t331 => (if t331 = true then (if 0 ≤ (wrap64 (a1 * 96)) then (if (wrap64 (a1 * 96)) ≤ (a0.size : Int) then ((skiffref1_full.f k a2).bind fun t332 => (if (a0.extract 0 ((wrap64 (a1 * 96)) : Int).toNat).size + t332.size ≤ 9223372036854775807 then (if 0 ≤ (wrap64 ((wrap64 (a1 * 96)) + a2)) then (if (wrap64 ((wrap64 (a1 * 96)) + a2)) ≤ (a0.size : Int) then (if ((a0.extract 0 ((wrap64 (a1 * 96)) : Int).toNat) ++ t332).size + (a0.extract ((wrap64 ((wrap64 (a1 * 96)) + a2)) : Int).toNat a0.size).size ≤ 9223372036854775807 then (some (((a0.extract 0 ((wrap64 (a1 * 96)) : Int).toNat) ++ t332) ++ (a0.extract ((wrap64 ((wrap64 (a1 * 96)) + a2)) : Int).toNat a0.size), 0)) else (none)) else (none)) else (none)) else (none))) else (none)) else (none)) else (some ((⟨#[]⟩ : ByteArray), 200)))) = some (r1, r2) := by rw [if_pos rfl] at H; exact H
 clear H
 have H := H1
 clear H1
 replace H := Option.bind_eq_some_iff.mp H
 obtain ⟨t331, A80, H⟩ := H
 (try dsimp only at H)
 have A8 := Aside0.mk A80
 clear A80
 by_cases c9 : t331 = true
 rotate_left
 ·replace c9 := Bool.eq_false_iff.mpr c9
  subst c9
  have H1 : (some ((⟨#[]⟩ : ByteArray), 200)) = some (r1, r2) := by rw [if_neg (show ¬ (false = true) by decide)] at H; exact H
  clear H
  have H := H1
  clear H1
  simp only [Option.some.injEq, Prod.mk.injEq] at H
  obtain ⟨rfl, rfl⟩ := H
  go_enter Try.func85, Try.ntmps85
  go_wp2_with (first | ((with_reducible refine gate_callee (f := 34) rfl ?_); refine goesL_ (some 10) rfl rfl Try.func34 (by kernel_rfl) rfl #[.string a0] rfl q1_ ?_; (with_reducible refine (skiffref1_FlashMay.calls a0 true _ A4.out).mono ?_); rintro e w' ⟨rfl, ⟨nd, rfl⟩⟩; refine ⟨_, rfl, ?_⟩) | (go_at_call 40; (with_reducible refine (PBase.skiffref1_upTo.calls a1 0 7 true _ A6.out).mono ?_); rintro e w' ⟨rfl, ⟨nd, rfl⟩⟩) | (go_at_call 40; (with_reducible refine (PBase.skiffref1_upTo.calls a2 0 96 false _ A8.out).mono ?_); rintro e w' ⟨rfl, ⟨nd, rfl⟩⟩))
  go_ret2
  exact ⟨by first | rfl | (simp [errW_none, errW_some] <;> rfl) | (simp [*, errW_none, errW_some] <;> rfl), by repeat (first | (with_reducible first | exact HB.out | apply below_alloc | apply pw_below_drewN | apply below_drew1) | exact HB.out | exact Below.refl _ _)⟩
 subst c9
 have H1 : (if 0 ≤ (wrap64 (a1 * 96)) then (if (wrap64 (a1 * 96)) ≤ (a0.size : Int) then ((skiffref1_full.f k a2).bind fun t332 => (if (a0.extract 0 ((wrap64 (a1 * 96)) : Int).toNat).size + t332.size ≤ 9223372036854775807 then (if 0 ≤ (wrap64 ((wrap64 (a1 * 96)) + a2)) then (if (wrap64 ((wrap64 (a1 * 96)) + a2)) ≤ (a0.size : Int) then (if ((a0.extract 0 ((wrap64 (a1 * 96)) : Int).toNat) ++ t332).size + (a0.extract ((wrap64 ((wrap64 (a1 * 96)) + a2)) : Int).toNat a0.size).size ≤ 9223372036854775807 then (some (((a0.extract 0 ((wrap64 (a1 * 96)) : Int).toNat) ++ t332) ++ (a0.extract ((wrap64 ((wrap64 (a1 * 96)) + a2)) : Int).toNat a0.size), 0)) else (none)) else (none)) else (none)) else (none))) else (none)) else (none)) = some (r1, r2) := by rw [if_pos rfl] at H; exact H
 clear H
 have H := H1
 clear H1
 obtain ⟨ji10, hji10⟩ : ∃ j_ : Int, (wrap64 (a1 * 96)) = j_ := ⟨_, rfl⟩
 replace H : (if 0 ≤ (ji10) then (if (ji10) ≤ (a0.size : Int) then ((skiffref1_full.f k a2).bind fun t332 => (if (a0.extract 0 ((ji10) : Int).toNat).size + t332.size ≤ 9223372036854775807 then (if 0 ≤ (wrap64 ((ji10) + a2)) then (if (wrap64 ((ji10) + a2)) ≤ (a0.size : Int) then (if ((a0.extract 0 ((ji10) : Int).toNat) ++ t332).size + (a0.extract ((wrap64 ((ji10) + a2)) : Int).toNat a0.size).size ≤ 9223372036854775807 then (some (((a0.extract 0 ((ji10) : Int).toNat) ++ t332) ++ (a0.extract ((wrap64 ((ji10) + a2)) : Int).toNat a0.size), 0)) else (none)) else (none)) else (none)) else (none))) else (none)) else (none)) = some (r1, r2) := by first | (rw [hji10] at H; exact H) | (simp only [hji10] at H ⊢; exact H)
 (try rw [hji10] at A4)
 (try rw [hji10] at A6)
 (try rw [hji10] at A8)
 have hji10w : (IntKind.i64.wrap (a1 * 96)) = ji10 := (i64_w _).trans hji10
 by_cases c11 : 0 ≤ (ji10)
 rotate_left
 ·rw [if_neg c11] at H
  exact absurd H (by simp)
 rw [if_pos c11] at H
 have c11b0 := eq_true c11
 have c11b1 : decide (0 ≤ (ji10)) = true := decide_eq_true c11
 clear c11
 by_cases c12 : (ji10) ≤ (a0.size : Int)
 rotate_left
 ·rw [if_neg c12] at H
  exact absurd H (by simp)
 rw [if_pos c12] at H
 have c12b0 := eq_true c12
 have c12b1 : decide ((ji10) ≤ (a0.size : Int)) = true := decide_eq_true c12
 clear c12
 replace H := Option.bind_eq_some_iff.mp H
 obtain ⟨t332, A130, H⟩ := H
 (try dsimp only at H)
 have A13 := Aside0.mk A130
 clear A130
 by_cases c14 : (a0.extract 0 ((ji10) : Int).toNat).size + t332.size ≤ 9223372036854775807
 rotate_left
 ·rw [if_neg c14] at H
  exact absurd H (by simp)
 rw [if_pos c14] at H
 have c14b0 := eq_true c14
 have c14b1 : decide ((a0.extract 0 ((ji10) : Int).toNat).size + t332.size ≤ 9223372036854775807) = true := decide_eq_true c14
 try have c14b2 : (9223372036854775807 < (a0.extract 0 ((ji10) : Int).toNat).size + t332.size) = False := eq_false (Nat.not_lt.2 c14)
 obtain ⟨ji15, hji15⟩ : ∃ j_ : Int, (wrap64 ((ji10) + a2)) = j_ := ⟨_, rfl⟩
 replace H : (if 0 ≤ (ji15) then (if (ji15) ≤ (a0.size : Int) then (if ((a0.extract 0 ((ji10) : Int).toNat) ++ t332).size + (a0.extract ((ji15) : Int).toNat a0.size).size ≤ 9223372036854775807 then (some (((a0.extract 0 ((ji10) : Int).toNat) ++ t332) ++ (a0.extract ((ji15) : Int).toNat a0.size), 0)) else (none)) else (none)) else (none)) = some (r1, r2) := by first | (rw [hji15] at H; exact H) | (simp only [hji15] at H ⊢; exact H)
 (try rw [hji15] at A4)
 (try rw [hji15] at A6)
 (try rw [hji15] at A8)
 (try rw [hji15] at A13)
 have hji15w : (IntKind.i64.wrap ((ji10) + a2)) = ji15 := (i64_w _).trans hji15
 by_cases c16 : 0 ≤ (ji15)
 rotate_left
 ·rw [if_neg c16] at H
  exact absurd H (by simp)
 rw [if_pos c16] at H
 have c16b0 := eq_true c16
 have c16b1 : decide (0 ≤ (ji15)) = true := decide_eq_true c16
 clear c16
 by_cases c17 : (ji15) ≤ (a0.size : Int)
 rotate_left
 ·rw [if_neg c17] at H
  exact absurd H (by simp)
 rw [if_pos c17] at H
 have c17b0 := eq_true c17
 have c17b1 : decide ((ji15) ≤ (a0.size : Int)) = true := decide_eq_true c17
 clear c17
 by_cases c18 : ((a0.extract 0 ((ji10) : Int).toNat) ++ t332).size + (a0.extract ((ji15) : Int).toNat a0.size).size ≤ 9223372036854775807
 rotate_left
 ·rw [if_neg c18] at H
  exact absurd H (by simp)
 rw [if_pos c18] at H
 have c18b0 := eq_true c18
 have c18b1 : decide (((a0.extract 0 ((ji10) : Int).toNat) ++ t332).size + (a0.extract ((ji15) : Int).toNat a0.size).size ≤ 9223372036854775807) = true := decide_eq_true c18
 try have c18b2 : (9223372036854775807 < ((a0.extract 0 ((ji10) : Int).toNat) ++ t332).size + (a0.extract ((ji15) : Int).toNat a0.size).size) = False := eq_false (Nat.not_lt.2 c18)
 simp only [Option.some.injEq, Prod.mk.injEq] at H
 obtain ⟨rfl, rfl⟩ := H
 have q0_ : 0 ≤ ji10 := of_eq_true c11b0
 have q1_ : ji10 ≤ (a0.size : Int) := of_eq_true c12b0
 have q2_ : 0 ≤ ji15 := of_eq_true c16b0
 have q3_ : ji15 ≤ (a0.size : Int) := of_eq_true c17b0
 have z1_ : (a0.extract 0 ((ji10) : Int).toNat).size = ji10.toNat := by rw [ByteArray.size_extract]; omega
 have z2_ : (a0.extract ((ji15) : Int).toNat a0.size).size = a0.size - ji15.toNat := by rw [ByteArray.size_extract]; omega
 have m1_ : (9223372036854775807 < ji10.toNat + t332.size) = False := eq_false (by have h_ := of_eq_true c14b0; rw [z1_] at h_; omega)
 have m2_ : (9223372036854775807 < ji10.toNat + t332.size + (a0.size - ji15.toNat)) = False := eq_false (by have h_ := of_eq_true c18b0; rw [ByteArray.size_append, z1_, z2_] at h_; omega)
 clear q0_ q1_ q2_ q3_ z1_ z2_
 go_enter Try.func85, Try.ntmps85
 try go_wp2_with (first | ((with_reducible refine gate_callee (f := 34) rfl ?_); refine goesL_ (some 10) rfl rfl Try.func34 (by kernel_rfl) rfl #[.string a0] rfl q1_ ?_; (with_reducible refine (skiffref1_FlashMay.calls a0 true _ A4.out).mono ?_); rintro e w' ⟨rfl, ⟨nd, rfl⟩⟩; refine ⟨_, rfl, ?_⟩) | (go_at_call 40; (with_reducible refine (PBase.skiffref1_upTo.calls a1 0 7 true _ A6.out).mono ?_); rintro e w' ⟨rfl, ⟨nd, rfl⟩⟩) | (go_at_call 40; (with_reducible refine (PBase.skiffref1_upTo.calls a2 0 96 true _ A8.out).mono ?_); rintro e w' ⟨rfl, ⟨nd, rfl⟩⟩))
 replace HB := Aside0.mk (below_drew1 HB.out)
 refine start_ (n := 14) (S := fun w' => True) (ds := []) #[false, false, false, false, false, false, false, false, false, false, false, false, false, false] (by kernel_rfl) rfl rfl trivial (fun hHeld => ?_); refine with_tabW skiffref1_Worn.tab4 skiffref1_Worn.bits4 (fun HT_ HW_ => ?_)
 generalize w.drew = w19 at HB hHeld ⊢
 refine pure_ (i := 0) (N := some 24) (v := ?_) (a' := ?_) #[true, false, false, false, false, false, false, false, false, false, false, false, false, false] rfl rfl (any_of HT_.out (by kernel_rfl)) (fun _ _ _ h => h) (Or.inl ⟨by rfl, ?_⟩) ?_ ?_
 rotate_left
 ·intro w'
  go_simp
  with_reducible rfl
 rotate_left
 ·simp only [Act.put, sl1_, sl2_, sl3_, i64_w, i32_w]
  rfl
 refine pure_ (i := 1) (N := some 25) (v := ?_) (a' := ?_) #[true, true, false, false, false, false, false, false, false, false, false, false, false, false] rfl rfl (any_of HT_.out (by kernel_rfl)) (fun _ _ _ h => h) (Or.inl ⟨by rfl, ?_⟩) ?_ ?_
 rotate_left
 ·intro w'
  go_simp
  with_reducible rfl
 rotate_left
 ·simp only [Act.put, sl1_, sl2_, sl3_, i64_w, i32_w]
  rfl
 refine pure_ (i := 2) (N := some 26) (v := ?_) (a' := ?_) #[true, true, true, false, false, false, false, false, false, false, false, false, false, false] rfl rfl (any_of HT_.out (by kernel_rfl)) (fun _ _ _ h => h) (Or.inl ⟨by rfl, ?_⟩) ?_ ?_
 rotate_left
 ·intro w'
  go_simp
  with_reducible rfl
 rotate_left
 ·simp only [Act.put, sl1_, sl2_, sl3_, i64_w, i32_w]
  rfl
 refine pure_ (i := 3) (N := some 27) (v := ?_) (a' := ?_) #[true, true, true, true, false, false, false, false, false, false, false, false, false, false] rfl rfl (any_of HT_.out (by kernel_rfl)) (fun _ _ _ h => h) (Or.inl ⟨by rfl, ?_⟩) ?_ ?_
 rotate_left
 ·intro w'
  go_simp
  with_reducible rfl
 rotate_left
 ·simp only [Act.put, sl1_, sl2_, sl3_, i64_w, i32_w]
  rfl
 refine pure_ (i := 6) (N := some 30) (v := ?_) (a' := ?_) #[true, true, true, true, false, false, true, false, false, false, false, false, false, false] rfl rfl (any_of HT_.out (by kernel_rfl)) (fun _ _ _ h => h) (Or.inl ⟨by rfl, ?_⟩) ?_ ?_
 rotate_left
 ·intro w'
  go_simp
  with_reducible rfl
 rotate_left
 ·simp only [Act.put, sl1_, sl2_, sl3_, i64_w, i32_w]
  rfl
 refine pure_ (i := 7) (N := some 31) (v := ?_) (a' := ?_) #[true, true, true, true, false, false, true, true, false, false, false, false, false, false] rfl rfl (any_of HT_.out (by kernel_rfl)) (fun _ _ _ h => h) (Or.inl ⟨by rfl, ?_⟩) ?_ ?_
 rotate_left
 ·intro w'
  go_simp
  with_reducible rfl
 rotate_left
 ·simp only [Act.put, sl1_, sl2_, sl3_, i64_w, i32_w]
  rfl
 refine pure_ (i := 8) (N := some 32) (v := ?_) (a' := ?_) #[true, true, true, true, false, false, true, true, true, false, false, false, false, false] rfl rfl (any_of HT_.out (by kernel_rfl)) (fun _ _ _ h => h) (Or.inl ⟨by rfl, ?_⟩) ?_ ?_
 rotate_left
 ·intro w'
  go_simp
  with_reducible rfl
 rotate_left
 ·simp only [Act.put, sl1_, sl2_, sl3_, i64_w, i32_w]
  rfl
 refine pure_ (i := 9) (N := some 33) (v := ?_) (a' := ?_) #[true, true, true, true, false, false, true, true, true, true, false, false, false, false] rfl rfl (any_of HT_.out (by kernel_rfl)) (fun _ _ _ h => h) (Or.inl ⟨by rfl, ?_⟩) ?_ ?_
 rotate_left
 ·intro w'
  go_simp
  with_reducible rfl
 rotate_left
 ·simp only [Act.put, sl1_, sl2_, sl3_, i64_w, i32_w]
  rfl
 refine pure_ (i := 10) (N := some 34) (v := ?_) (a' := ?_) #[true, true, true, true, false, false, true, true, true, true, true, false, false, false] rfl rfl (any_of HT_.out (by kernel_rfl)) (fun _ _ _ h => h) (Or.inl ⟨by rfl, ?_⟩) ?_ ?_
 rotate_left
 ·intro w'
  go_simp
  with_reducible rfl
 rotate_left
 ·simp only [Act.put, sl1_, sl2_, sl3_, i64_w, i32_w]
  rfl
 refine one_ (i := 4) (N := some 28) #[true, true, true, true, true, false, true, true, true, true, true, false, false, false] rfl rfl (one_of HT_.out (by kernel_rfl)) (by decide) (fun K hK => ?_)
 refine goes_ Try.func37 (by kernel_rfl) rfl #[.int .i64 a2] (by rfl) rfl rfl q1_ ?_
 with_reducible refine (skiffref1_full.calls k a2 t332 _ A13.out).mono ?_
 rintro e w20 ⟨rfl, hb⟩
 refine ⟨_, rfl, ?_⟩
 replace HB := Aside0.mk (below_step (by repeat (first | (with_reducible first | exact HB.out | apply below_alloc | apply pw_below_drewN | apply below_drew1) | exact HB.out | exact Below.refl _ _)) hb)
 (try clear hb)
 (try clear hb2)
 (try clear hk)
 (try clear hi)
 refine hK.out _ _ trivial (fun hHeld => ?_)
 clear hK K
 refine norm_ (a' := ?_) ?_ ?_
 rotate_left
 ·show Act.put _ (some 28) _ = _
  simp only [Act.put, sl1_, sl2_, sl3_, i64_w, i32_w]
  rfl
 refine pure_ (i := 5) (N := some 29) (v := ?_) (a' := ?_) #[true, true, true, true, true, true, true, true, true, true, true, false, false, false] rfl rfl (any_of HT_.out (by kernel_rfl)) (fun _ _ _ h => h) (Or.inl ⟨by rfl, ?_⟩) ?_ ?_
 rotate_left
 ·intro w'
  go_simp
  with_reducible rfl
 rotate_left
 ·simp only [Act.put, sl1_, sl2_, sl3_, i64_w, i32_w]
  rfl
 refine pure_ (i := 11) (N := some 35) (v := ?_) (a' := ?_) #[true, true, true, true, true, true, true, true, true, true, true, true, false, false] rfl rfl (any_of HT_.out (by kernel_rfl)) (fun _ _ _ h => h) (Or.inl ⟨by rfl, ?_⟩) ?_ ?_
 rotate_left
 ·intro w'
  go_simp
  with_reducible rfl
 rotate_left
 ·simp only [Act.put, sl1_, sl2_, sl3_, i64_w, i32_w]
  rfl
 refine pure_ (i := 12) (N := some 6) (v := ?_) (a' := ?_) #[true, true, true, true, true, true, true, true, true, true, true, true, true, false] rfl rfl (any_of HT_.out (by kernel_rfl)) (fun _ _ _ h => h) (Or.inl ⟨by rfl, ?_⟩) ?_ ?_
 rotate_left
 ·intro w'
  go_simp
  with_reducible rfl
 rotate_left
 ·simp only [Act.put, sl1_, sl2_, sl3_, i64_w, i32_w]
  rfl
 refine pure_ (i := 13) (N := some 7) (v := ?_) (a' := ?_) #[true, true, true, true, true, true, true, true, true, true, true, true, true, true] rfl rfl (any_of HT_.out (by kernel_rfl)) (fun _ _ _ h => h) (Or.inl ⟨by rfl, ?_⟩) ?_ ?_
 rotate_left
 ·intro w'
  go_simp
  with_reducible rfl
 rotate_left
 ·simp only [Act.put, sl1_, sl2_, sl3_, i64_w, i32_w]
  rfl
 refine done_ (done_of HT_.out (by kernel_rfl)) ?_
 try go_wp2
 go_ret2
 exact ⟨by first | rfl | (simp [errW_none, errW_some] <;> rfl) | (simp only [← hji10, ← hji15]; first | rfl | (simp [errW_none, errW_some] <;> rfl)) | (simp [*, errW_none, errW_some] <;> rfl), by repeat (first | (with_reducible first | exact HB.out | apply below_alloc | apply pw_below_drewN | apply below_drew1) | exact HB.out | exact Below.refl _ _)⟩
def skiffref1_Cut.j0 : Nat → ByteArray → Int → Bool → Bool → Int → ByteArray → Option (ByteArray × Int)
 | 0, _, _, _, _, _, _ => none
 | k + 1, x0, x2, x20, x334000, x334001, x334002 => if x20 = true then (some ((⟨#[]⟩ : ByteArray), 300)) else (if x334000 = true then ((skiffref1_Worn.f k x0 (wrap64 (Int.tdiv x334001 96)) x2).bind fun bt337 => (some (bt337.1, bt337.2))) else ((Hand.skiffref1_Torn.f x0 x334001 x334002 (mn x2 32)).bind fun bt339 => (some (bt339.1, bt339.2))))
def skiffref1_Cut.f (k : Nat) (a0 : ByteArray) (a1_0 : Bool) (a1_1 : Int) (a1_2 : ByteArray) (a2 : Int) : Option (ByteArray × Int) := (skiffref1_FlashMay.f a0).bind fun t334 => (if t334 = true then ((skiffref1_OpMay.f a1_0 a1_1 a1_2).bind fun t335 => (if t335 = true then ((PBase.skiffref1_upTo.f a2 0 96).bind fun t336 => (skiffref1_Cut.j0 k a0 a2 (!t336) a1_0 a1_1 a1_2)) else (skiffref1_Cut.j0 k a0 a2 true a1_0 a1_1 a1_2))) else (skiffref1_Cut.j0 k a0 a2 true a1_0 a1_1 a1_2))
set_option maxHeartbeats 8000000 in
set_option maxRecDepth 100000 in
theorem skiffref1_Cut.calls (k : Nat) (a0 : ByteArray) (a1_0 : Bool) (a1_1 : Int) (a1_2 : ByteArray) (a2 : Int) (r1 : ByteArray) (r2 : Int) (w : World) (h : skiffref1_Cut.f k a0 a1_0 a1_1 a1_2 a2 = some (r1, r2)) :
  Calls Try.prog 67 #[.string a0, .agg #[.bool a1_0, .int .i64 a1_1, .string a1_2], .int .i64 a2] w fun e w' => e = .returned (.tuple #[.string r1, .int .i64 r2]) ∧ Below w.heap.size w w' := by
 have hu87 := Try.underlying87
 have HB := Aside0.mk (Below.refl w.heap.size w)
 have H : ((skiffref1_FlashMay.f a0).bind fun t334 => (if t334 = true then ((skiffref1_OpMay.f a1_0 a1_1 a1_2).bind fun t335 => (if t335 = true then ((PBase.skiffref1_upTo.f a2 0 96).bind fun t336 => (skiffref1_Cut.j0 k a0 a2 (!t336) a1_0 a1_1 a1_2)) else (skiffref1_Cut.j0 k a0 a2 true a1_0 a1_1 a1_2))) else (skiffref1_Cut.j0 k a0 a2 true a1_0 a1_1 a1_2))) = some (r1, r2) := h
 clear h
 have HC4 := Aside0.mk H
 clear H
 go_enter Try.func67, Try.ntmps67
 go_upto_region 1 with (first | ((with_reducible refine gate_dst (N := 4) rfl ?_); refine box_event ?hg (N := 4) ?hd (cs := #[.bool a1_0, .int .i64 a1_1, .string a1_2]) (t := 87) ?hr ?_; (case hd => rfl); (case hg => rfl); (case hr => first | (go_simp; done) | (go_simp; rfl)); intro gb333 hg w5 hbox hb; have BK333 := Aside0.mk (hbox); have GW333 := Aside0.mk ((by rw [hg]; exact (below_size q2_) : w.heap.size ≤ gb333)); have GE333 := Aside0.mk ((by rw [hg]; exact (below_size q2_) : w.heap.size ≤ gb333)); replace HB := Aside0.mk (below_step q2_ hb); clear hb hbox hg))
 (try simp only [Act.put, sl1_, sl2_, sl3_])
 go_cut [20] (fun v20 wc => ∃ (kq : Nat) (x20_3 : Bool), v20 = .bool x20_3 ∧ Aside0 (skiffref1_Cut.j0 kq a0 a2 x20_3 a1_0 a1_1 a1_2 = some (r1, r2)) ∧ Aside0 (kq ≤ k) ∧ Aside0 (wc.heap[gb333]? = some (.cells #[.bool a1_0, .int .i64 a1_1, .string a1_2] 87 (0, 0))) ∧ Aside0 (Below w.heap.size w wc))
 case first =>
  have H := HC4.out
  clear HC4
  replace H := Option.bind_eq_some_iff.mp H
  obtain ⟨t334, A60, H⟩ := H
  (try dsimp only at H)
  have A6 := Aside0.mk A60
  clear A60
  by_cases c7 : t334 = true
  rotate_left
  ·replace c7 := Bool.eq_false_iff.mpr c7
   subst c7
   have H1 : (skiffref1_Cut.j0 k a0 a2 true a1_0 a1_1 a1_2) = some (r1, r2) := by rw [if_neg (show ¬ (false = true) by decide)] at H; exact H
   clear H
   have H := H1
   clear H1
   have H' := Aside0.mk H
   clear H
   go_wp2_with (first | ((with_reducible refine gate_callee (f := 34) rfl ?_); refine goesL_ (some 9) rfl rfl Try.func34 (by kernel_rfl) rfl #[.string a0] rfl q1_ ?_; (with_reducible refine (skiffref1_FlashMay.calls a0 false _ A6.out).mono ?_); rintro e w' ⟨rfl, ⟨nd, rfl⟩⟩; refine ⟨_, rfl, ?_⟩))
   go_meet
   case rel => exact ⟨_, (true), q17_, H', ⟨by first | omega | exact Nat.le_refl _⟩, ⟨by (with_reducible repeat (first | refine blk_drewN ?_ _ | refine blk_drew ?_ | refine blk_alloc ?_ _)); exact BK333.out⟩, ⟨by repeat (first | (with_reducible first | exact HB.out | apply below_alloc | apply pw_below_drewN | apply below_drew1 | refine below_set ?_ GE333.out) | exact HB.out)⟩⟩
  subst c7
  have H1 : ((skiffref1_OpMay.f a1_0 a1_1 a1_2).bind fun t335 => (if t335 = true then ((PBase.skiffref1_upTo.f a2 0 96).bind fun t336 => (skiffref1_Cut.j0 k a0 a2 (!t336) a1_0 a1_1 a1_2)) else (skiffref1_Cut.j0 k a0 a2 true a1_0 a1_1 a1_2))) = some (r1, r2) := by rw [if_pos rfl] at H; exact H
  clear H
  have H := H1
  clear H1
  replace H := Option.bind_eq_some_iff.mp H
  obtain ⟨t335, A80, H⟩ := H
  (try dsimp only at H)
  have A8 := Aside0.mk A80
  clear A80
  by_cases c9 : t335 = true
  rotate_left
  ·replace c9 := Bool.eq_false_iff.mpr c9
   subst c9
   have H1 : (skiffref1_Cut.j0 k a0 a2 true a1_0 a1_1 a1_2) = some (r1, r2) := by rw [if_neg (show ¬ (false = true) by decide)] at H; exact H
   clear H
   have H := H1
   clear H1
   have H' := Aside0.mk H
   clear H
   go_wp2_with (first | ((with_reducible refine gate_callee (f := 34) rfl ?_); refine goesL_ (some 9) rfl rfl Try.func34 (by kernel_rfl) rfl #[.string a0] rfl q1_ ?_; (with_reducible refine (skiffref1_FlashMay.calls a0 true _ A6.out).mono ?_); rintro e w' ⟨rfl, ⟨nd, rfl⟩⟩; refine ⟨_, rfl, ?_⟩; obtain ⟨hcz13_0, hcz13_1, hcz13_2, hfz13_0, hfz13_1, hfz13_2⟩ := cells3_ BK333.out) | (go_at_call 84; (with_reducible refine (skiffref1_OpMay.calls a1_0 a1_1 a1_2 false _ A8.out).mono ?_); rintro e w14 ⟨rfl, hb⟩; replace BK333 := Aside0.mk (blk_below (g := gb333) q112_ hb); replace HB := Aside0.mk (below_step q107_ hb); (try clear hb); (try clear hb2); (try clear hk); (try clear hi)))
   go_meet
   case rel => exact ⟨_, (true), q17_, H', ⟨by first | omega | exact Nat.le_refl _⟩, ⟨by (with_reducible repeat (first | refine blk_drewN ?_ _ | refine blk_drew ?_ | refine blk_alloc ?_ _)); exact BK333.out⟩, ⟨by repeat (first | (with_reducible first | exact HB.out | apply below_alloc | apply pw_below_drewN | apply below_drew1 | refine below_set ?_ GE333.out) | exact HB.out)⟩⟩
  subst c9
  have H1 : ((PBase.skiffref1_upTo.f a2 0 96).bind fun t336 => (skiffref1_Cut.j0 k a0 a2 (!t336) a1_0 a1_1 a1_2)) = some (r1, r2) := by rw [if_pos rfl] at H; exact H
  clear H
  have H := H1
  clear H1
  replace H := Option.bind_eq_some_iff.mp H
  obtain ⟨t336, A100, H⟩ := H
  (try dsimp only at H)
  have A10 := Aside0.mk A100
  clear A100
  have H' := Aside0.mk H
  clear H
  go_wp2_with (first | ((with_reducible refine gate_callee (f := 34) rfl ?_); refine goesL_ (some 9) rfl rfl Try.func34 (by kernel_rfl) rfl #[.string a0] rfl q1_ ?_; (with_reducible refine (skiffref1_FlashMay.calls a0 true _ A6.out).mono ?_); rintro e w' ⟨rfl, ⟨nd, rfl⟩⟩; refine ⟨_, rfl, ?_⟩; obtain ⟨hcz11_0, hcz11_1, hcz11_2, hfz11_0, hfz11_1, hfz11_2⟩ := cells3_ BK333.out) | (go_at_call 84; (with_reducible refine (skiffref1_OpMay.calls a1_0 a1_1 a1_2 true _ A8.out).mono ?_); rintro e w12 ⟨rfl, hb⟩; replace BK333 := Aside0.mk (blk_below (g := gb333) q112_ hb); replace HB := Aside0.mk (below_step q107_ hb); (try clear hb); (try clear hb2); (try clear hk); (try clear hi)) | (go_at_call 40; (with_reducible refine (PBase.skiffref1_upTo.calls a2 0 96 t336 _ A10.out).mono ?_); rintro e w' ⟨rfl, ⟨nd, rfl⟩⟩))
  go_meet
  case rel => exact ⟨_, (!t336), q17_, H', ⟨by first | omega | exact Nat.le_refl _⟩, ⟨by (with_reducible repeat (first | refine blk_drewN ?_ _ | refine blk_drew ?_ | refine blk_alloc ?_ _)); exact BK333.out⟩, ⟨by repeat (first | (with_reducible first | exact HB.out | apply below_alloc | apply pw_below_drewN | apply below_drew1 | refine below_set ?_ GE333.out) | exact HB.out)⟩⟩
 case rest =>
  clear HC4
  try clear p2
  try clear c3
  try clear c6
  try clear c7
  try clear c9
  try clear hcz11_0
  try clear hcz11_1
  try clear hcz11_2
  try clear hcz13_0
  try clear hcz13_1
  try clear hcz13_2
  try clear hfz11_0
  try clear hfz11_1
  try clear hfz11_2
  try clear hfz13_0
  try clear hfz13_1
  try clear hfz13_2
  obtain ⟨kq, x20_3, rfl, HA, HJ3, BK333, HB⟩ := hcut
  cases kq with
  | zero => exact absurd HA.out (by simp [skiffref1_Cut.j0])
  | succ kj3 =>
   have H := HA.out
   clear HA
   simp only [skiffref1_Cut.j0] at H
   by_cases c15 : x20_3 = true
   ·subst c15
    have H1 : (some ((⟨#[]⟩ : ByteArray), 300)) = some (r1, r2) := by rw [if_pos rfl] at H; exact H
    clear H
    have H := H1
    clear H1
    simp only [Option.some.injEq, Prod.mk.injEq] at H
    obtain ⟨rfl, rfl⟩ := H
    go_wp2
    go_ret2
    exact ⟨by first | rfl | (simp [errW_none, errW_some] <;> rfl) | (simp [*, errW_none, errW_some] <;> rfl), by repeat (first | (with_reducible first | exact HB.out | apply below_alloc | apply pw_below_drewN | apply below_drew1 | refine below_set ?_ GE333.out) | exact HB.out)⟩
   replace c15 := Bool.eq_false_iff.mpr c15
   subst c15
   have H1 : (if a1_0 = true then ((skiffref1_Worn.f kj3 a0 (wrap64 (Int.tdiv a1_1 96)) a2).bind fun bt337 => (some (bt337.1, bt337.2))) else ((Hand.skiffref1_Torn.f a0 a1_1 a1_2 (mn a2 32)).bind fun bt339 => (some (bt339.1, bt339.2)))) = some (r1, r2) := by rw [if_neg (show ¬ (false = true) by decide)] at H; exact H
   clear H
   have H := H1
   clear H1
   by_cases c16 : a1_0 = true
   ·subst c16
    have H1 : ((skiffref1_Worn.f kj3 a0 (wrap64 (Int.tdiv a1_1 96)) a2).bind fun bt337 => (some (bt337.1, bt337.2))) = some (r1, r2) := by rw [if_pos rfl] at H; exact H
    clear H
    have H := H1
    clear H1
    replace H := Option.bind_eq_some_iff.mp H
    obtain ⟨⟨t337, t338⟩, A170, H⟩ := H
    replace H : (some (t337, t338)) = some (r1, r2) := H
    have A17 := Aside0.mk A170
    clear A170
    simp only [Option.some.injEq, Prod.mk.injEq] at H
    obtain ⟨rfl, rfl⟩ := H
    obtain ⟨hcz18_0, hcz18_1, hcz18_2, hfz18_0, hfz18_1, hfz18_2⟩ := cells3_ BK333.out
    go_wp2_with (first | ((with_reducible refine gate_callee (f := 85) rfl ?_); refine goesL_ (some 28) rfl rfl Try.func85 (by kernel_rfl) rfl #[.string a0, .int .i64 (wrap64 (Int.tdiv a1_1 96)), .int .i64 a2] rfl q1_ ?_; (with_reducible refine (skiffref1_Worn.calls kj3 a0 (wrap64 (Int.tdiv a1_1 96)) a2 t337 t338 _ A17.out).mono ?_); rintro e w19 ⟨rfl, hb⟩; refine ⟨_, rfl, ?_⟩; replace BK333 := Aside0.mk (blk_below (g := gb333) q112_ hb); replace HB := Aside0.mk (below_step q107_ hb); (try clear hb); (try clear hb2); (try clear hk); (try clear hi)))
    go_ret2
    exact ⟨by first | rfl | (simp [errW_none, errW_some] <;> rfl) | (simp [*, errW_none, errW_some] <;> rfl), by repeat (first | (with_reducible first | exact HB.out | apply below_alloc | apply pw_below_drewN | apply below_drew1 | refine below_set ?_ GE333.out) | exact HB.out)⟩
   replace c16 := Bool.eq_false_iff.mpr c16
   subst c16
   have H1 : ((Hand.skiffref1_Torn.f a0 a1_1 a1_2 (mn a2 32)).bind fun bt339 => (some (bt339.1, bt339.2))) = some (r1, r2) := by rw [if_neg (show ¬ (false = true) by decide)] at H; exact H
   clear H
   have H := H1
   clear H1
   obtain ⟨ji20, hji20⟩ : ∃ j_ : Int, (mn a2 32) = j_ := ⟨_, rfl⟩
   replace H : ((Hand.skiffref1_Torn.f a0 a1_1 a1_2 (ji20)).bind fun bt339 => (some (bt339.1, bt339.2))) = some (r1, r2) := by first | (rw [hji20] at H; exact H) | (simp only [hji20] at H ⊢; exact H)
   have hji20_ : (if 32 < a2 then 32 else a2) = ji20 := hji20
   replace H := Option.bind_eq_some_iff.mp H
   obtain ⟨⟨t339, t340⟩, A210, H⟩ := H
   replace H : (some (t339, t340)) = some (r1, r2) := H
   have A21 := Aside0.mk A210
   clear A210
   simp only [Option.some.injEq, Prod.mk.injEq] at H
   obtain ⟨rfl, rfl⟩ := H
   obtain ⟨hcz22_0, hcz22_1, hcz22_2, hfz22_0, hfz22_1, hfz22_2⟩ := cells3_ BK333.out
   go_wp2_with (first | ((with_reducible refine gate_callee (f := 21) rfl ?_); refine goesL_ (some 38) rfl rfl Try.func21 (by kernel_rfl) rfl #[.string a0, .int .i64 a1_1, .string a1_2, .int .i64 ji20] rfl (by (try simp only [List.map_toArray, List.map_cons, List.map_nil]); first | done | (simp only [hji20]; rfl) | rfl | (simp only [List.length_drop, List.length_take]; rfl)) ?_; (with_reducible refine (Hand.skiffref1_Torn.calls a0 a1_1 a1_2 ji20 t339 t340 _ A21.out).mono ?_); rintro e w23 ⟨rfl, hb⟩; refine ⟨_, rfl, ?_⟩; replace BK333 := Aside0.mk (blk_below (g := gb333) q112_ hb); replace HB := Aside0.mk (below_step q107_ hb); (try clear hb); (try clear hb2); (try clear hk); (try clear hi)))
   go_ret2
   exact ⟨by first | rfl | (simp [errW_none, errW_some] <;> rfl) | (simp only [← hji20]; first | rfl | (simp [errW_none, errW_some] <;> rfl)) | (simp [*, errW_none, errW_some] <;> rfl), by repeat (first | (with_reducible first | exact HB.out | apply below_alloc | apply pw_below_drewN | apply below_drew1 | refine below_set ?_ GE333.out) | exact HB.out)⟩
def skiffref1_Do.f (k : Nat) (a0 : ByteArray) (a1_0 : Bool) (a1_1 : Int) (a1_2 : ByteArray) : Option (ByteArray × Int) := (skiffref1_Cut.f k a0 a1_0 a1_1 a1_2 96).bind fun bt342 => (some (bt342.1, bt342.2))
set_option maxHeartbeats 8000000 in
set_option maxRecDepth 100000 in
theorem skiffref1_Do.calls (k : Nat) (a0 : ByteArray) (a1_0 : Bool) (a1_1 : Int) (a1_2 : ByteArray) (r1 : ByteArray) (r2 : Int) (w : World) (h : skiffref1_Do.f k a0 a1_0 a1_1 a1_2 = some (r1, r2)) :
  Calls Try.prog 43 #[.string a0, .agg #[.bool a1_0, .int .i64 a1_1, .string a1_2]] w fun e w' => e = .returned (.tuple #[.string r1, .int .i64 r2]) ∧ Below w.heap.size w w' := by
 have hu87 := Try.underlying87
 have HB := Aside0.mk (Below.refl w.heap.size w)
 have H : ((skiffref1_Cut.f k a0 a1_0 a1_1 a1_2 96).bind fun bt342 => (some (bt342.1, bt342.2))) = some (r1, r2) := h
 clear h
 replace H := Option.bind_eq_some_iff.mp H
 obtain ⟨⟨t342, t343⟩, A30, H⟩ := H
 replace H : (some (t342, t343)) = some (r1, r2) := H
 have A3 := Aside0.mk A30
 clear A30
 simp only [Option.some.injEq, Prod.mk.injEq] at H
 obtain ⟨rfl, rfl⟩ := H
 go_enter Try.func43, Try.ntmps43
 go_wp2_with (first | ((with_reducible refine gate_dst (N := 3) rfl ?_); refine box_event ?hg (N := 3) ?hd (cs := #[.bool a1_0, .int .i64 a1_1, .string a1_2]) (t := 87) ?hr ?_; (case hd => rfl); (case hg => rfl); (case hr => first | (go_simp; done) | (go_simp; rfl)); intro gb341 hg w4 hbox hb; have BK341 := Aside0.mk (hbox); have GW341 := Aside0.mk ((by rw [hg]; exact (below_size q2_) : w.heap.size ≤ gb341)); have GE341 := Aside0.mk ((by rw [hg]; exact (below_size q2_) : w.heap.size ≤ gb341)); replace HB := Aside0.mk (below_step q2_ hb); clear hb hbox hg; obtain ⟨hcz5_0, hcz5_1, hcz5_2, hfz5_0, hfz5_1, hfz5_2⟩ := cells3_ BK341.out) | ((with_reducible refine gate_callee (f := 67) rfl ?_); refine goesL_ (some 8) rfl rfl Try.func67 (by kernel_rfl) rfl #[.string a0, .agg #[.bool a1_0, .int .i64 a1_1, .string a1_2], .int .i64 96] rfl q1_ ?_; (with_reducible refine (skiffref1_Cut.calls k a0 a1_0 a1_1 a1_2 96 t342 t343 _ A3.out).mono ?_); rintro e w6 ⟨rfl, hb⟩; refine ⟨_, rfl, ?_⟩; replace BK341 := Aside0.mk (blk_below (g := gb341) (by (with_reducible repeat (first | refine blk_drewN ?_ _ | refine blk_drew ?_ | refine blk_alloc ?_ _)); exact BK341.out) hb); replace HB := Aside0.mk (below_step (by repeat (first | (with_reducible first | exact HB.out | apply below_alloc | apply pw_below_drewN | apply below_drew1 | refine below_set ?_ GE341.out) | exact HB.out)) hb); (try clear hb); (try clear hb2); (try clear hk); (try clear hi)))
 go_ret2
 exact ⟨by first | rfl | (simp [errW_none, errW_some] <;> rfl) | (simp [*, errW_none, errW_some] <;> rfl), by repeat (first | (with_reducible first | exact HB.out | apply below_alloc | apply pw_below_drewN | apply below_drew1 | refine below_set ?_ GE341.out) | exact HB.out)⟩
def skiffref1_NextSeq.l0 : Nat → List (S25) → Int → Int → Option (Int × Int)
 | 0, _, _, _ => none
 | k + 1, x4, x6, x7 => if x7 < (x4.length : Int) then (if 0 ≤ x7 then (skiffref1_NextSeq.l0 k x4 (mx x6 ((rd_T25 x4 x7).f1.f0)) (wrap64 (x7 + 1))) else (none)) else (if x6 = 1048576 then (some (0, 801)) else (some (wrap64 (x6 + 1), 0)))
def skiffref1_NextSeq.f (k : Nat) (a0 : ByteArray) : Option (Int × Int) := (skiffref1_Scan.f k a0).bind fun bt344 => (if bt344.2 = 0 then (skiffref1_NextSeq.l0 k bt344.1 0 0) else (some (0, 800)))
set_option maxHeartbeats 8000000 in
set_option maxRecDepth 100000 in
theorem skiffref1_NextSeq.calls (k : Nat) (a0 : ByteArray) (r1 : Int) (r2 : Int) (w : World) (h : skiffref1_NextSeq.f k a0 = some (r1, r2)) :
  Calls Try.prog 68 #[.string a0] w fun e w' => e = .returned (.tuple #[.int .i64 r1, .int .i64 r2]) ∧ Below w.heap.size w w' := by
 have HB := Aside0.mk (Below.refl w.heap.size w)
 have H : ((skiffref1_Scan.f k a0).bind fun bt344 => (if bt344.2 = 0 then (skiffref1_NextSeq.l0 k bt344.1 0 0) else (some (0, 800)))) = some (r1, r2) := h
 clear h
 replace H := Option.bind_eq_some_iff.mp H
 obtain ⟨⟨t344, t345⟩, A20, H⟩ := H
 (try dsimp only at H)
 have A2 := Aside0.mk A20
 clear A20
 by_cases c3 : t345 = 0
 rotate_left
 ·rw [if_neg c3] at H
  have c3b0 : (t345 == 0) = false := beq_eq_false_iff_ne.mpr c3
  have c3b1 : (t345 != 0) = true := bne_iff_ne.mpr c3
  simp only [Option.some.injEq, Prod.mk.injEq] at H
  obtain ⟨rfl, rfl⟩ := H
  go_enter Try.func68, Try.ntmps68
  go_wp2_with (first | ((with_reducible refine gate_callee (f := 15) rfl ?_); refine goesL_ (some 10) rfl rfl Try.func15 (by kernel_rfl) rfl #[.string a0] rfl q1_ ?_; (with_reducible refine (skiffref1_Scan.calls k a0 t344 t345 _ A2.out).mono ?_); rintro e w12 ⟨v346, rfl, ho0, hb⟩; refine ⟨_, rfl, ?_⟩; have HO347 := Aside0.mk (Kd.R_lower ho0 (below_size q2_)); replace HB := Aside0.mk (below_step q2_ hb); (try clear hb); (try clear hb2); (try clear hk); (try clear hi); (try clear ho0)))
  go_ret2
  exact ⟨by first | rfl | (simp [errW_none, errW_some] <;> rfl) | (simp [*, errW_none, errW_some] <;> rfl), by repeat (first | (with_reducible first | exact HB.out | apply below_alloc | apply pw_below_drewN | apply below_drew1) | exact HB.out)⟩
 rw [if_pos c3] at H
 have c3b0 : (t345 == 0) = true := beq_iff_eq.mpr c3
 have c3b1 : (t345 != 0) = false := bne_eq_false_iff_eq.mpr c3
 clear c3
 have H' := Aside0.mk H
 clear H
 go_enter Try.func68, Try.ntmps68
 go_wp2_with (first | ((with_reducible refine gate_callee (f := 15) rfl ?_); refine goesL_ (some 10) rfl rfl Try.func15 (by kernel_rfl) rfl #[.string a0] rfl q1_ ?_; (with_reducible refine (skiffref1_Scan.calls k a0 t344 t345 _ A2.out).mono ?_); rintro e w4 ⟨v346, rfl, ho0, hb⟩; refine ⟨_, rfl, ?_⟩; have HO347 := Aside0.mk (Kd.R_lower ho0 (below_size q2_)); replace HB := Aside0.mk (below_step q2_ hb); (try clear hb); (try clear hb2); (try clear hk); (try clear hi); (try clear ho0)))
 go_loopg [6, 7] k (fun kq v6 v7 w' => ∃ (x6_1 : Int) (x7_1 : Int), v6 = .int .i64 x6_1 ∧ v7 = .int .i64 x7_1 ∧ Aside0 (skiffref1_NextSeq.l0 kq t344 x6_1 x7_1 = some (r1, r2)) ∧ Aside0 (kq ≤ k) ∧ Aside0 (Kd.R k25 25 w' w.heap.size (fun _ => True) v346 t344) ∧ Aside0 (Below w.heap.size w w'))
 case atStart => exact ⟨(0), (0), q17_, q17_, H', ⟨Nat.le_refl _⟩, ⟨by (with_reducible repeat (first | apply Kd.R_alloc | apply Kd.R_drewN | apply Kd.R_drew)); exact HO347.out⟩, ⟨by repeat (first | (with_reducible first | exact HB.out | apply below_alloc | apply pw_below_drewN | apply below_drew1) | exact HB.out)⟩⟩
 case round =>
  clear H'
  try clear p2
  try clear c3
  try clear c3b0
  try clear c3b1
  obtain ⟨x6_1, x7_1, rfl, rfl, HA, HK1, HO_4, HB⟩ := hrel
  cases gk with
  | zero => exact absurd HA.out (by simp [skiffref1_NextSeq.l0])
  | succ k1 =>
   have H := HA.out
   clear HA
   simp only [skiffref1_NextSeq.l0] at H
   by_cases c5 : x7_1 < (t344.length : Int)
   rotate_left
   ·rw [if_neg c5] at H
    have c5b0 : decide (x7_1 < (t344.length : Int)) = false := decide_eq_false c5
    clear c5
    by_cases c9 : x6_1 = 1048576
    rotate_left
    ·rw [if_neg c9] at H
     have c9b0 : (x6_1 == 1048576) = false := beq_eq_false_iff_ne.mpr c9
     have c9b1 : (x6_1 != 1048576) = true := bne_iff_ne.mpr c9
     simp only [Option.some.injEq, Prod.mk.injEq] at H
     obtain ⟨rfl, rfl⟩ := H
     obtain ⟨Ao11, co11, eo11⟩ := Kd.R_slice HO_4.out
     subst eo11
     go_wp2
     go_ret2
     exact ⟨by first | rfl | (simp [errW_none, errW_some] <;> rfl) | (simp [*, errW_none, errW_some] <;> rfl), by repeat (first | (with_reducible first | exact HB.out | apply below_alloc | apply pw_below_drewN | apply below_drew1) | exact HB.out)⟩
    rw [if_pos c9] at H
    have c9b0 : (x6_1 == 1048576) = true := beq_iff_eq.mpr c9
    have c9b1 : (x6_1 != 1048576) = false := bne_eq_false_iff_eq.mpr c9
    clear c9
    simp only [Option.some.injEq, Prod.mk.injEq] at H
    obtain ⟨rfl, rfl⟩ := H
    obtain ⟨Ao10, co10, eo10⟩ := Kd.R_slice HO_4.out
    subst eo10
    go_wp2
    go_ret2
    exact ⟨by first | rfl | (simp [errW_none, errW_some] <;> rfl) | (simp [*, errW_none, errW_some] <;> rfl), by repeat (first | (with_reducible first | exact HB.out | apply below_alloc | apply pw_below_drewN | apply below_drew1) | exact HB.out)⟩
   rw [if_pos c5] at H
   have c5b0 : decide (x7_1 < (t344.length : Int)) = true := decide_eq_true c5
   clear c5
   by_cases c6 : 0 ≤ x7_1
   rotate_left
   ·rw [if_neg c6] at H
    exact absurd H (by simp)
   rw [if_pos c6] at H
   have c6b0 : decide (0 ≤ x7_1) = true := decide_eq_true c6
   clear c6
   obtain ⟨ji7, hji7⟩ : ∃ j_ : Int, (mx x6_1 ((rd_T25 t344 x7_1).f1.f0)) = j_ := ⟨_, rfl⟩
   replace H : (skiffref1_NextSeq.l0 k1 t344 ji7 (wrap64 (x7_1 + 1))) = some (r1, r2) := by first | (rw [hji7] at H; exact H) | (simp only [hji7] at H ⊢; exact H)
   have hji7_ : (if x6_1 < ((rd_T25 t344 x7_1).f1.f0) then ((rd_T25 t344 x7_1).f1.f0) else x6_1) = ji7 := hji7
   have H' := Aside0.mk H
   clear H
   obtain ⟨Ao8, co8, eo8⟩ := Kd.R_slice HO_4.out
   subst eo8
   have p348 : 0 ≤ (x7_1 : Int) := of_decide_eq_true q16_
   have q348 : x7_1 < (t344.length : Int) := of_decide_eq_true q16_
   obtain ⟨ad348, e348, hx348_0, hx348_1, hx348_2, hx348_3, hx348_4⟩ := at_T25 (Kd.R_reads' HO_4.out).2.2 x7_1 p348 q348
   cases e348
   replace p348 := eq_true p348
   replace q348 := eq_true q348
   go_wp2
   go_roundg k1
   case measure => have := HK1.out; omega
   case rel => exact ⟨(ji7), (wrap64 (x7_1 + 1)), (by first | rfl | (simp; done) | (simp only [← hji7] <;> (first | rfl | simp)) | (simp [*]; done)), q17_, H', ⟨by have := HK1.out; omega⟩, ⟨by (with_reducible repeat (first | apply Kd.R_alloc | apply Kd.R_drewN | apply Kd.R_drew)); exact HO_4.out⟩, ⟨by repeat (first | (with_reducible first | exact HB.out | apply below_alloc | apply pw_below_drewN | apply below_drew1) | exact HB.out)⟩⟩
def skiffref1_RecordOf.j0 : Nat → ByteArray → Int → Int → Int → Bool → Option (Int × Int × Int × Int × Int)
 | 0, _, _, _, _, _ => none
 | k + 1, x0, x1, x2, x8, x27 => if x27 = true then (some (0, 0, 0, 0, 900)) else ((skiffref1_NextSeq.f k x0).bind fun bt354 => (if bt354.2 = 0 then (if 0 ≤ x8 then (if x8 ≤ (wrap64 (x8 + x2)) then (if (wrap64 (x8 + x2)) ≤ (x0.size : Int) then ((skiffref1_Crc.f k (x0.extract (x8 : Int).toNat ((wrap64 (x8 + x2)) : Int).toNat)).bind fun t356 => (some (bt354.1, x1, x2, t356, 0))) else (none)) else (none)) else (none)) else (some (0, 0, 0, 0, bt354.2))))
def skiffref1_RecordOf.f (k : Nat) (a0 : ByteArray) (a1 : Int) (a2 : Int) : Option (Int × Int × Int × Int × Int) := (skiffref1_Base.f a1).bind fun bt350 => ((skiffref1_FlashMay.f a0).bind fun t352 => (if t352 = true then (if bt350.2 = 0 then ((PBase.skiffref1_upTo.f a2 1 288).bind fun t353 => (skiffref1_RecordOf.j0 k a0 a1 a2 bt350.1 (!t353))) else (skiffref1_RecordOf.j0 k a0 a1 a2 bt350.1 true)) else (skiffref1_RecordOf.j0 k a0 a1 a2 bt350.1 true)))
set_option maxHeartbeats 8000000 in
set_option maxRecDepth 100000 in
theorem skiffref1_RecordOf.calls (k : Nat) (a0 : ByteArray) (a1 : Int) (a2 : Int) (r1 : Int) (r2 : Int) (r3 : Int) (r4 : Int) (r5 : Int) (w : World) (h : skiffref1_RecordOf.f k a0 a1 a2 = some (r1, r2, r3, r4, r5)) :
  Calls Try.prog 44 #[.string a0, .int .i64 a1, .int .i64 a2] w fun e w' => e = .returned (.tuple #[.agg #[.int .i64 r1, .int .i64 r2, .int .i64 r3, .int .i64 r4], .int .i64 r5]) ∧ Below w.heap.size w w' := by
 have hu23 := Try.underlying23
 have HB := Aside0.mk (Below.refl w.heap.size w)
 have H : ((skiffref1_Base.f a1).bind fun bt350 => ((skiffref1_FlashMay.f a0).bind fun t352 => (if t352 = true then (if bt350.2 = 0 then ((PBase.skiffref1_upTo.f a2 1 288).bind fun t353 => (skiffref1_RecordOf.j0 k a0 a1 a2 bt350.1 (!t353))) else (skiffref1_RecordOf.j0 k a0 a1 a2 bt350.1 true)) else (skiffref1_RecordOf.j0 k a0 a1 a2 bt350.1 true)))) = some (r1, r2, r3, r4, r5) := h
 clear h
 replace H := Option.bind_eq_some_iff.mp H
 obtain ⟨⟨t350, t351⟩, A40, H⟩ := H
 (try dsimp only at H)
 have A4 := Aside0.mk A40
 clear A40
 have HC5 := Aside0.mk H
 clear H
 go_enter Try.func44, Try.ntmps44
 go_upto_region 2 with (first | ((with_reducible refine gate_dst (N := 6) rfl ?_); refine box_event ?hg (N := 6) ?hd (cs := #[.int .i64 0, .int .i64 0, .int .i64 0, .int .i64 0]) (t := 23) ?hr ?_; (case hd => rfl); (case hg => rfl); (case hr => first | (go_simp; done) | (go_simp; rfl)); intro gb349 hg w6 hbox hb; have BK349 := Aside0.mk (hbox); have GW349 := Aside0.mk ((by rw [hg]; exact (below_size q2_) : w.heap.size ≤ gb349)); have GE349 := Aside0.mk ((by rw [hg]; exact (below_size q2_) : w.heap.size ≤ gb349)); replace HB := Aside0.mk (below_step q2_ hb); clear hb hbox hg) | ((with_reducible refine gate_callee (f := 20) rfl ?_); refine goesL_ (some 13) rfl rfl Try.func20 (by kernel_rfl) rfl #[.int .i64 a1] rfl q1_ ?_; (with_reducible refine (skiffref1_Base.calls a1 t350 t351 _ A4.out).mono ?_); rintro e w' ⟨rfl, ⟨nd, rfl⟩⟩; refine ⟨_, rfl, ?_⟩))
 (try simp only [Act.put, sl1_, sl2_, sl3_])
 go_cut [27] (fun v27 wc => ∃ (kq : Nat) (x27_4 : Bool), v27 = .bool x27_4 ∧ Aside0 (skiffref1_RecordOf.j0 kq a0 a1 a2 t350 x27_4 = some (r1, r2, r3, r4, r5)) ∧ Aside0 (kq ≤ k) ∧ Aside0 (wc.heap[gb349]? = some (.cells #[.int .i64 0, .int .i64 0, .int .i64 0, .int .i64 0] 23 (0, 0))) ∧ Aside0 (Below w.heap.size w wc))
 case first =>
  have H := HC5.out
  clear HC5
  replace H := Option.bind_eq_some_iff.mp H
  obtain ⟨t352, A70, H⟩ := H
  (try dsimp only at H)
  have A7 := Aside0.mk A70
  clear A70
  by_cases c8 : t352 = true
  rotate_left
  ·replace c8 := Bool.eq_false_iff.mpr c8
   subst c8
   have H1 : (skiffref1_RecordOf.j0 k a0 a1 a2 t350 true) = some (r1, r2, r3, r4, r5) := by rw [if_neg (show ¬ (false = true) by decide)] at H; exact H
   clear H
   have H := H1
   clear H1
   have H' := Aside0.mk H
   clear H
   go_wp2_with (first | ((with_reducible refine gate_callee (f := 34) rfl ?_); refine goesL_ (some 17) rfl rfl Try.func34 (by kernel_rfl) rfl #[.string a0] rfl q1_ ?_; (with_reducible refine (skiffref1_FlashMay.calls a0 false _ A7.out).mono ?_); rintro e w' ⟨rfl, ⟨nd, rfl⟩⟩; refine ⟨_, rfl, ?_⟩))
   go_meet
   case rel => exact ⟨_, (true), q17_, H', ⟨by first | omega | exact Nat.le_refl _⟩, ⟨by (with_reducible repeat (first | refine blk_drewN ?_ _ | refine blk_drew ?_ | refine blk_alloc ?_ _)); exact BK349.out⟩, ⟨by repeat (first | (with_reducible first | exact HB.out | apply below_alloc | apply pw_below_drewN | apply below_drew1 | refine below_set ?_ GE349.out) | exact HB.out)⟩⟩
  subst c8
  have H1 : (if t351 = 0 then ((PBase.skiffref1_upTo.f a2 1 288).bind fun t353 => (skiffref1_RecordOf.j0 k a0 a1 a2 t350 (!t353))) else (skiffref1_RecordOf.j0 k a0 a1 a2 t350 true)) = some (r1, r2, r3, r4, r5) := by rw [if_pos rfl] at H; exact H
  clear H
  have H := H1
  clear H1
  by_cases c9 : t351 = 0
  rotate_left
  ·rw [if_neg c9] at H
   have c9b0 : (t351 == 0) = false := beq_eq_false_iff_ne.mpr c9
   have c9b1 : (t351 != 0) = true := bne_iff_ne.mpr c9
   (first | rw [c9b0] | (simp only [i64_w, i32_w]; rw [c9b0]) | skip)
   have H' := Aside0.mk H
   clear H
   go_wp2_with (first | ((with_reducible refine gate_callee (f := 34) rfl ?_); refine goesL_ (some 17) rfl rfl Try.func34 (by kernel_rfl) rfl #[.string a0] rfl q1_ ?_; (with_reducible refine (skiffref1_FlashMay.calls a0 true _ A7.out).mono ?_); rintro e w' ⟨rfl, ⟨nd, rfl⟩⟩; refine ⟨_, rfl, ?_⟩))
   go_meet
   case rel => exact ⟨_, (true), q17_, H', ⟨by first | omega | exact Nat.le_refl _⟩, ⟨by (with_reducible repeat (first | refine blk_drewN ?_ _ | refine blk_drew ?_ | refine blk_alloc ?_ _)); exact BK349.out⟩, ⟨by repeat (first | (with_reducible first | exact HB.out | apply below_alloc | apply pw_below_drewN | apply below_drew1 | refine below_set ?_ GE349.out) | exact HB.out)⟩⟩
  rw [if_pos c9] at H
  have c9b0 : (t351 == 0) = true := beq_iff_eq.mpr c9
  have c9b1 : (t351 != 0) = false := bne_eq_false_iff_eq.mpr c9
  clear c9
  (first | rw [c9b0] | (simp only [i64_w, i32_w]; rw [c9b0]) | skip)
  replace H := Option.bind_eq_some_iff.mp H
  obtain ⟨t353, A100, H⟩ := H
  (try dsimp only at H)
  have A10 := Aside0.mk A100
  clear A100
  have H' := Aside0.mk H
  clear H
  go_wp2_with (first | ((with_reducible refine gate_callee (f := 34) rfl ?_); refine goesL_ (some 17) rfl rfl Try.func34 (by kernel_rfl) rfl #[.string a0] rfl q1_ ?_; (with_reducible refine (skiffref1_FlashMay.calls a0 true _ A7.out).mono ?_); rintro e w' ⟨rfl, ⟨nd, rfl⟩⟩; refine ⟨_, rfl, ?_⟩) | (go_at_call 40; (with_reducible refine (PBase.skiffref1_upTo.calls a2 1 288 t353 _ A10.out).mono ?_); rintro e w' ⟨rfl, ⟨nd, rfl⟩⟩))
  go_meet
  case rel => exact ⟨_, (!t353), q17_, H', ⟨by first | omega | exact Nat.le_refl _⟩, ⟨by (with_reducible repeat (first | refine blk_drewN ?_ _ | refine blk_drew ?_ | refine blk_alloc ?_ _)); exact BK349.out⟩, ⟨by repeat (first | (with_reducible first | exact HB.out | apply below_alloc | apply pw_below_drewN | apply below_drew1 | refine below_set ?_ GE349.out) | exact HB.out)⟩⟩
 case rest =>
  clear HC5
  try clear p2
  try clear c3
  try clear c8
  try clear c9
  try clear c9b0
  try clear c9b1
  obtain ⟨kq, x27_4, rfl, HA, HJ4, BK349, HB⟩ := hcut
  cases kq with
  | zero => exact absurd HA.out (by simp [skiffref1_RecordOf.j0])
  | succ kj4 =>
   have H := HA.out
   clear HA
   simp only [skiffref1_RecordOf.j0] at H
   by_cases c11 : x27_4 = true
   ·subst c11
    have H1 : (some (0, 0, 0, 0, 900)) = some (r1, r2, r3, r4, r5) := by rw [if_pos rfl] at H; exact H
    clear H
    have H := H1
    clear H1
    simp only [Option.some.injEq, Prod.mk.injEq] at H
    obtain ⟨rfl, rfl, rfl, rfl, rfl⟩ := H
    obtain ⟨hcz12_0, hcz12_1, hcz12_2, hcz12_3, hfz12_0, hfz12_1, hfz12_2, hfz12_3⟩ := cells4_ BK349.out
    go_wp2
    refine bodyPost_ret (results_ct rfl _ _ gb349 23 #[.int .i64 0, .int .i64 0, .int .i64 0, .int .i64 0] (0, 0) _ rfl q95_ Try.underlying23 rfl (by kernel_rfl)) rfl ?_
    exact ⟨by first | rfl | (simp [errW_none, errW_some] <;> rfl) | (simp [*, errW_none, errW_some] <;> rfl), by repeat (first | (with_reducible first | exact HB.out | apply below_alloc | apply pw_below_drewN | apply below_drew1 | refine below_set ?_ GE349.out) | exact HB.out)⟩
   replace c11 := Bool.eq_false_iff.mpr c11
   subst c11
   have H1 : ((skiffref1_NextSeq.f kj4 a0).bind fun bt354 => (if bt354.2 = 0 then (if 0 ≤ t350 then (if t350 ≤ (wrap64 (t350 + a2)) then (if (wrap64 (t350 + a2)) ≤ (a0.size : Int) then ((skiffref1_Crc.f kj4 (a0.extract (t350 : Int).toNat ((wrap64 (t350 + a2)) : Int).toNat)).bind fun t356 => (some (bt354.1, a1, a2, t356, 0))) else (none)) else (none)) else (none)) else (some (0, 0, 0, 0, bt354.2)))) = some (r1, r2, r3, r4, r5) := by rw [if_neg (show ¬ (false = true) by decide)] at H; exact H
   clear H
   have H := H1
   clear H1
   replace H := Option.bind_eq_some_iff.mp H
   obtain ⟨⟨t354, t355⟩, A130, H⟩ := H
   (try dsimp only at H)
   have A13 := Aside0.mk A130
   clear A130
   by_cases c14 : t355 = 0
   rotate_left
   ·rw [if_neg c14] at H
    have c14b0 : (t355 == 0) = false := beq_eq_false_iff_ne.mpr c14
    have c14b1 : (t355 != 0) = true := bne_iff_ne.mpr c14
    simp only [Option.some.injEq, Prod.mk.injEq] at H
    obtain ⟨rfl, rfl, rfl, rfl, rfl⟩ := H
    go_wp2_with (first | ((with_reducible refine gate_callee (f := 68) rfl ?_); refine goesL_ (some 31) rfl rfl Try.func68 (by kernel_rfl) rfl #[.string a0] rfl q1_ ?_; (with_reducible refine (skiffref1_NextSeq.calls kj4 a0 t354 t355 _ A13.out).mono ?_); rintro e w21 ⟨rfl, hb⟩; refine ⟨_, rfl, ?_⟩; replace BK349 := Aside0.mk (blk_below (g := gb349) (by (with_reducible repeat (first | refine blk_drewN ?_ _ | refine blk_drew ?_ | refine blk_alloc ?_ _)); exact BK349.out) hb); replace HB := Aside0.mk (below_step q117_ hb); (try clear hb); (try clear hb2); (try clear hk); (try clear hi); obtain ⟨hcz22_0, hcz22_1, hcz22_2, hcz22_3, hfz22_0, hfz22_1, hfz22_2, hfz22_3⟩ := cells4_ BK349.out))
    refine bodyPost_ret (results_ct rfl _ _ gb349 23 #[.int .i64 0, .int .i64 0, .int .i64 0, .int .i64 0] (0, 0) _ rfl q95_ Try.underlying23 rfl (by kernel_rfl)) rfl ?_
    exact ⟨by first | rfl | (simp [errW_none, errW_some] <;> rfl) | (simp [*, errW_none, errW_some] <;> rfl), by repeat (first | (with_reducible first | exact HB.out | apply below_alloc | apply pw_below_drewN | apply below_drew1 | refine below_set ?_ GE349.out) | exact HB.out)⟩
   rw [if_pos c14] at H
   have c14b0 : (t355 == 0) = true := beq_iff_eq.mpr c14
   have c14b1 : (t355 != 0) = false := bne_eq_false_iff_eq.mpr c14
   clear c14
   by_cases c15 : 0 ≤ t350
   rotate_left
   ·rw [if_neg c15] at H
    exact absurd H (by simp)
   rw [if_pos c15] at H
   have c15b0 := eq_true c15
   have c15b1 : decide (0 ≤ t350) = true := decide_eq_true c15
   clear c15
   by_cases c16 : t350 ≤ (wrap64 (t350 + a2))
   rotate_left
   ·rw [if_neg c16] at H
    exact absurd H (by simp)
   rw [if_pos c16] at H
   have c16b0 := eq_true c16
   have c16b1 : decide (t350 ≤ (wrap64 (t350 + a2))) = true := decide_eq_true c16
   by_cases c17 : (wrap64 (t350 + a2)) ≤ (a0.size : Int)
   rotate_left
   ·rw [if_neg c17] at H
    exact absurd H (by simp)
   rw [if_pos c17] at H
   have c17b0 := eq_true c17
   have c17b1 : decide ((wrap64 (t350 + a2)) ≤ (a0.size : Int)) = true := decide_eq_true c17
   replace H := Option.bind_eq_some_iff.mp H
   obtain ⟨t356, A180, H⟩ := H
   replace H : (some (t354, a1, a2, t356, 0)) = some (r1, r2, r3, r4, r5) := H
   have A18 := Aside0.mk A180
   clear A180
   simp only [Option.some.injEq, Prod.mk.injEq] at H
   obtain ⟨rfl, rfl, rfl, rfl, rfl⟩ := H
   go_wp2_with (first | ((with_reducible refine gate_callee (f := 68) rfl ?_); refine goesL_ (some 31) rfl rfl Try.func68 (by kernel_rfl) rfl #[.string a0] rfl q1_ ?_; (with_reducible refine (skiffref1_NextSeq.calls kj4 a0 t354 t355 _ A13.out).mono ?_); rintro e w19 ⟨rfl, hb⟩; refine ⟨_, rfl, ?_⟩; replace BK349 := Aside0.mk (blk_below (g := gb349) (by (with_reducible repeat (first | refine blk_drewN ?_ _ | refine blk_drew ?_ | refine blk_alloc ?_ _)); exact BK349.out) hb); replace HB := Aside0.mk (below_step q117_ hb); (try clear hb); (try clear hb2); (try clear hk); (try clear hi)) | ((with_reducible refine gate_callee (f := 18) rfl ?_); refine goesL_ (some 47) rfl rfl Try.func18 (by kernel_rfl) rfl #[.string (a0.extract (t350 : Int).toNat ((wrap64 (t350 + a2)) : Int).toNat)] rfl q1_ ?_; (with_reducible refine (skiffref1_Crc.calls kj4 (a0.extract (t350 : Int).toNat ((wrap64 (t350 + a2)) : Int).toNat) t356 _ A18.out).mono ?_); rintro e w' ⟨rfl, ⟨nd, rfl⟩⟩; refine ⟨_, rfl, ?_⟩; (try (rw [drewN_self w19]; generalize hq_ : World.drewN w19 _ = w19; have n0_ : Aside0 (w19.heap[gb349]? = some (.cells #[.int .i64 0, .int .i64 0, .int .i64 0, .int .i64 0] 23 (0, 0))) := ⟨by rw [← hq_]; exact (by (with_reducible repeat (first | refine blk_drewN ?_ _ | refine blk_drew ?_ | refine blk_alloc ?_ _)); exact BK349.out)⟩; have n1_ : Aside0 (Below w.heap.size w w19) := ⟨by rw [← hq_]; exact q117_⟩; clear BK349 HB hq_; have BK349 := n0_; have HB := n1_; clear n0_ n1_)); obtain ⟨hcz20_0, hcz20_1, hcz20_2, hcz20_3, hfz20_0, hfz20_1, hfz20_2, hfz20_3⟩ := cells4_ BK349.out))
   refine bodyPost_ret (results_ct rfl _ _ gb349 23 #[.int .i64 t354, .int .i64 a1, .int .i64 a2, .int .i64 t356] (0, 0) _ rfl q95_ Try.underlying23 rfl (by kernel_rfl)) rfl ?_
   exact ⟨by first | rfl | (simp [errW_none, errW_some] <;> rfl) | (simp [*, errW_none, errW_some] <;> rfl), by repeat (first | (with_reducible first | exact HB.out | apply below_alloc | apply pw_below_drewN | apply below_drew1 | refine below_set ?_ GE349.out) | exact HB.out)⟩
mutual
def skiffref1_FreePlace.j0 : Nat → ByteArray → Int → Bool → Option (Int × Bool × Int)
 | 0, _, _, _ => none
 | k + 1, x0, x1, x15 => if x15 = true then (some (0, false, 500)) else (skiffref1_FreePlace.l0 k x0 x1 (wrap64 (x1 * 96)))
def skiffref1_FreePlace.l0 : Nat → ByteArray → Int → Int → Option (Int × Bool × Int)
 | 0, _, _, _ => none
 | k + 1, x0, x1, x7 => if (wrap64 (x7 + 24)) ≤ (wrap64 ((wrap64 (x1 + 1)) * 96)) then (if 0 ≤ x7 then (if x7 ≤ (wrap64 (x7 + 24)) then (if (wrap64 (x7 + 24)) ≤ (x0.size : Int) then ((skiffref1_full.f k 24).bind fun t359 => (if (x0.extract (x7 : Int).toNat ((wrap64 (x7 + 24)) : Int).toNat).toList = t359.toList then (some (x7, true, 0)) else (skiffref1_FreePlace.l0 k x0 x1 (wrap64 (x7 + 24))))) else (none)) else (none)) else (none)) else (some (0, false, 0))
end
def skiffref1_FreePlace.f (k : Nat) (a0 : ByteArray) (a1 : Int) : Option (Int × Bool × Int) := (skiffref1_FlashMay.f a0).bind fun t357 => (if t357 = true then ((PBase.skiffref1_upTo.f a1 0 1).bind fun t358 => (skiffref1_FreePlace.j0 k a0 a1 (!t358))) else (skiffref1_FreePlace.j0 k a0 a1 true))
set_option maxHeartbeats 8000000 in
set_option maxRecDepth 100000 in
theorem skiffref1_FreePlace.calls (k : Nat) (a0 : ByteArray) (a1 : Int) (r1 : Int) (r2 : Bool) (r3 : Int) (w : World) (h : skiffref1_FreePlace.f k a0 a1 = some (r1, r2, r3)) :
  Calls Try.prog 69 #[.string a0, .int .i64 a1] w fun e w' => e = .returned (.tuple #[.int .i64 r1, .bool r2, .int .i64 r3]) ∧ Below w.heap.size w w' := by
 have HB := Aside0.mk (Below.refl w.heap.size w)
 have H : ((skiffref1_FlashMay.f a0).bind fun t357 => (if t357 = true then ((PBase.skiffref1_upTo.f a1 0 1).bind fun t358 => (skiffref1_FreePlace.j0 k a0 a1 (!t358))) else (skiffref1_FreePlace.j0 k a0 a1 true))) = some (r1, r2, r3) := h
 clear h
 have HC3 := Aside0.mk H
 clear H
 go_enter Try.func69, Try.ntmps69
 go_upto_region 1 with (fail)
 go_cut [15] (fun v15 wc => ∃ (kq : Nat) (x15_2 : Bool), v15 = .bool x15_2 ∧ Aside0 (skiffref1_FreePlace.j0 kq a0 a1 x15_2 = some (r1, r2, r3)) ∧ Aside0 (kq ≤ k) ∧ Aside0 (Below w.heap.size w wc))
 case first =>
  have H := HC3.out
  clear HC3
  replace H := Option.bind_eq_some_iff.mp H
  obtain ⟨t357, A40, H⟩ := H
  (try dsimp only at H)
  have A4 := Aside0.mk A40
  clear A40
  by_cases c5 : t357 = true
  rotate_left
  ·replace c5 := Bool.eq_false_iff.mpr c5
   subst c5
   have H1 : (skiffref1_FreePlace.j0 k a0 a1 true) = some (r1, r2, r3) := by rw [if_neg (show ¬ (false = true) by decide)] at H; exact H
   clear H
   have H := H1
   clear H1
   have H' := Aside0.mk H
   clear H
   go_wp2_with (first | ((with_reducible refine gate_callee (f := 34) rfl ?_); refine goesL_ (some 9) rfl rfl Try.func34 (by kernel_rfl) rfl #[.string a0] rfl q1_ ?_; (with_reducible refine (skiffref1_FlashMay.calls a0 false _ A4.out).mono ?_); rintro e w' ⟨rfl, ⟨nd, rfl⟩⟩; refine ⟨_, rfl, ?_⟩))
   go_meet
   case rel => exact ⟨_, (true), q17_, H', ⟨by first | omega | exact Nat.le_refl _⟩, ⟨by repeat (first | (with_reducible first | exact HB.out | apply below_alloc | apply pw_below_drewN | apply below_drew1) | exact HB.out)⟩⟩
  subst c5
  have H1 : ((PBase.skiffref1_upTo.f a1 0 1).bind fun t358 => (skiffref1_FreePlace.j0 k a0 a1 (!t358))) = some (r1, r2, r3) := by rw [if_pos rfl] at H; exact H
  clear H
  have H := H1
  clear H1
  replace H := Option.bind_eq_some_iff.mp H
  obtain ⟨t358, A60, H⟩ := H
  replace H : (skiffref1_FreePlace.j0 k a0 a1 (!t358)) = some (r1, r2, r3) := H
  have A6 := Aside0.mk A60
  clear A60
  have H' := Aside0.mk H
  clear H
  go_wp2_with (first | ((with_reducible refine gate_callee (f := 34) rfl ?_); refine goesL_ (some 9) rfl rfl Try.func34 (by kernel_rfl) rfl #[.string a0] rfl q1_ ?_; (with_reducible refine (skiffref1_FlashMay.calls a0 true _ A4.out).mono ?_); rintro e w' ⟨rfl, ⟨nd, rfl⟩⟩; refine ⟨_, rfl, ?_⟩) | (go_at_call 40; (with_reducible refine (PBase.skiffref1_upTo.calls a1 0 1 t358 _ A6.out).mono ?_); rintro e w' ⟨rfl, ⟨nd, rfl⟩⟩))
  go_meet
  case rel => exact ⟨_, (!t358), q17_, H', ⟨by first | omega | exact Nat.le_refl _⟩, ⟨by repeat (first | (with_reducible first | exact HB.out | apply below_alloc | apply pw_below_drewN | apply below_drew1) | exact HB.out)⟩⟩
 case rest =>
  clear HC3
  try clear p2
  try clear c3
  try clear c5
  try clear c6
  obtain ⟨kq, x15_2, rfl, HA, HJ2, HB⟩ := hcut
  cases kq with
  | zero => exact absurd HA.out (by simp [skiffref1_FreePlace.j0])
  | succ kj2 =>
   have H := HA.out
   clear HA
   simp only [skiffref1_FreePlace.j0] at H
   by_cases c7 : x15_2 = true
   ·subst c7
    have H1 : (some (0, false, 500)) = some (r1, r2, r3) := by rw [if_pos rfl] at H; exact H
    clear H
    have H := H1
    clear H1
    simp only [Option.some.injEq, Prod.mk.injEq] at H
    obtain ⟨rfl, rfl, rfl⟩ := H
    go_wp2
    go_ret3
    exact ⟨by first | rfl | (simp [errW_none, errW_some] <;> rfl) | (simp [*, errW_none, errW_some] <;> rfl), by repeat (first | (with_reducible first | exact HB.out | apply below_alloc | apply pw_below_drewN | apply below_drew1) | exact HB.out)⟩
   replace c7 := Bool.eq_false_iff.mpr c7
   subst c7
   have H1 : (skiffref1_FreePlace.l0 kj2 a0 a1 (wrap64 (a1 * 96))) = some (r1, r2, r3) := by rw [if_neg (show ¬ (false = true) by decide)] at H; exact H
   clear H
   have H := H1
   clear H1
   have H' := Aside0.mk H
   clear H
   go_wp2
   go_loopg [7] kj2 (fun kq v7 w' => ∃ (x7_2 : Int), v7 = .int .i64 x7_2 ∧ Aside0 (skiffref1_FreePlace.l0 kq a0 a1 x7_2 = some (r1, r2, r3)) ∧ Aside0 (kq ≤ kj2) ∧ Aside0 (Below w.heap.size w w'))
   case atStart => exact ⟨(wrap64 (a1 * 96)), q17_, H', ⟨Nat.le_refl _⟩, ⟨by repeat (first | (with_reducible first | exact HB.out | apply below_alloc | apply pw_below_drewN | apply below_drew1) | exact HB.out)⟩⟩
   case round =>
    clear H'
    try clear p2
    try clear c3
    try clear c5
    try clear c6
    try clear p6
    try clear c7
    try clear p2
    obtain ⟨x7_2, rfl, HA, HK2, HB⟩ := hrel
    cases gk with
    | zero => exact absurd HA.out (by simp [skiffref1_FreePlace.l0])
    | succ k2 =>
     have H := HA.out
     clear HA
     simp only [skiffref1_FreePlace.l0] at H
     by_cases c8 : (wrap64 (x7_2 + 24)) ≤ (wrap64 ((wrap64 (a1 + 1)) * 96))
     rotate_left
     ·rw [if_neg c8] at H
      have c8b0 : decide ((wrap64 (x7_2 + 24)) ≤ (wrap64 ((wrap64 (a1 + 1)) * 96))) = false := decide_eq_false c8
      clear c8
      simp only [Option.some.injEq, Prod.mk.injEq] at H
      obtain ⟨rfl, rfl, rfl⟩ := H
      go_wp2
      go_ret3
      exact ⟨by first | rfl | (simp [errW_none, errW_some] <;> rfl) | (simp [*, errW_none, errW_some] <;> rfl), by repeat (first | (with_reducible first | exact HB.out | apply below_alloc | apply pw_below_drewN | apply below_drew1) | exact HB.out)⟩
     rw [if_pos c8] at H
     have c8b0 : decide ((wrap64 (x7_2 + 24)) ≤ (wrap64 ((wrap64 (a1 + 1)) * 96))) = true := decide_eq_true c8
     clear c8
     by_cases c9 : 0 ≤ x7_2
     rotate_left
     ·rw [if_neg c9] at H
      exact absurd H (by simp)
     rw [if_pos c9] at H
     have c9b0 := eq_true c9
     have c9b1 : decide (0 ≤ x7_2) = true := decide_eq_true c9
     clear c9
     by_cases c10 : x7_2 ≤ (wrap64 (x7_2 + 24))
     rotate_left
     ·rw [if_neg c10] at H
      exact absurd H (by simp)
     rw [if_pos c10] at H
     have c10b0 := eq_true c10
     have c10b1 : decide (x7_2 ≤ (wrap64 (x7_2 + 24))) = true := decide_eq_true c10
     by_cases c11 : (wrap64 (x7_2 + 24)) ≤ (a0.size : Int)
     rotate_left
     ·rw [if_neg c11] at H
      exact absurd H (by simp)
     rw [if_pos c11] at H
     have c11b0 := eq_true c11
     have c11b1 : decide ((wrap64 (x7_2 + 24)) ≤ (a0.size : Int)) = true := decide_eq_true c11
     replace H := Option.bind_eq_some_iff.mp H
     obtain ⟨t359, A120, H⟩ := H
     (try dsimp only at H)
     have A12 := Aside0.mk A120
     clear A120
     by_cases c13 : (a0.extract (x7_2 : Int).toNat ((wrap64 (x7_2 + 24)) : Int).toNat).toList = t359.toList
     ·rw [if_pos c13] at H
      have c13b0 : ((a0.extract (x7_2 : Int).toNat ((wrap64 (x7_2 + 24)) : Int).toNat).toList == t359.toList) = true := beq_iff_eq.mpr c13
      have c13b1 : ((a0.extract (x7_2 : Int).toNat ((wrap64 (x7_2 + 24)) : Int).toNat).toList != t359.toList) = false := bne_eq_false_iff_eq.mpr c13
      clear c13
      simp only [Option.some.injEq, Prod.mk.injEq] at H
      obtain ⟨rfl, rfl, rfl⟩ := H
      try go_wp2
      replace HB := Aside0.mk (below_drew1 HB.out)
      refine start_ (n := 7) (S := fun w' => True) (ds := []) #[false, false, false, false, false, false, false] (by kernel_rfl) rfl rfl trivial (fun hHeld => ?_)
      generalize wr.drew = w14 at HB hHeld ⊢
      refine pure_ (i := 0) (N := some 26) (v := ?_) (a' := ?_) #[true, false, false, false, false, false, false] rfl rfl (by kernel_rfl) (fun _ _ _ h => h) (Or.inl ⟨by rfl, ?_⟩) ?_ ?_
      rotate_left
      ·intro w'
       go_simp
       with_reducible rfl
      rotate_left
      ·simp only [Act.put, sl1_, sl2_, sl3_, i64_w, i32_w]
       rfl
      refine pure_ (i := 1) (N := some 27) (v := ?_) (a' := ?_) #[true, true, false, false, false, false, false] rfl rfl (by kernel_rfl) (fun _ _ _ h => h) (Or.inl ⟨by rfl, ?_⟩) ?_ ?_
      rotate_left
      ·intro w'
       go_simp
       with_reducible rfl
      rotate_left
      ·simp only [Act.put, sl1_, sl2_, sl3_, i64_w, i32_w]
       rfl
      refine pure_ (i := 2) (N := some 28) (v := ?_) (a' := ?_) #[true, true, true, false, false, false, false] rfl rfl (by kernel_rfl) (fun _ _ _ h => h) (Or.inl ⟨by rfl, ?_⟩) ?_ ?_
      rotate_left
      ·intro w'
       go_simp
       with_reducible rfl
      rotate_left
      ·simp only [Act.put, sl1_, sl2_, sl3_, i64_w, i32_w]
       rfl
      refine pure_ (i := 3) (N := some 29) (v := ?_) (a' := ?_) #[true, true, true, true, false, false, false] rfl rfl (by kernel_rfl) (fun _ _ _ h => h) (Or.inl ⟨by rfl, ?_⟩) ?_ ?_
      rotate_left
      ·intro w'
       go_simp
       with_reducible rfl
      rotate_left
      ·simp only [Act.put, sl1_, sl2_, sl3_, i64_w, i32_w]
       rfl
      refine pure_ (i := 4) (N := some 30) (v := ?_) (a' := ?_) #[true, true, true, true, true, false, false] rfl rfl (by kernel_rfl) (fun _ _ _ h => h) (Or.inl ⟨by rfl, ?_⟩) ?_ ?_
      rotate_left
      ·intro w'
       go_simp
       with_reducible rfl
      rotate_left
      ·simp only [Act.put, sl1_, sl2_, sl3_, i64_w, i32_w]
       rfl
      refine one_ (i := 5) (N := some 31) #[true, true, true, true, true, true, false] rfl rfl (by kernel_rfl) (by decide) (fun K hK => ?_)
      refine goes_ Try.func37 (by kernel_rfl) rfl #[.int .i64 24] (by rfl) rfl rfl q1_ ?_
      with_reducible refine (skiffref1_full.calls k2 24 t359 _ A12.out).mono ?_
      rintro e w15 ⟨rfl, hb⟩
      refine ⟨_, rfl, ?_⟩
      replace HB := Aside0.mk (below_step q2_ hb)
      (try clear hb)
      (try clear hb2)
      (try clear hk)
      (try clear hi)
      refine hK.out _ _ trivial (fun hHeld => ?_)
      clear hK K
      refine norm_ (a' := ?_) ?_ ?_
      rotate_left
      ·show Act.put _ (some 31) _ = _
       simp only [Act.put, sl1_, sl2_, sl3_, i64_w, i32_w]
       rfl
      refine pure_ (i := 6) (N := some 32) (v := ?_) (a' := ?_) #[true, true, true, true, true, true, true] rfl rfl (by kernel_rfl) (fun _ _ _ h => h) (Or.inl ⟨by rfl, ?_⟩) ?_ ?_
      rotate_left
      ·intro w'
       go_simp
       with_reducible rfl
      rotate_left
      ·simp only [Act.put, sl1_, sl2_, sl3_, i64_w, i32_w]
       rfl
      refine done_ (by kernel_rfl) ?_
      try go_wp2
      go_ret3
      exact ⟨by first | rfl | (simp [errW_none, errW_some] <;> rfl) | (simp [*, errW_none, errW_some] <;> rfl), by repeat (first | (with_reducible first | exact HB.out | apply below_alloc | apply pw_below_drewN | apply below_drew1) | exact HB.out)⟩
     rw [if_neg c13] at H
     have c13b0 : ((a0.extract (x7_2 : Int).toNat ((wrap64 (x7_2 + 24)) : Int).toNat).toList == t359.toList) = false := beq_eq_false_iff_ne.mpr c13
     have c13b1 : ((a0.extract (x7_2 : Int).toNat ((wrap64 (x7_2 + 24)) : Int).toNat).toList != t359.toList) = true := bne_iff_ne.mpr c13
     have H' := Aside0.mk H
     clear H
     try go_wp2
     replace HB := Aside0.mk (below_drew1 HB.out)
     refine start_ (n := 7) (S := fun w' => True) (ds := []) #[false, false, false, false, false, false, false] (by kernel_rfl) rfl rfl trivial (fun hHeld => ?_)
     generalize wr.drew = w16 at HB hHeld ⊢
     refine pure_ (i := 0) (N := some 26) (v := ?_) (a' := ?_) #[true, false, false, false, false, false, false] rfl rfl (by kernel_rfl) (fun _ _ _ h => h) (Or.inl ⟨by rfl, ?_⟩) ?_ ?_
     rotate_left
     ·intro w'
      go_simp
      with_reducible rfl
     rotate_left
     ·simp only [Act.put, sl1_, sl2_, sl3_, i64_w, i32_w]
      rfl
     refine pure_ (i := 1) (N := some 27) (v := ?_) (a' := ?_) #[true, true, false, false, false, false, false] rfl rfl (by kernel_rfl) (fun _ _ _ h => h) (Or.inl ⟨by rfl, ?_⟩) ?_ ?_
     rotate_left
     ·intro w'
      go_simp
      with_reducible rfl
     rotate_left
     ·simp only [Act.put, sl1_, sl2_, sl3_, i64_w, i32_w]
      rfl
     refine pure_ (i := 2) (N := some 28) (v := ?_) (a' := ?_) #[true, true, true, false, false, false, false] rfl rfl (by kernel_rfl) (fun _ _ _ h => h) (Or.inl ⟨by rfl, ?_⟩) ?_ ?_
     rotate_left
     ·intro w'
      go_simp
      with_reducible rfl
     rotate_left
     ·simp only [Act.put, sl1_, sl2_, sl3_, i64_w, i32_w]
      rfl
     refine pure_ (i := 3) (N := some 29) (v := ?_) (a' := ?_) #[true, true, true, true, false, false, false] rfl rfl (by kernel_rfl) (fun _ _ _ h => h) (Or.inl ⟨by rfl, ?_⟩) ?_ ?_
     rotate_left
     ·intro w'
      go_simp
      with_reducible rfl
     rotate_left
     ·simp only [Act.put, sl1_, sl2_, sl3_, i64_w, i32_w]
      rfl
     refine pure_ (i := 4) (N := some 30) (v := ?_) (a' := ?_) #[true, true, true, true, true, false, false] rfl rfl (by kernel_rfl) (fun _ _ _ h => h) (Or.inl ⟨by rfl, ?_⟩) ?_ ?_
     rotate_left
     ·intro w'
      go_simp
      with_reducible rfl
     rotate_left
     ·simp only [Act.put, sl1_, sl2_, sl3_, i64_w, i32_w]
      rfl
     refine one_ (i := 5) (N := some 31) #[true, true, true, true, true, true, false] rfl rfl (by kernel_rfl) (by decide) (fun K hK => ?_)
     refine goes_ Try.func37 (by kernel_rfl) rfl #[.int .i64 24] (by rfl) rfl rfl q1_ ?_
     with_reducible refine (skiffref1_full.calls k2 24 t359 _ A12.out).mono ?_
     rintro e w17 ⟨rfl, hb⟩
     refine ⟨_, rfl, ?_⟩
     replace HB := Aside0.mk (below_step q2_ hb)
     (try clear hb)
     (try clear hb2)
     (try clear hk)
     (try clear hi)
     refine hK.out _ _ trivial (fun hHeld => ?_)
     clear hK K
     refine norm_ (a' := ?_) ?_ ?_
     rotate_left
     ·show Act.put _ (some 31) _ = _
      simp only [Act.put, sl1_, sl2_, sl3_, i64_w, i32_w]
      rfl
     refine pure_ (i := 6) (N := some 32) (v := ?_) (a' := ?_) #[true, true, true, true, true, true, true] rfl rfl (by kernel_rfl) (fun _ _ _ h => h) (Or.inl ⟨by rfl, ?_⟩) ?_ ?_
     rotate_left
     ·intro w'
      go_simp
      with_reducible rfl
     rotate_left
     ·simp only [Act.put, sl1_, sl2_, sl3_, i64_w, i32_w]
      rfl
     refine done_ (by kernel_rfl) ?_
     try go_wp2
     go_roundg k2
     case measure => have := HJ2.out; have := HK2.out; omega
     case rel => exact ⟨(wrap64 (x7_2 + 24)), q17_, H', ⟨by have := HJ2.out; have := HK2.out; omega⟩, ⟨by repeat (first | (with_reducible first | exact HB.out | apply below_alloc | apply pw_below_drewN | apply below_drew1) | exact HB.out)⟩⟩
mutual
def skiffref1_Append.j0 : Nat → ByteArray → ByteArray → Bool → Option ((List (S87)) × Int)
 | 0, _, _, _ => none
 | k + 1, x0, x6, x27 => if x27 = true then (some (([] : List (S87)), 800)) else ((skiffref1_Active.f k x0).bind fun bt364 => (if bt364.2.2.2.2.2 = 0 then (skiffref1_Append.j1 k x0 x6 (wrap64 (Int.tdiv bt364.1 96))) else (skiffref1_Append.j1 k x0 x6 0)))
def skiffref1_Append.j1 : Nat → ByteArray → ByteArray → Int → Option ((List (S87)) × Int)
 | 0, _, _, _ => none
 | k + 1, x0, x6, x8 => (skiffref1_FreePlace.f k x0 x8).bind fun bt371 => (if bt371.2.1 = true then ((skiffref1_Words.f k bt371.1 x6).bind fun bt374 => (if ([] : List (S87)).length + bt374.1.length < 4398046511104 then (some ((([] : List (S87)) ++ bt374.1), 0)) else (none))) else (if ([] : List (S87)).length < 4398046511104 then ((some (([] : List (S87)) ++ [(⟨true, wrap64 ((wrap64 (1 - x8)) * 96), (⟨#[]⟩ : ByteArray)⟩ : S87)] : List (S87))).bind fun y381 => ((skiffref1_Words.f k (wrap64 ((wrap64 (1 - x8)) * 96)) x6).bind fun bt384 => (if y381.length + bt384.1.length < 4398046511104 then (some ((y381 ++ bt384.1), 0)) else (none)))) else (none)))
end
def skiffref1_Append.f (k : Nat) (a0 : ByteArray) (a1_0 : Int) (a1_1 : Int) (a1_2 : Int) (a1_3 : Int) : Option ((List (S87)) × Int) := (Hand.skiffref1_PutEntry.f k a1_0 a1_1 a1_2 a1_3).bind fun bt361 => ((skiffref1_FlashMay.f a0).bind fun t363 => (if t363 = true then (skiffref1_Append.j0 k a0 bt361.1 (bt361.2 != 0)) else (skiffref1_Append.j0 k a0 bt361.1 true)))
set_option maxHeartbeats 8000000 in
set_option maxRecDepth 100000 in
theorem skiffref1_Append.calls (k : Nat) (a0 : ByteArray) (a1_0 : Int) (a1_1 : Int) (a1_2 : Int) (a1_3 : Int) (r1 : List (S87)) (r2 : Int) (w : World) (h : skiffref1_Append.f k a0 a1_0 a1_1 a1_2 a1_3 = some (r1, r2)) :
  Calls Try.prog 45 #[.string a0, .agg #[.int .i64 a1_0, .int .i64 a1_1, .int .i64 a1_2, .int .i64 a1_3]] w fun e w' => ∃ v0_ : Value, e = .returned (.tuple #[v0_, .int .i64 r2]) ∧ Kd.R k87 87 w' w.heap.size (fun _ => True) v0_ r1 ∧ Below w.heap.size w w' := by
 have hu23 := Try.underlying23
 have hu25 := Try.underlying25
 have hu87 := Try.underlying87
 have HB := Aside0.mk (Below.refl w.heap.size w)
 have H : ((Hand.skiffref1_PutEntry.f k a1_0 a1_1 a1_2 a1_3).bind fun bt361 => ((skiffref1_FlashMay.f a0).bind fun t363 => (if t363 = true then (skiffref1_Append.j0 k a0 bt361.1 (bt361.2 != 0)) else (skiffref1_Append.j0 k a0 bt361.1 true)))) = some (r1, r2) := h
 clear h
 replace H := Option.bind_eq_some_iff.mp H
 obtain ⟨⟨t361, t362⟩, A30, H⟩ := H
 (try dsimp only at H)
 have A3 := Aside0.mk A30
 clear A30
 have HC4 := Aside0.mk H
 clear H
 go_enter Try.func45, Try.ntmps45
 go_upto_region 2 with (first | ((with_reducible refine gate_dst (N := 3) rfl ?_); refine box_event ?hg (N := 3) ?hd (cs := #[.int .i64 a1_0, .int .i64 a1_1, .int .i64 a1_2, .int .i64 a1_3]) (t := 23) ?hr ?_; (case hd => rfl); (case hg => rfl); (case hr => first | (go_simp; done) | (go_simp; rfl)); intro gb360 hg w5 hbox hb; have BK360 := Aside0.mk (hbox); have GW360 := Aside0.mk ((by rw [hg]; exact (below_size q2_) : w.heap.size ≤ gb360)); have GE360 := Aside0.mk ((by rw [hg]; exact (below_size q2_) : w.heap.size ≤ gb360)); replace HB := Aside0.mk (below_step q2_ hb); clear hb hbox hg; obtain ⟨hcz6_0, hcz6_1, hcz6_2, hcz6_3, hfz6_0, hfz6_1, hfz6_2, hfz6_3⟩ := cells4_ BK360.out) | ((with_reducible refine gate_callee (f := 19) rfl ?_); refine goesL_ (some 18) rfl rfl Try.func19 (by kernel_rfl) rfl #[.agg #[.int .i64 a1_0, .int .i64 a1_1, .int .i64 a1_2, .int .i64 a1_3]] rfl q1_ ?_; (with_reducible refine (Hand.skiffref1_PutEntry.calls k a1_0 a1_1 a1_2 a1_3 t361 t362 _ A3.out).mono ?_); rintro e w7 ⟨rfl, hb⟩; refine ⟨_, rfl, ?_⟩; replace BK360 := Aside0.mk (blk_below (g := gb360) q62_ hb); replace HB := Aside0.mk (below_step q88_ hb); (try clear hb); (try clear hb2); (try clear hk); (try clear hi)))
 (try simp only [Act.put, sl1_, sl2_, sl3_])
 go_cut [27] (fun v27 wc => ∃ (kq : Nat) (x27_3 : Bool), v27 = .bool x27_3 ∧ Aside0 (skiffref1_Append.j0 kq a0 t361 x27_3 = some (r1, r2)) ∧ Aside0 (kq ≤ k) ∧ Aside0 (wc.heap[gb360]? = some (.cells #[.int .i64 a1_0, .int .i64 a1_1, .int .i64 a1_2, .int .i64 a1_3] 23 (0, 0))) ∧ Aside0 (Below w.heap.size w wc))
 case first =>
  have H := HC4.out
  clear HC4
  replace H := Option.bind_eq_some_iff.mp H
  obtain ⟨t363, A80, H⟩ := H
  (try dsimp only at H)
  have A8 := Aside0.mk A80
  clear A80
  by_cases c9 : t363 = true
  ·subst c9
   have H1 : (skiffref1_Append.j0 k a0 t361 (t362 != 0)) = some (r1, r2) := by rw [if_pos rfl] at H; exact H
   clear H
   have H := H1
   clear H1
   have H' := Aside0.mk H
   clear H
   go_wp2_with (first | ((with_reducible refine gate_callee (f := 34) rfl ?_); refine goesL_ (some 22) rfl rfl Try.func34 (by kernel_rfl) rfl #[.string a0] rfl q1_ ?_; (with_reducible refine (skiffref1_FlashMay.calls a0 true _ A8.out).mono ?_); rintro e w' ⟨rfl, ⟨nd, rfl⟩⟩; refine ⟨_, rfl, ?_⟩))
   go_meet
   case rel => exact ⟨_, ((t362 != 0)), q17_, H', ⟨by first | omega | exact Nat.le_refl _⟩, ⟨by (with_reducible repeat (first | refine blk_drewN ?_ _ | refine blk_drew ?_ | refine blk_alloc ?_ _)); exact BK360.out⟩, ⟨by repeat (first | (with_reducible first | exact HB.out | apply below_alloc | apply pw_below_drewN | apply below_drew1 | refine below_set ?_ GE360.out) | exact HB.out)⟩⟩
  replace c9 := Bool.eq_false_iff.mpr c9
  subst c9
  have H1 : (skiffref1_Append.j0 k a0 t361 true) = some (r1, r2) := by rw [if_neg (show ¬ (false = true) by decide)] at H; exact H
  clear H
  have H := H1
  clear H1
  have H' := Aside0.mk H
  clear H
  go_wp2_with (first | ((with_reducible refine gate_callee (f := 34) rfl ?_); refine goesL_ (some 22) rfl rfl Try.func34 (by kernel_rfl) rfl #[.string a0] rfl q1_ ?_; (with_reducible refine (skiffref1_FlashMay.calls a0 false _ A8.out).mono ?_); rintro e w' ⟨rfl, ⟨nd, rfl⟩⟩; refine ⟨_, rfl, ?_⟩))
  go_meet
  case rel => exact ⟨_, (true), q17_, H', ⟨by first | omega | exact Nat.le_refl _⟩, ⟨by (with_reducible repeat (first | refine blk_drewN ?_ _ | refine blk_drew ?_ | refine blk_alloc ?_ _)); exact BK360.out⟩, ⟨by repeat (first | (with_reducible first | exact HB.out | apply below_alloc | apply pw_below_drewN | apply below_drew1 | refine below_set ?_ GE360.out) | exact HB.out)⟩⟩
 case rest =>
  clear HC4
  try clear p2
  try clear c3
  try clear c9
  try clear hcz6_0
  try clear hcz6_1
  try clear hcz6_2
  try clear hcz6_3
  try clear hfz6_0
  try clear hfz6_1
  try clear hfz6_2
  try clear hfz6_3
  obtain ⟨kq, x27_3, rfl, HA, HJ3, BK360, HB⟩ := hcut
  cases kq with
  | zero => exact absurd HA.out (by simp [skiffref1_Append.j0])
  | succ kj3 =>
   have H := HA.out
   clear HA
   simp only [skiffref1_Append.j0] at H
   by_cases c10 : x27_3 = true
   ·subst c10
    have H1 : (some (([] : List (S87)), 800)) = some (r1, r2) := by rw [if_pos rfl] at H; exact H
    clear H
    have H := H1
    clear H1
    simp only [Option.some.injEq, Prod.mk.injEq] at H
    obtain ⟨rfl, rfl⟩ := H
    go_wp2
    go_ret2
    exact ⟨_, by first | rfl | (simp [errW_none, errW_some] <;> rfl) | (simp [*, errW_none, errW_some] <;> rfl), by first | exact Kd.R_nil _ _ _ _ _ | exact Kd.N_nil _ _ _ _ _ | exact Kd.V_nil _ _ _ _ _ | exact Kd.Q_nil _ _ _ _ _ | exact Kd.S_nil _ _ _ _ _, by repeat (first | (with_reducible first | exact HB.out | apply below_alloc | apply pw_below_drewN | apply below_drew1 | refine below_set ?_ GE360.out) | exact HB.out)⟩
   replace c10 := Bool.eq_false_iff.mpr c10
   subst c10
   have H1 : ((skiffref1_Active.f kj3 a0).bind fun bt364 => (if bt364.2.2.2.2.2 = 0 then (skiffref1_Append.j1 kj3 a0 t361 (wrap64 (Int.tdiv bt364.1 96))) else (skiffref1_Append.j1 kj3 a0 t361 0))) = some (r1, r2) := by rw [if_neg (show ¬ (false = true) by decide)] at H; exact H
   clear H
   have H := H1
   clear H1
   replace H := Option.bind_eq_some_iff.mp H
   obtain ⟨⟨t364, t365, t366, t367, t368, t369⟩, A110, H⟩ := H
   (try dsimp only at H)
   have A11 := Aside0.mk A110
   clear A110
   have HC12 := Aside0.mk H
   clear H
   go_upto_if 34 with (first | ((with_reducible refine gate_callee (f := 10) rfl ?_); refine goesL_ (some 30) rfl rfl Try.func10 (by kernel_rfl) rfl #[.string a0] rfl q1_ ?_; (with_reducible refine (skiffref1_Active.calls kj3 a0 t364 t365 t366 t367 t368 t369 _ A11.out).mono ?_); rintro e w13 ⟨rfl, hb⟩; refine ⟨_, rfl, ?_⟩; replace BK360 := Aside0.mk (blk_below (g := gb360) q62_ hb); replace HB := Aside0.mk (below_step q88_ hb); (try clear hb); (try clear hb2); (try clear hk); (try clear hi)) | ((with_reducible refine gate_dst (N := 9) rfl ?_); refine box_event ?hg (N := 9) ?hd (cs := #[.int .i64 0, .int .i64 0, .int .i64 0, .int .i64 0, .int .i64 0]) (t := 25) ?hr ?_; (case hd => rfl); (case hg => rfl); (case hr => first | (go_simp; done) | (go_simp; rfl)); intro gb370 hg w14 hbox hb; have BK370 := Aside0.mk (hbox); have GW370 := Aside0.mk ((by rw [hg]; exact (below_size q88_) : w.heap.size ≤ gb370)); have GE370 := Aside0.mk ((by rw [hg]; exact (below_size q88_) : w.heap.size ≤ gb370)); have NB360_370 := Aside0.mk (nl_ (g := gb360) hg q62_); have NB370_360 := Aside0.mk (ng_ (g := gb360) hg q62_); replace BK360 := Aside0.mk (blk_below (g := gb360) q62_ hb); replace HB := Aside0.mk (below_step q88_ hb); clear hb hbox hg; have hnb15 := NB370_360.out; have hnc15 := NB360_370.out; obtain ⟨hcz16_0, hcz16_1, hcz16_2, hcz16_3, hcz16_4, hfz16_0, hfz16_1, hfz16_2, hfz16_3, hfz16_4⟩ := cells5_ BK370.out))
   (try simp only [Act.put, sl1_, sl2_, sl3_])
   go_cut [8] (fun v8 wc => ∃ (kq : Nat) (x8_11 : Int), v8 = .int .i64 x8_11 ∧ Aside0 (skiffref1_Append.j1 kq a0 t361 x8_11 = some (r1, r2)) ∧ Aside0 (kq ≤ kj3) ∧ Aside0 (wc.heap[gb360]? = some (.cells #[.int .i64 a1_0, .int .i64 a1_1, .int .i64 a1_2, .int .i64 a1_3] 23 (0, 0))) ∧ Aside0 (wc.heap[gb370]? = some (.cells #[.int .i64 t364, .int .i64 t365, .int .i64 t366, .int .i64 t367, .int .i64 t368] 25 (0, 0))) ∧ Aside0 (Below w.heap.size w wc))
   case first =>
    have H := HC12.out
    clear HC12
    by_cases c17 : t369 = 0
    rotate_left
    ·rw [if_neg c17] at H
     have c17b0 : (t369 == 0) = false := beq_eq_false_iff_ne.mpr c17
     have c17b1 : (t369 != 0) = true := bne_iff_ne.mpr c17
     (first | rw [c17b0] | (simp only [i64_w, i32_w]; rw [c17b0]) | skip)
     have H' := Aside0.mk H
     clear H
     go_wp2
     go_meet
     case rel => exact ⟨_, (0), q17_, H', ⟨by have := HJ3.out; first | omega | exact Nat.le_refl _⟩, ⟨by (with_reducible repeat (first | refine blk_drewN ?_ _ | refine blk_drew ?_ | refine blk_alloc ?_ _)); (iterate 5 (refine blk_far ?_ NB360_370.out _; (with_reducible repeat (first | refine blk_drewN ?_ _ | refine blk_drew ?_ | refine blk_alloc ?_ _)))); exact BK360.out⟩, ⟨by (with_reducible repeat (first | refine blk_drewN ?_ _ | refine blk_drew ?_ | refine blk_alloc ?_ _)); refine put5_ (cs := #[.int .i64 0, .int .i64 0, .int .i64 0, .int .i64 0, .int .i64 0]) ?_ rfl; (with_reducible repeat (first | refine blk_drewN ?_ _ | refine blk_drew ?_ | refine blk_alloc ?_ _)); exact BK370.out⟩, ⟨by repeat (first | (with_reducible first | exact HB.out | apply below_alloc | apply pw_below_drewN | apply below_drew1 | refine below_set ?_ GE360.out | refine below_set ?_ GE370.out) | exact HB.out)⟩⟩
    rw [if_pos c17] at H
    have c17b0 : (t369 == 0) = true := beq_iff_eq.mpr c17
    have c17b1 : (t369 != 0) = false := bne_eq_false_iff_eq.mpr c17
    clear c17
    (first | rw [c17b0] | (simp only [i64_w, i32_w]; rw [c17b0]) | skip)
    have H' := Aside0.mk H
    clear H
    have hnb18 := NB370_360.out
    have hnc18 := NB360_370.out
    obtain ⟨hcz19_0, hcz19_1, hcz19_2, hcz19_3, hcz19_4, hfz19_0, hfz19_1, hfz19_2, hfz19_3, hfz19_4⟩ := cells5_ BK370.out
    go_wp2
    go_meet
    case rel => exact ⟨_, (wrap64 (Int.tdiv t364 96)), q17_, H', ⟨by have := HJ3.out; first | omega | exact Nat.le_refl _⟩, ⟨by (with_reducible repeat (first | refine blk_drewN ?_ _ | refine blk_drew ?_ | refine blk_alloc ?_ _)); (iterate 5 (refine blk_far ?_ NB360_370.out _; (with_reducible repeat (first | refine blk_drewN ?_ _ | refine blk_drew ?_ | refine blk_alloc ?_ _)))); exact BK360.out⟩, ⟨by (with_reducible repeat (first | refine blk_drewN ?_ _ | refine blk_drew ?_ | refine blk_alloc ?_ _)); refine put5_ (cs := #[.int .i64 0, .int .i64 0, .int .i64 0, .int .i64 0, .int .i64 0]) ?_ rfl; (with_reducible repeat (first | refine blk_drewN ?_ _ | refine blk_drew ?_ | refine blk_alloc ?_ _)); exact BK370.out⟩, ⟨by repeat (first | (with_reducible first | exact HB.out | apply below_alloc | apply pw_below_drewN | apply below_drew1 | refine below_set ?_ GE360.out | refine below_set ?_ GE370.out) | exact HB.out)⟩⟩
   case rest =>
    clear HC12
    try clear p2
    try clear c3
    try clear p6
    try clear c9
    try clear c10
    try clear c15
    try clear c17
    try clear c17b0
    try clear c17b1
    try clear c18
    try clear c19
    try clear hcz16_0
    try clear hcz16_1
    try clear hcz16_2
    try clear hcz16_3
    try clear hcz16_4
    try clear hcz19_0
    try clear hcz19_1
    try clear hcz19_2
    try clear hcz19_3
    try clear hcz19_4
    try clear hcz6_0
    try clear hcz6_1
    try clear hcz6_2
    try clear hcz6_3
    try clear hfz16_0
    try clear hfz16_1
    try clear hfz16_2
    try clear hfz16_3
    try clear hfz16_4
    try clear hfz19_0
    try clear hfz19_1
    try clear hfz19_2
    try clear hfz19_3
    try clear hfz19_4
    try clear hfz6_0
    try clear hfz6_1
    try clear hfz6_2
    try clear hfz6_3
    try clear p2
    obtain ⟨kq, x8_11, rfl, HA, HJ11, BK360, BK370, HB⟩ := hcut
    cases kq with
    | zero => exact absurd HA.out (by simp [skiffref1_Append.j1])
    | succ kj11 =>
     have H := HA.out
     clear HA
     simp only [skiffref1_Append.j1] at H
     replace H := Option.bind_eq_some_iff.mp H
     obtain ⟨⟨t371, t372, t373⟩, A200, H⟩ := H
     (try dsimp only at H)
     have A20 := Aside0.mk A200
     clear A200
     by_cases c21 : t372 = true
     ·subst c21
      have H1 : ((skiffref1_Words.f kj11 t371 t361).bind fun bt374 => (if ([] : List (S87)).length + bt374.1.length < 4398046511104 then (some ((([] : List (S87)) ++ bt374.1), 0)) else (none))) = some (r1, r2) := by rw [if_pos rfl] at H; exact H
      clear H
      have H := H1
      clear H1
      replace H := Option.bind_eq_some_iff.mp H
      obtain ⟨⟨t374, t375⟩, A220, H⟩ := H
      (try dsimp only at H)
      have A22 := Aside0.mk A220
      clear A220
      by_cases c23 : ([] : List (S87)).length + t374.length < 4398046511104
      rotate_left
      ·rw [if_neg c23] at H
       exact absurd H (by simp)
      rw [if_pos c23] at H
      have LMc23 := Aside0.mk c23
      clear c23
      obtain ⟨y378, hy378⟩ : ∃ y_ : List (S87), y_ = (([] : List (S87)) ++ t374) := ⟨_, rfl⟩
      replace H : (some (y378, 0)) = some (r1, r2) := by first | (rw [hy378]; with_reducible exact H) | (have H2_ := (Option.bind_some _ _).symm.trans H; rw [hy378]; with_reducible exact H2_) | (have H2_ := (Option.bind_some _ _).symm.trans H; with_reducible exact H2_) | with_reducible exact H | (rw [hy378]; exact H) | exact H
      have Ny378 := Aside0.mk hy378
      clear hy378
      simp only [Option.some.injEq, Prod.mk.injEq] at H
      obtain ⟨rfl, rfl⟩ := H
      go_wp2_with (first | ((with_reducible refine gate_callee (f := 69) rfl ?_); refine goesL_ (some 41) rfl rfl Try.func69 (by kernel_rfl) rfl #[.string a0, .int .i64 x8_11] rfl q1_ ?_; (with_reducible refine (skiffref1_FreePlace.calls kj11 a0 x8_11 t371 true t373 _ A20.out).mono ?_); rintro e w24 ⟨rfl, hb⟩; refine ⟨_, rfl, ?_⟩; replace BK360 := Aside0.mk (blk_below (g := gb360) q62_ hb); replace BK370 := Aside0.mk (blk_below (g := gb370) q82_ hb); replace HB := Aside0.mk (below_step q28_ hb); (try clear hb); (try clear hb2); (try clear hk); (try clear hi)) | ((with_reducible refine gate_callee (f := 42) rfl ?_); refine goesL_ (some 58) rfl rfl Try.func42 (by kernel_rfl) rfl #[.int .i64 t371, .string t361] rfl q1_ ?_; (with_reducible refine (skiffref1_Words.calls kj11 t371 t361 t374 t375 _ A22.out).mono ?_); rintro e w25 ⟨v376, rfl, ho0, hb⟩; refine ⟨_, rfl, ?_⟩; have HO377 := Aside0.mk (Kd.R_lower ho0 (below_size q28_)); replace BK360 := Aside0.mk (blk_below (g := gb360) q62_ hb); replace BK370 := Aside0.mk (blk_below (g := gb370) q82_ hb); replace HB := Aside0.mk (below_step q28_ hb); (try clear hb); (try clear hb2); (try clear hk); (try clear hi); (try clear ho0); obtain ⟨Ao27, co27, eo27⟩ := Kd.R_slice HO377.out; subst eo27) | ((with_reducible refine gate_builtin (b := .append) (xs := #[.tmp 61, .tmp 62]) rfl ?_); at_builtin; refine Kd.R_append_rows k87 (w0 := w) w.heap.size rfl (.tmp 61) (.tmp 62) 54 87 (.agg #[(.bool false), (.int .i64 0), (.string ⟨#[]⟩)]) 32 rfl Try.underlying54 info87 rfl (by decide) (by omega) (.slice none 0 0) ([] : List (S87)) t374 _ _ _ (fun k_ => some k_ ≠ (.slice Ao27 t374.length co27 : Value).ownBlock) (fun _ => False) rfl rfl ?aO ?aR (fun _ _ h => h) (fun _ h => h.elim) ?aF ?aB ?aS ?aL ?_; (case aR => repeat (first | exact (Kd.R_reads' HO377.out).2.2 | (with_reducible refine Kd.C_alloc ?_ _) | (with_reducible refine Kd.C_drewN ?_ _) | (with_reducible refine Kd.C_drew ?_))); (case aB => exact q28_); (case aF => exact (fun k_ hk => Kd.fresh' (Kd.R_lt (by (with_reducible repeat (first | apply Kd.R_alloc | apply Kd.R_drewN | apply Kd.R_drew)); exact HO377.out)) k_ hk)); (case aO => exact ((Kd.R_nil _ _ _ _ (fun k_ => some k_ ≠ (.slice Ao27 t374.length co27 : Value).ownBlock)))); (case aS => exact (below_size q28_)); (case aL => have := LMc23.out; omega); intro v379 w26 ho hb hg hat; rw [← Ny378.out] at ho; have HO380 := Aside0.mk (ho); replace BK360 := Aside0.mk (blk_grown (g := gb360) (o := .cells #[.int .i64 a1_0, .int .i64 a1_1, .int .i64 a1_2, .int .i64 a1_3] 23 (0, 0)) q62_ hg (by simp [Value.ownBlock])); replace BK370 := Aside0.mk (blk_grown (g := gb370) (o := .cells #[.int .i64 t364, .int .i64 t365, .int .i64 t366, .int .i64 t367, .int .i64 t368] 25 (0, 0)) q82_ hg (by simp [Value.ownBlock])); replace HO377 := Aside0.mk (Kd.R_after (Kd.R_apart_nil (by (with_reducible repeat (first | apply Kd.R_alloc | apply Kd.R_drewN | apply Kd.R_drew)); exact HO377.out)) hg hat); replace HB := Aside0.mk (hb); clear ho hb hg hat))
      go_ret2
      exact ⟨_, by first | rfl | (simp [errW_none, errW_some] <;> rfl) | (simp [*, errW_none, errW_some] <;> rfl), by (with_reducible repeat (first | apply Kd.R_alloc | apply Kd.R_drewN | apply Kd.R_drew)); exact Kd.R_mono HO380.out (fun _ hk => trivial), by repeat (first | (with_reducible first | exact HB.out | apply below_alloc | apply pw_below_drewN | apply below_drew1 | refine below_set ?_ GE360.out | refine below_set ?_ GE370.out) | exact HB.out)⟩
     replace c21 := Bool.eq_false_iff.mpr c21
     subst c21
     have H1 : (if ([] : List (S87)).length < 4398046511104 then ((some (([] : List (S87)) ++ [(⟨true, wrap64 ((wrap64 (1 - x8_11)) * 96), (⟨#[]⟩ : ByteArray)⟩ : S87)] : List (S87))).bind fun y381 => ((skiffref1_Words.f kj11 (wrap64 ((wrap64 (1 - x8_11)) * 96)) t361).bind fun bt384 => (if y381.length + bt384.1.length < 4398046511104 then (some ((y381 ++ bt384.1), 0)) else (none)))) else (none)) = some (r1, r2) := by rw [if_neg (show ¬ (false = true) by decide)] at H; exact H
     clear H
     have H := H1
     clear H1
     by_cases c28 : ([] : List (S87)).length < 4398046511104
     rotate_left
     ·rw [if_neg c28] at H
      exact absurd H (by simp)
     rw [if_pos c28] at H
     have LMc28 := Aside0.mk c28
     clear c28
     obtain ⟨y381, hy381⟩ : ∃ y_ : List (S87), y_ = (([] : List (S87)) ++ [(⟨true, wrap64 ((wrap64 (1 - x8_11)) * 96), (⟨#[]⟩ : ByteArray)⟩ : S87)]) := ⟨_, rfl⟩
     replace H : ((skiffref1_Words.f kj11 (wrap64 ((wrap64 (1 - x8_11)) * 96)) t361).bind fun bt384 => (if y381.length + bt384.1.length < 4398046511104 then (some ((y381 ++ bt384.1), 0)) else (none))) = some (r1, r2) := by first | (rw [hy381]; with_reducible exact H) | (have H2_ := (Option.bind_some _ _).symm.trans H; rw [hy381]; with_reducible exact H2_) | (have H2_ := (Option.bind_some _ _).symm.trans H; with_reducible exact H2_) | with_reducible exact H | (rw [hy381]; exact H) | exact H
     have Ny381 := Aside0.mk hy381
     clear hy381
     replace H := Option.bind_eq_some_iff.mp H
     obtain ⟨⟨t384, t385⟩, A290, H⟩ := H
     (try dsimp only at H)
     have A29 := Aside0.mk A290
     clear A290
     by_cases c30 : y381.length + t384.length < 4398046511104
     rotate_left
     ·rw [if_neg c30] at H
      exact absurd H (by simp)
     rw [if_pos c30] at H
     have LMc30 := Aside0.mk c30
     clear c30
     obtain ⟨y388, hy388⟩ : ∃ y_ : List (S87), y_ = (y381 ++ t384) := ⟨_, rfl⟩
     replace H : (some (y388, 0)) = some (r1, r2) := by first | (rw [hy388]; with_reducible exact H) | (have H2_ := (Option.bind_some _ _).symm.trans H; rw [hy388]; with_reducible exact H2_) | (have H2_ := (Option.bind_some _ _).symm.trans H; with_reducible exact H2_) | with_reducible exact H | (rw [hy388]; exact H) | exact H
     have Ny388 := Aside0.mk hy388
     clear hy388
     simp only [Option.some.injEq, Prod.mk.injEq] at H
     obtain ⟨rfl, rfl⟩ := H
     go_wp2_with (first | ((with_reducible refine gate_callee (f := 69) rfl ?_); refine goesL_ (some 41) rfl rfl Try.func69 (by kernel_rfl) rfl #[.string a0, .int .i64 x8_11] rfl q1_ ?_; (with_reducible refine (skiffref1_FreePlace.calls kj11 a0 x8_11 t371 false t373 _ A20.out).mono ?_); rintro e w31 ⟨rfl, hb⟩; refine ⟨_, rfl, ?_⟩; replace BK360 := Aside0.mk (blk_below (g := gb360) q62_ hb); replace BK370 := Aside0.mk (blk_below (g := gb370) q82_ hb); replace HB := Aside0.mk (below_step q28_ hb); (try clear hb); (try clear hb2); (try clear hk); (try clear hi)) | ((with_reducible refine gate_builtin (b := .append) (xs := #[.tmp 50, .tmp 53]) rfl ?_); at_builtin; refine Kd.R_append k87 (w0 := w) w.heap.size rfl (.tmp 50) (.tmp 53) 54 87 (.agg #[(.bool false), (.int .i64 0), (.string ⟨#[]⟩)]) 32 rfl Try.underlying54 info87 rfl (by decide) (by omega) (.slice none 0 0) ([] : List (S87)) (⟨true, wrap64 ((wrap64 (1 - x8_11)) * 96), (⟨#[]⟩ : ByteArray)⟩ : S87) [.bool true, .int .i64 (wrap64 ((wrap64 (1 - x8_11)) * 96)), .string (⟨#[]⟩ : ByteArray)] (fun _ => True) (fun _ => False) rfl rfl ?aP (fun _ hk => hk.elim) ?aF ?aO ?aB ?aS ?aL ?_; (case aP => exact k87_mkM _ _ _ (⟨true, wrap64 ((wrap64 (1 - x8_11)) * 96), (⟨#[]⟩ : ByteArray)⟩ : S87)); (case aB => exact q28_); (case aF => exact (fun _ _ => trivial)); (case aO => exact ((Kd.R_nil _ _ _ _ (fun _ => True)))); (case aS => exact (below_size q28_)); (case aL => have := LMc28.out; omega); intro v382 w32 ho hb hg hat; rw [← Ny381.out] at ho; have HO383 := Aside0.mk (ho); replace BK360 := Aside0.mk (blk_grown (g := gb360) (o := .cells #[.int .i64 a1_0, .int .i64 a1_1, .int .i64 a1_2, .int .i64 a1_3] 23 (0, 0)) q62_ hg (by simp [Value.ownBlock])); replace BK370 := Aside0.mk (blk_grown (g := gb370) (o := .cells #[.int .i64 t364, .int .i64 t365, .int .i64 t366, .int .i64 t367, .int .i64 t368] 25 (0, 0)) q82_ hg (by simp [Value.ownBlock])); replace HB := Aside0.mk (hb); clear ho hb hg hat) | ((with_reducible refine gate_callee (f := 42) rfl ?_); refine goesL_ (some 58) rfl rfl Try.func42 (by kernel_rfl) rfl #[.int .i64 (wrap64 ((wrap64 (1 - x8_11)) * 96)), .string t361] rfl q1_ ?_; (with_reducible refine (skiffref1_Words.calls kj11 (wrap64 ((wrap64 (1 - x8_11)) * 96)) t361 t384 t385 _ A29.out).mono ?_); rintro e w33 ⟨v386, rfl, ho0, hb⟩; refine ⟨_, rfl, ?_⟩; have HO387 := Aside0.mk (Kd.R_lower (Kd.R_new' ho0 (Kd.R_lt (by (with_reducible repeat (first | apply Kd.R_alloc | apply Kd.R_drewN | apply Kd.R_drew)); exact HO383.out))) (below_size q28_)); replace HO383 := Aside0.mk (Kd.R_elder' (by (with_reducible repeat (first | apply Kd.R_alloc | apply Kd.R_drewN | apply Kd.R_drew)); exact HO383.out) (Kd.R_base ho0) hb); replace BK360 := Aside0.mk (blk_below (g := gb360) q62_ hb); replace BK370 := Aside0.mk (blk_below (g := gb370) q82_ hb); replace HB := Aside0.mk (below_step q28_ hb); (try clear hb); (try clear hb2); (try clear hk); (try clear hi); (try clear ho0); obtain ⟨Ao35, co35, eo35⟩ := Kd.R_slice HO387.out; subst eo35) | ((with_reducible refine gate_builtin (b := .append) (xs := #[.tmp 61, .tmp 62]) rfl ?_); at_builtin; refine Kd.R_append_rows k87 (w0 := w) w.heap.size rfl (.tmp 61) (.tmp 62) 54 87 (.agg #[(.bool false), (.int .i64 0), (.string ⟨#[]⟩)]) 32 rfl Try.underlying54 info87 rfl (by decide) (by omega) v382 y381 t384 _ _ _ (fun k_ => some k_ ≠ (.slice Ao35 t384.length co35 : Value).ownBlock) (fun _ => False) rfl rfl ?aO ?aR (fun _ _ h => h) (fun _ h => h.elim) ?aF ?aB ?aS ?aL ?_; (case aR => repeat (first | exact (Kd.R_reads' HO387.out).2.2 | (with_reducible refine Kd.C_alloc ?_ _) | (with_reducible refine Kd.C_drewN ?_ _) | (with_reducible refine Kd.C_drew ?_))); (case aB => exact q28_); (case aF => exact (fun k_ hk => Kd.fresh' (Kd.R_lt (by (with_reducible repeat (first | apply Kd.R_alloc | apply Kd.R_drewN | apply Kd.R_drew)); exact HO387.out)) k_ hk)); (case aO => exact (by (with_reducible repeat (first | apply Kd.R_alloc | apply Kd.R_drewN | apply Kd.R_drew)); exact Kd.R_mono HO383.out (fun _ hk => hk.2))); (case aS => exact (below_size q28_)); (case aL => have := LMc30.out; omega); intro v389 w34 ho hb hg hat; rw [← Ny388.out] at ho; have HO390 := Aside0.mk (ho); replace BK360 := Aside0.mk (blk_grown (g := gb360) (o := .cells #[.int .i64 a1_0, .int .i64 a1_1, .int .i64 a1_2, .int .i64 a1_3] 23 (0, 0)) q62_ hg (Kd.R_ne HO383.out BK360.out (by decide))); replace BK370 := Aside0.mk (blk_grown (g := gb370) (o := .cells #[.int .i64 t364, .int .i64 t365, .int .i64 t366, .int .i64 t367, .int .i64 t368] 25 (0, 0)) q82_ hg (Kd.R_ne HO383.out BK370.out (by decide))); replace HO387 := Aside0.mk (Kd.R_after (ok := (fun _ => True)) (by (with_reducible repeat (first | apply Kd.R_alloc | apply Kd.R_drewN | apply Kd.R_drew)); exact HO387.out) hg hat); replace HB := Aside0.mk (hb); clear HO383; clear ho hb hg hat))
     go_ret2
     exact ⟨_, by first | rfl | (simp [errW_none, errW_some] <;> rfl) | (simp [*, errW_none, errW_some] <;> rfl), by (with_reducible repeat (first | apply Kd.R_alloc | apply Kd.R_drewN | apply Kd.R_drew)); exact Kd.R_mono HO390.out (fun _ hk => trivial), by repeat (first | (with_reducible first | exact HB.out | apply below_alloc | apply pw_below_drewN | apply below_drew1 | refine below_set ?_ GE360.out | refine below_set ?_ GE370.out) | exact HB.out)⟩
mutual
def skifflaw20_held.l0 : Nat → ByteArray → List (S87) → Int → Option (ByteArray)
 | 0, _, _, _ => none
 | k + 1, x1, x2, x4 => if x4 < (x2.length : Int) then (if 0 ≤ x4 then ((skiffref1_Do.f k x1 ((rd_T87 x2 x4).f0) ((rd_T87 x2 x4).f1) ((rd_T87 x2 x4).f2)).bind fun bt397 => (skifflaw20_held.l0 k bt397.1 x2 (wrap64 (x4 + 1)))) else (none)) else ((skiffref1_RecordOf.f k x1 0 12).bind fun bt399 => ((skiffref1_Append.f k x1 bt399.1 bt399.2.1 bt399.2.2.1 bt399.2.2.2.1).bind fun bt405 => (skifflaw20_held.l1 k x1 bt405.1 0)))
def skifflaw20_held.l1 : Nat → ByteArray → List (S87) → Int → Option (ByteArray)
 | 0, _, _, _ => none
 | k + 1, x1, x2, x7 => if x7 < (x2.length : Int) then (if 0 ≤ x7 then ((skiffref1_Do.f k x1 ((rd_T87 x2 x7).f0) ((rd_T87 x2 x7).f1) ((rd_T87 x2 x7).f2)).bind fun bt410 => (skifflaw20_held.l1 k bt410.1 x2 (wrap64 (x7 + 1)))) else (none)) else (some x1)
end
def skifflaw20_held.f (k : Nat)  : Option (ByteArray) := (skiffref1_Blank.f k).bind fun t391 => ((skiffref1_Words.f k 192 (⟨#[97, 98, 97, 98, 97, 98, 97, 98, 97, 98, 97, 98]⟩ : ByteArray)).bind fun bt392 => (skifflaw20_held.l0 k t391 bt392.1 0))
set_option maxHeartbeats 8000000 in
set_option maxRecDepth 100000 in
theorem skifflaw20_held.calls (k : Nat)  (r : ByteArray) (w : World) (h : skifflaw20_held.f k  = some r) :
  Calls Try.prog 61 #[] w fun e w' => e = .returned (.string r) ∧ Below w.heap.size w w' := by
 have hu87 := Try.underlying87
 have hu23 := Try.underlying23
 have HB := Aside0.mk (Below.refl w.heap.size w)
 have H : ((skiffref1_Blank.f k).bind fun t391 => ((skiffref1_Words.f k 192 (⟨#[97, 98, 97, 98, 97, 98, 97, 98, 97, 98, 97, 98]⟩ : ByteArray)).bind fun bt392 => (skifflaw20_held.l0 k t391 bt392.1 0))) = some r := h
 clear h
 replace H := Option.bind_eq_some_iff.mp H
 obtain ⟨t391, A10, H⟩ := H
 (try dsimp only at H)
 have A1 := Aside0.mk A10
 clear A10
 replace H := Option.bind_eq_some_iff.mp H
 obtain ⟨⟨t392, t393⟩, A20, H⟩ := H
 replace H : (skifflaw20_held.l0 k t391 t392 0) = some r := H
 have A2 := Aside0.mk A20
 clear A20
 have H' := Aside0.mk H
 clear H
 go_enter Try.func61, Try.ntmps61
 go_wp2_with (first | ((with_reducible refine gate_callee (f := 17) rfl ?_); refine goesL_ (some 8) rfl rfl Try.func17 (by kernel_rfl) rfl #[] rfl q1_ ?_; (with_reducible refine (skiffref1_Blank.calls k  t391 _ A1.out).mono ?_); rintro e w3 ⟨rfl, hb⟩; refine ⟨_, rfl, ?_⟩; replace HB := Aside0.mk (below_step q2_ hb); (try clear hb); (try clear hb2); (try clear hk); (try clear hi)) | ((with_reducible refine gate_callee (f := 42) rfl ?_); refine goesL_ (some 10) rfl rfl Try.func42 (by kernel_rfl) rfl #[.int .i64 192, .string (⟨#[97, 98, 97, 98, 97, 98, 97, 98, 97, 98, 97, 98]⟩ : ByteArray)] rfl q1_ ?_; (with_reducible refine (skiffref1_Words.calls k 192 (⟨#[97, 98, 97, 98, 97, 98, 97, 98, 97, 98, 97, 98]⟩ : ByteArray) t392 t393 _ A2.out).mono ?_); rintro e w4 ⟨v394, rfl, ho0, hb⟩; refine ⟨_, rfl, ?_⟩; have HO395 := Aside0.mk (Kd.R_lower ho0 (below_size q2_)); replace HB := Aside0.mk (below_step q2_ hb); (try clear hb); (try clear hb2); (try clear hk); (try clear hi); (try clear ho0)))
 go_loopg [1, 4] k (fun kq v1 v4 w' => ∃ (x1_1 : ByteArray) (x4_1 : Int), v1 = .string x1_1 ∧ v4 = .int .i64 x4_1 ∧ Aside0 (skifflaw20_held.l0 kq x1_1 t392 x4_1 = some r) ∧ Aside0 (kq ≤ k) ∧ Aside0 (Kd.R k87 87 w' w.heap.size (fun _ => True) v394 t392) ∧ Aside0 (Below w.heap.size w w'))
 case atStart => exact ⟨(t391), (0), q17_, q17_, H', ⟨Nat.le_refl _⟩, ⟨by (with_reducible repeat (first | apply Kd.R_alloc | apply Kd.R_drewN | apply Kd.R_drew)); exact HO395.out⟩, ⟨by repeat (first | (with_reducible first | exact HB.out | apply below_alloc | apply pw_below_drewN | apply below_drew1) | exact HB.out)⟩⟩
 case round =>
  clear H'
  try clear p2
  obtain ⟨x1_1, x4_1, rfl, rfl, HA, HK1, HO_2, HB⟩ := hrel
  cases gk with
  | zero => exact absurd HA.out (by simp [skifflaw20_held.l0])
  | succ k1 =>
   have H := HA.out
   clear HA
   simp only [skifflaw20_held.l0] at H
   by_cases c5 : x4_1 < (t392.length : Int)
   ·rw [if_pos c5] at H
    have c5b0 : decide (x4_1 < (t392.length : Int)) = true := decide_eq_true c5
    clear c5
    by_cases c6 : 0 ≤ x4_1
    rotate_left
    ·rw [if_neg c6] at H
     exact absurd H (by simp)
    rw [if_pos c6] at H
    have c6b0 : decide (0 ≤ x4_1) = true := decide_eq_true c6
    clear c6
    replace H := Option.bind_eq_some_iff.mp H
    obtain ⟨⟨t397, t398⟩, A70, H⟩ := H
    (try dsimp only at H)
    have A7 := Aside0.mk A70
    clear A70
    have H' := Aside0.mk H
    clear H
    obtain ⟨Ao8, co8, eo8⟩ := Kd.R_slice HO_2.out
    subst eo8
    have p396 : 0 ≤ (x4_1 : Int) := of_decide_eq_true q16_
    have q396 : x4_1 < (t392.length : Int) := of_decide_eq_true q16_
    obtain ⟨ad396, e396, hx396_0, hx396_1, hx396_2⟩ := at_T87 (Kd.R_reads' HO_2.out).2.2 x4_1 p396 q396
    cases e396
    replace p396 := eq_true p396
    replace q396 := eq_true q396
    go_wp2_with (first | ((with_reducible refine gate_callee (f := 43) rfl ?_); refine goesL_ (some 25) rfl rfl Try.func43 (by kernel_rfl) rfl #[.string x1_1, .agg #[.bool ((rd_T87 t392 x4_1).f0), .int .i64 ((rd_T87 t392 x4_1).f1), .string ((rd_T87 t392 x4_1).f2)]] rfl q1_ ?_; (with_reducible refine (skiffref1_Do.calls k1 x1_1 ((rd_T87 t392 x4_1).f0) ((rd_T87 t392 x4_1).f1) ((rd_T87 t392 x4_1).f2) t397 t398 _ A7.out).mono ?_); rintro e w9 ⟨rfl, hb⟩; refine ⟨_, rfl, ?_⟩; replace HO_2 := Aside0.mk (Kd.R_below q125_ hb); replace HB := Aside0.mk (below_step q2_ hb); (try clear hb); (try clear hb2); (try clear hk); (try clear hi)))
    go_roundg k1
    case measure => have := HK1.out; omega
    case rel => exact ⟨(t397), (wrap64 (x4_1 + 1)), q17_, q17_, H', ⟨by have := HK1.out; omega⟩, ⟨by (with_reducible repeat (first | apply Kd.R_alloc | apply Kd.R_drewN | apply Kd.R_drew)); exact HO_2.out⟩, ⟨by repeat (first | (with_reducible first | exact HB.out | apply below_alloc | apply pw_below_drewN | apply below_drew1) | exact HB.out)⟩⟩
   rw [if_neg c5] at H
   have c5b0 : decide (x4_1 < (t392.length : Int)) = false := decide_eq_false c5
   clear c5
   replace H := Option.bind_eq_some_iff.mp H
   obtain ⟨⟨t399, t400, t401, t402, t403⟩, A100, H⟩ := H
   (try dsimp only at H)
   have A10 := Aside0.mk A100
   clear A100
   replace H := Option.bind_eq_some_iff.mp H
   obtain ⟨⟨t405, t408⟩, A110, H⟩ := H
   replace H : (skifflaw20_held.l1 k1 x1_1 t405 0) = some r := H
   have A11 := Aside0.mk A110
   clear A110
   have H' := Aside0.mk H
   clear H
   obtain ⟨Ao12, co12, eo12⟩ := Kd.R_slice HO_2.out
   subst eo12
   go_wp2_with (first | ((with_reducible refine gate_callee (f := 44) rfl ?_); refine goesL_ (some 30) rfl rfl Try.func44 (by kernel_rfl) rfl #[.string x1_1, .int .i64 0, .int .i64 12] rfl q1_ ?_; (with_reducible refine (skiffref1_RecordOf.calls k1 x1_1 0 12 t399 t400 t401 t402 t403 _ A10.out).mono ?_); rintro e w13 ⟨rfl, hb⟩; refine ⟨_, rfl, ?_⟩; replace HO_2 := Aside0.mk (Kd.R_below q125_ hb); replace HB := Aside0.mk (below_step q2_ hb); (try clear hb); (try clear hb2); (try clear hk); (try clear hi)) | ((with_reducible refine gate_dst (N := 5) rfl ?_); refine box_event ?hg (N := 5) ?hd (cs := #[.int .i64 0, .int .i64 0, .int .i64 0, .int .i64 0]) (t := 23) ?hr ?_; (case hd => rfl); (case hg => rfl); (case hr => first | (go_simp; done) | (go_simp; rfl)); intro gb404 hg w14 hbox hb; have BK404 := Aside0.mk (hbox); have GW404 := Aside0.mk ((by rw [hg]; exact (below_size q2_) : w.heap.size ≤ gb404)); have GE404 := Aside0.mk ((by rw [hg]; exact (below_size q2_) : w.heap.size ≤ gb404)); replace HO_2 := Aside0.mk (Kd.R_below q125_ hb); replace HB := Aside0.mk (below_step q2_ hb); clear hb hbox hg; obtain ⟨hcz15_0, hcz15_1, hcz15_2, hcz15_3, hfz15_0, hfz15_1, hfz15_2, hfz15_3⟩ := cells4_ BK404.out) | ((with_reducible refine gate_callee (f := 45) rfl ?_); refine goesL_ (some 36) rfl rfl Try.func45 (by kernel_rfl) rfl #[.string x1_1, .agg #[.int .i64 t399, .int .i64 t400, .int .i64 t401, .int .i64 t402]] rfl q1_ ?_; (with_reducible refine (skiffref1_Append.calls k1 x1_1 t399 t400 t401 t402 t405 t408 _ A11.out).mono ?_); rintro e w16 ⟨v406, rfl, ho0, hb⟩; refine ⟨_, rfl, ?_⟩; have HO407 := Aside0.mk (Kd.R_lower (Kd.R_new' ho0 (Kd.R_lt q108_)) (below_size q116_)); replace HO_2 := Aside0.mk (Kd.R_elder' q108_ (Kd.R_base ho0) hb); replace BK404 := Aside0.mk (blk_below (g := gb404) (o := .cells #[.int .i64 t399, .int .i64 t400, .int .i64 t401, .int .i64 t402] 23 (0, 0)) (by (with_reducible repeat (first | refine blk_drewN ?_ _ | refine blk_drew ?_ | refine blk_alloc ?_ _)); refine put4_ (cs := #[.int .i64 0, .int .i64 0, .int .i64 0, .int .i64 0]) ?_ rfl; (with_reducible repeat (first | refine blk_drewN ?_ _ | refine blk_drew ?_ | refine blk_alloc ?_ _)); exact BK404.out) hb); replace HB := Aside0.mk (below_step q116_ hb); (try clear hb); (try clear hb2); (try clear hk); (try clear hi); (try clear ho0)))
   go_loopg [1, 7] k1 (fun kq v1 v7 w' => ∃ (x1_2 : ByteArray) (x7_2 : Int), v1 = .string x1_2 ∧ v7 = .int .i64 x7_2 ∧ Aside0 (skifflaw20_held.l1 kq x1_2 t405 x7_2 = some r) ∧ Aside0 (kq ≤ k1) ∧ Aside0 (Kd.R k87 87 w' w.heap.size (fun _ => True) v406 t405) ∧ Aside0 (w'.heap[gb404]? = some (.cells #[.int .i64 t399, .int .i64 t400, .int .i64 t401, .int .i64 t402] 23 (0, 0))) ∧ Aside0 (Below w.heap.size w w'))
   case atStart => exact ⟨(x1_1), (0), q17_, q17_, H', ⟨Nat.le_refl _⟩, ⟨by (with_reducible repeat (first | apply Kd.R_alloc | apply Kd.R_drewN | apply Kd.R_drew)); exact Kd.R_mono HO407.out (fun _ hk => trivial)⟩, ⟨by (with_reducible repeat (first | refine blk_drewN ?_ _ | refine blk_drew ?_ | refine blk_alloc ?_ _)); exact BK404.out⟩, ⟨by repeat (first | (with_reducible first | exact HB.out | apply below_alloc | apply pw_below_drewN | apply below_drew1 | refine below_set ?_ GE404.out) | exact HB.out)⟩⟩
   case round =>
    clear H'
    try clear p2
    try clear p3
    try clear q3
    try clear hx3
    try clear c5
    try clear c5b0
    try clear c6
    try clear c6b0
    try clear p6
    try clear hcz15_0
    try clear hcz15_1
    try clear hcz15_2
    try clear hcz15_3
    try clear hfz15_0
    try clear hfz15_1
    try clear hfz15_2
    try clear hfz15_3
    try clear hx396_0
    try clear hx396_1
    try clear hx396_2
    try clear p2
    try clear p396
    try clear q396
    obtain ⟨x1_2, x7_2, rfl, rfl, HA, HK2, HO_2, BK404, HB⟩ := hrel
    cases gk with
    | zero => exact absurd HA.out (by simp [skifflaw20_held.l1])
    | succ k2 =>
     have H := HA.out
     clear HA
     simp only [skifflaw20_held.l1] at H
     by_cases c17 : x7_2 < (t405.length : Int)
     rotate_left
     ·rw [if_neg c17] at H
      have c17b0 : decide (x7_2 < (t405.length : Int)) = false := decide_eq_false c17
      clear c17
      obtain rfl := Option.some.inj H
      obtain ⟨Ao22, co22, eo22⟩ := Kd.R_slice HO_2.out
      subst eo22
      go_wp2
      go_ret
      exact ⟨by first | rfl | (simp [errW_none, errW_some] <;> rfl) | (simp [*, errW_none, errW_some] <;> rfl), by repeat (first | (with_reducible first | exact HB.out | apply below_alloc | apply pw_below_drewN | apply below_drew1 | refine below_set ?_ GE404.out) | exact HB.out)⟩
     rw [if_pos c17] at H
     have c17b0 : decide (x7_2 < (t405.length : Int)) = true := decide_eq_true c17
     clear c17
     by_cases c18 : 0 ≤ x7_2
     rotate_left
     ·rw [if_neg c18] at H
      exact absurd H (by simp)
     rw [if_pos c18] at H
     have c18b0 : decide (0 ≤ x7_2) = true := decide_eq_true c18
     clear c18
     replace H := Option.bind_eq_some_iff.mp H
     obtain ⟨⟨t410, t411⟩, A190, H⟩ := H
     (try dsimp only at H)
     have A19 := Aside0.mk A190
     clear A190
     have H' := Aside0.mk H
     clear H
     obtain ⟨Ao20, co20, eo20⟩ := Kd.R_slice HO_2.out
     subst eo20
     have p409 : 0 ≤ (x7_2 : Int) := of_decide_eq_true q16_
     have q409 : x7_2 < (t405.length : Int) := of_decide_eq_true q16_
     obtain ⟨ad409, e409, hx409_0, hx409_1, hx409_2⟩ := at_T87 (Kd.R_reads' HO_2.out).2.2 x7_2 p409 q409
     cases e409
     replace p409 := eq_true p409
     replace q409 := eq_true q409
     go_wp2_with (first | ((with_reducible refine gate_callee (f := 43) rfl ?_); refine goesL_ (some 51) rfl rfl Try.func43 (by kernel_rfl) rfl #[.string x1_2, .agg #[.bool ((rd_T87 t405 x7_2).f0), .int .i64 ((rd_T87 t405 x7_2).f1), .string ((rd_T87 t405 x7_2).f2)]] rfl q1_ ?_; (with_reducible refine (skiffref1_Do.calls k2 x1_2 ((rd_T87 t405 x7_2).f0) ((rd_T87 t405 x7_2).f1) ((rd_T87 t405 x7_2).f2) t410 t411 _ A19.out).mono ?_); rintro e w21 ⟨rfl, hb⟩; refine ⟨_, rfl, ?_⟩; replace HO_2 := Aside0.mk (Kd.R_below q125_ hb); replace BK404 := Aside0.mk (blk_below (g := gb404) (by (with_reducible repeat (first | refine blk_drewN ?_ _ | refine blk_drew ?_ | refine blk_alloc ?_ _)); exact BK404.out) hb); replace HB := Aside0.mk (below_step q116_ hb); (try clear hb); (try clear hb2); (try clear hk); (try clear hi)))
     go_roundg k2
     case measure => have := HK1.out; have := HK2.out; omega
     case rel => exact ⟨(t410), (wrap64 (x7_2 + 1)), q17_, q17_, H', ⟨by have := HK1.out; have := HK2.out; omega⟩, ⟨by (with_reducible repeat (first | apply Kd.R_alloc | apply Kd.R_drewN | apply Kd.R_drew)); exact HO_2.out⟩, ⟨by (with_reducible repeat (first | refine blk_drewN ?_ _ | refine blk_drew ?_ | refine blk_alloc ?_ _)); exact BK404.out⟩, ⟨by repeat (first | (with_reducible first | exact HB.out | apply below_alloc | apply pw_below_drewN | apply below_drew1 | refine below_set ?_ GE404.out) | exact HB.out)⟩⟩
def skifflaw20_awake.f (k : Nat)  : Option (Bool) := (skifflaw20_held.f k).bind fun t412 => ((upload_Give.f k t412 0 0 0 0 0 ([] : List (S87)) 0 32).bind fun bt413 => ((skifflaw20_held.f k).bind fun t424 => ((upload_Give.f k t424 0 0 0 0 0 ([] : List (S87)) 1 32).bind fun bt425 => ((skiffref1_Blank.f k).bind fun t436 => ((upload_Give.f k t436 0 0 0 0 0 ([] : List (S87)) 0 32).bind fun bt437 => ((skifflaw20_held.f k).bind fun t448 => ((upload_Give.f k t448 2 0 0 0 0 ([] : List (S87)) 0 32).bind fun bt449 => ((skiffref16_NewDevice.f).bind fun bt460 => ((skifflaw0_SameDevice.f k bt413.1 bt413.2.1 bt413.2.2.1 bt413.2.2.2.1 bt413.2.2.2.2.1 bt413.2.2.2.2.2.1 bt460.1 bt460.2.1 bt460.2.2.1 bt460.2.2.2.1 bt460.2.2.2.2.1 bt460.2.2.2.2.2).bind fun t468 => (if t468 = true then (if bt413.2.2.2.2.2.2.1.toList = ([97, 98, 97, 98, 97, 98, 97, 98, 97, 98, 97, 98] : List UInt8) then ((skifflaw0_Num.f bt413.2.2.2.2.2.2.2).bind fun t469 => (if t469 = 0 then (if bt425.2.1 = 4 then (if bt425.2.2.2.2.2.2.1.toList = ([] : List UInt8) then ((skifflaw0_Num.f bt425.2.2.2.2.2.2.2).bind fun t470 => (if t470 = 0 then (if bt437.2.1 = 2 then (if bt437.2.2.2.2.2.2.1.toList = ([] : List UInt8) then ((skifflaw0_Num.f bt437.2.2.2.2.2.2.2).bind fun t471 => (if t471 = 0 then ((skifflaw0_Num.f bt449.2.2.2.2.2.2.2).bind fun t472 => (some (t472 == 2000))) else (none))) else (none)) else (none)) else (none))) else (none)) else (none)) else (none))) else (none)) else (none)))))))))))
def skifflaw20_awake.T5 : Bool × List (List Nat × List Nat) := (true, [([], []), ([], []), ([0, 1, 1], [0, 1]), ([2, 2], [2]), ([3], [3]), ([4, 3], [3, 4]), ([3, 5], [3, 5]), ([6, 3], [6]), ([7], [7]), ([8, 7, 7], [7, 8]), ([9, 7], [7, 9]), ([7, 10], [7, 10]), ([11, 9], [11]), ([12], [12]), ([13, 12], [12, 13]), ([14, 12], [12, 14]), ([12, 15], [12, 15]), ([16, 12], [16]), ([17], [17]), ([18, 17], [17, 18]), ([17, 19], [17, 19]), ([20, 17], [20]), ([21], [21]), ([22, 21, 21], [21, 22]), ([23, 21], [21, 23]), ([21, 24], [21, 24]), ([25, 23], [25]), ([26], [26]), ([27, 26], [26, 27]), ([28, 26], [26, 28]), ([26, 29], [26, 29]), ([30, 26], [30]), ([31], [31]), ([32, 31], [31, 32]), ([31, 33], [31, 33]), ([34, 31], [34]), ([35], [35]), ([36, 35, 35], [35, 36]), ([37, 35], [35, 37]), ([35, 38], [35, 38]), ([39, 37], [39]), ([40], [40]), ([41, 40, 40], [40, 41]), ([42, 40], [40, 42]), ([40, 43], [40, 43]), ([44, 42, 0, 1, 2, 3, 4, 5, 6, 7, 8, 9, 10, 11, 12, 13, 14, 15, 16, 17, 18, 19, 20, 21, 22, 23, 24, 25, 26, 27, 28, 29, 30, 31, 32, 33, 34, 35, 36, 37, 38, 39, 40, 41, 42, 43, 44], [44])])
def skifflaw20_awake.B5 : List Nat := [0, 0, 3, 7, 15, 31, 63, 127, 255, 511, 1023, 2047, 4095, 8191, 16383, 32767, 65535, 131071, 262143, 524287, 1048575, 2097151, 4194303, 8388607, 16777215, 33554431, 67108863, 134217727, 268435455, 536870911, 1073741823, 2147483647, 4294967295, 8589934591, 17179869183, 34359738367, 68719476735, 137438953471, 274877906943, 549755813887, 1099511627775, 2199023255551, 4398046511103, 8796093022207, 17592186044415, 35184372088831]
theorem skifflaw20_awake.tab5 : rtab .any (opsOf Try.f28 5) = skifflaw20_awake.T5 := by kernel_rfl
theorem skifflaw20_awake.bits5 : waitsOk skifflaw20_awake.T5.2 skifflaw20_awake.B5 = true := by kernel_rfl
set_option maxHeartbeats 8000000 in
set_option maxRecDepth 100000 in
theorem skifflaw20_awake.calls (k : Nat)  (r : Bool) (w : World) (h : skifflaw20_awake.f k  = some r) :
  Calls Try.prog 28 #[] w fun e w' => e = .returned (.bool r) ∧ Below w.heap.size w w' := by
 have hu56 := Try.underlying56
 have HB := Aside0.mk (Below.refl w.heap.size w)
 have H : ((skifflaw20_held.f k).bind fun t412 => ((upload_Give.f k t412 0 0 0 0 0 ([] : List (S87)) 0 32).bind fun bt413 => ((skifflaw20_held.f k).bind fun t424 => ((upload_Give.f k t424 0 0 0 0 0 ([] : List (S87)) 1 32).bind fun bt425 => ((skiffref1_Blank.f k).bind fun t436 => ((upload_Give.f k t436 0 0 0 0 0 ([] : List (S87)) 0 32).bind fun bt437 => ((skifflaw20_held.f k).bind fun t448 => ((upload_Give.f k t448 2 0 0 0 0 ([] : List (S87)) 0 32).bind fun bt449 => ((skiffref16_NewDevice.f).bind fun bt460 => ((skifflaw0_SameDevice.f k bt413.1 bt413.2.1 bt413.2.2.1 bt413.2.2.2.1 bt413.2.2.2.2.1 bt413.2.2.2.2.2.1 bt460.1 bt460.2.1 bt460.2.2.1 bt460.2.2.2.1 bt460.2.2.2.2.1 bt460.2.2.2.2.2).bind fun t468 => (if t468 = true then (if bt413.2.2.2.2.2.2.1.toList = ([97, 98, 97, 98, 97, 98, 97, 98, 97, 98, 97, 98] : List UInt8) then ((skifflaw0_Num.f bt413.2.2.2.2.2.2.2).bind fun t469 => (if t469 = 0 then (if bt425.2.1 = 4 then (if bt425.2.2.2.2.2.2.1.toList = ([] : List UInt8) then ((skifflaw0_Num.f bt425.2.2.2.2.2.2.2).bind fun t470 => (if t470 = 0 then (if bt437.2.1 = 2 then (if bt437.2.2.2.2.2.2.1.toList = ([] : List UInt8) then ((skifflaw0_Num.f bt437.2.2.2.2.2.2.2).bind fun t471 => (if t471 = 0 then ((skifflaw0_Num.f bt449.2.2.2.2.2.2.2).bind fun t472 => (some (t472 == 2000))) else (none))) else (none)) else (none)) else (none))) else (none)) else (none)) else (none))) else (none)) else (none)))))))))))) = some r := h
 clear h
 replace H := Option.bind_eq_some_iff.mp H
 obtain ⟨t412, A10, H⟩ := H
 (try dsimp only at H)
 have A1 := Aside0.mk A10
 clear A10
 replace H := Option.bind_eq_some_iff.mp H
 obtain ⟨⟨t413, t414, t415, t416, t417, t418, t421, t422⟩, A20, H⟩ := H
 (try dsimp only at H)
 have A2 := Aside0.mk A20
 clear A20
 replace H := Option.bind_eq_some_iff.mp H
 obtain ⟨t424, A30, H⟩ := H
 (try dsimp only at H)
 have A3 := Aside0.mk A30
 clear A30
 replace H := Option.bind_eq_some_iff.mp H
 obtain ⟨⟨t425, t426, t427, t428, t429, t430, t433, t434⟩, A40, H⟩ := H
 (try dsimp only at H)
 have A4 := Aside0.mk A40
 clear A40
 replace H := Option.bind_eq_some_iff.mp H
 obtain ⟨t436, A50, H⟩ := H
 (try dsimp only at H)
 have A5 := Aside0.mk A50
 clear A50
 replace H := Option.bind_eq_some_iff.mp H
 obtain ⟨⟨t437, t438, t439, t440, t441, t442, t445, t446⟩, A60, H⟩ := H
 (try dsimp only at H)
 have A6 := Aside0.mk A60
 clear A60
 replace H := Option.bind_eq_some_iff.mp H
 obtain ⟨t448, A70, H⟩ := H
 (try dsimp only at H)
 have A7 := Aside0.mk A70
 clear A70
 replace H := Option.bind_eq_some_iff.mp H
 obtain ⟨⟨t449, t450, t451, t452, t453, t454, t457, t458⟩, A80, H⟩ := H
 (try dsimp only at H)
 have A8 := Aside0.mk A80
 clear A80
 replace H := Option.bind_eq_some_iff.mp H
 obtain ⟨⟨t460, t461, t462, t463, t464, t465⟩, A90, H⟩ := H
 (try dsimp only at H)
 have A9 := Aside0.mk A90
 clear A90
 replace H := Option.bind_eq_some_iff.mp H
 obtain ⟨t468, A100, H⟩ := H
 (try dsimp only at H)
 have A10 := Aside0.mk A100
 clear A100
 by_cases c11 : t468 = true
 rotate_left
 ·replace c11 := Bool.eq_false_iff.mpr c11
  subst c11
  have H1 : (none) = some r := by rw [if_neg (show ¬ (false = true) by decide)] at H; exact H
  clear H
  have H := H1
  clear H1
  exact absurd H (by simp)
 subst c11
 have H1 : (if t421.toList = ([97, 98, 97, 98, 97, 98, 97, 98, 97, 98, 97, 98] : List UInt8) then ((skifflaw0_Num.f t422).bind fun t469 => (if t469 = 0 then (if t426 = 4 then (if t433.toList = ([] : List UInt8) then ((skifflaw0_Num.f t434).bind fun t470 => (if t470 = 0 then (if t438 = 2 then (if t445.toList = ([] : List UInt8) then ((skifflaw0_Num.f t446).bind fun t471 => (if t471 = 0 then ((skifflaw0_Num.f t458).bind fun t472 => (some (t472 == 2000))) else (none))) else (none)) else (none)) else (none))) else (none)) else (none)) else (none))) else (none)) = some r := by rw [if_pos rfl] at H; exact H
 clear H
 have H := H1
 clear H1
 by_cases c12 : t421.toList = ([97, 98, 97, 98, 97, 98, 97, 98, 97, 98, 97, 98] : List UInt8)
 rotate_left
 ·rw [if_neg c12] at H
  have c12b0 : (t421.toList == ([97, 98, 97, 98, 97, 98, 97, 98, 97, 98, 97, 98] : List UInt8)) = false := beq_eq_false_iff_ne.mpr c12
  have c12b1 : (t421.toList != ([97, 98, 97, 98, 97, 98, 97, 98, 97, 98, 97, 98] : List UInt8)) = true := bne_iff_ne.mpr c12
  exact absurd H (by simp)
 rw [if_pos c12] at H
 have c12b0 : (t421.toList == ([97, 98, 97, 98, 97, 98, 97, 98, 97, 98, 97, 98] : List UInt8)) = true := beq_iff_eq.mpr c12
 have c12b1 : (t421.toList != ([97, 98, 97, 98, 97, 98, 97, 98, 97, 98, 97, 98] : List UInt8)) = false := bne_eq_false_iff_eq.mpr c12
 clear c12
 replace H := Option.bind_eq_some_iff.mp H
 obtain ⟨t469, A130, H⟩ := H
 (try dsimp only at H)
 have A13 := Aside0.mk A130
 clear A130
 by_cases c14 : t469 = 0
 rotate_left
 ·rw [if_neg c14] at H
  have c14b0 : (t469 == 0) = false := beq_eq_false_iff_ne.mpr c14
  have c14b1 : (t469 != 0) = true := bne_iff_ne.mpr c14
  exact absurd H (by simp)
 rw [if_pos c14] at H
 have c14b0 : (t469 == 0) = true := beq_iff_eq.mpr c14
 have c14b1 : (t469 != 0) = false := bne_eq_false_iff_eq.mpr c14
 clear c14
 by_cases c15 : t426 = 4
 rotate_left
 ·rw [if_neg c15] at H
  have c15b0 : (t426 == 4) = false := beq_eq_false_iff_ne.mpr c15
  have c15b1 : (t426 != 4) = true := bne_iff_ne.mpr c15
  exact absurd H (by simp)
 rw [if_pos c15] at H
 have c15b0 : (t426 == 4) = true := beq_iff_eq.mpr c15
 have c15b1 : (t426 != 4) = false := bne_eq_false_iff_eq.mpr c15
 clear c15
 by_cases c16 : t433.toList = ([] : List UInt8)
 rotate_left
 ·rw [if_neg c16] at H
  have c16b0 : (t433.toList == ([] : List UInt8)) = false := beq_eq_false_iff_ne.mpr c16
  have c16b1 : (t433.toList != ([] : List UInt8)) = true := bne_iff_ne.mpr c16
  exact absurd H (by simp)
 rw [if_pos c16] at H
 have c16b0 : (t433.toList == ([] : List UInt8)) = true := beq_iff_eq.mpr c16
 have c16b1 : (t433.toList != ([] : List UInt8)) = false := bne_eq_false_iff_eq.mpr c16
 clear c16
 replace H := Option.bind_eq_some_iff.mp H
 obtain ⟨t470, A170, H⟩ := H
 (try dsimp only at H)
 have A17 := Aside0.mk A170
 clear A170
 by_cases c18 : t470 = 0
 rotate_left
 ·rw [if_neg c18] at H
  have c18b0 : (t470 == 0) = false := beq_eq_false_iff_ne.mpr c18
  have c18b1 : (t470 != 0) = true := bne_iff_ne.mpr c18
  exact absurd H (by simp)
 rw [if_pos c18] at H
 have c18b0 : (t470 == 0) = true := beq_iff_eq.mpr c18
 have c18b1 : (t470 != 0) = false := bne_eq_false_iff_eq.mpr c18
 clear c18
 by_cases c19 : t438 = 2
 rotate_left
 ·rw [if_neg c19] at H
  have c19b0 : (t438 == 2) = false := beq_eq_false_iff_ne.mpr c19
  have c19b1 : (t438 != 2) = true := bne_iff_ne.mpr c19
  exact absurd H (by simp)
 rw [if_pos c19] at H
 have c19b0 : (t438 == 2) = true := beq_iff_eq.mpr c19
 have c19b1 : (t438 != 2) = false := bne_eq_false_iff_eq.mpr c19
 clear c19
 by_cases c20 : t445.toList = ([] : List UInt8)
 rotate_left
 ·rw [if_neg c20] at H
  have c20b0 : (t445.toList == ([] : List UInt8)) = false := beq_eq_false_iff_ne.mpr c20
  have c20b1 : (t445.toList != ([] : List UInt8)) = true := bne_iff_ne.mpr c20
  exact absurd H (by simp)
 rw [if_pos c20] at H
 have c20b0 : (t445.toList == ([] : List UInt8)) = true := beq_iff_eq.mpr c20
 have c20b1 : (t445.toList != ([] : List UInt8)) = false := bne_eq_false_iff_eq.mpr c20
 clear c20
 replace H := Option.bind_eq_some_iff.mp H
 obtain ⟨t471, A210, H⟩ := H
 (try dsimp only at H)
 have A21 := Aside0.mk A210
 clear A210
 by_cases c22 : t471 = 0
 rotate_left
 ·rw [if_neg c22] at H
  have c22b0 : (t471 == 0) = false := beq_eq_false_iff_ne.mpr c22
  have c22b1 : (t471 != 0) = true := bne_iff_ne.mpr c22
  exact absurd H (by simp)
 rw [if_pos c22] at H
 have c22b0 : (t471 == 0) = true := beq_iff_eq.mpr c22
 have c22b1 : (t471 != 0) = false := bne_eq_false_iff_eq.mpr c22
 clear c22
 replace H := Option.bind_eq_some_iff.mp H
 obtain ⟨t472, A230, H⟩ := H
 replace H : (some (t472 == 2000)) = some r := H
 have A23 := Aside0.mk A230
 clear A230
 obtain rfl := Option.some.inj H
 go_enter Try.func28, Try.ntmps28
 try go_wp2_with (first | ((with_reducible refine gate_callee (f := 61) rfl ?_); refine goesL_ (some 14) rfl rfl Try.func61 (by kernel_rfl) rfl #[] rfl q1_ ?_; (with_reducible refine (skifflaw20_held.calls k  t412 _ A1.out).mono ?_); rintro e w24 ⟨rfl, hb⟩; refine ⟨_, rfl, ?_⟩; replace HB := Aside0.mk (below_step q2_ hb); (try clear hb); (try clear hb2); (try clear hk); (try clear hi)) | ((with_reducible refine gate_callee (f := 24) rfl ?_); refine goesL_ (some 16) rfl rfl Try.func24 (by kernel_rfl) rfl #[.string t412, .agg #[.int .i64 0, .int .i64 0, .int .i64 0, .int .i64 0, .int .i64 0, .slice none 0 0], .int .i64 0, .int .i64 32] rfl q1_ ?_; (refine (upload_Give.calls k t412 0 0 0 0 0 _ _ ([] : List (S87)) 0 32 t413 t414 t415 t416 t417 t418 t421 t422 _ ?side1 ?side2 A2.out).mono ?_); (case side1 => exact Kd.C_nil _ _); (case side2 => exact Nat.le_refl _); rintro e w25 ⟨v419, rfl, ho0, hb⟩; refine ⟨_, rfl, ?_⟩; have HO420 := Aside0.mk (Kd.R_lower ho0 (below_size q2_)); replace HB := Aside0.mk (below_step q2_ hb); (try clear hb); (try clear hb2); (try clear hk); (try clear hi); (try clear ho0)) | ((with_reducible refine gate_dst (N := 1) rfl ?_); refine box_event ?hg (N := 1) ?hd (cs := #[.int .i64 0, .int .i64 0, .int .i64 0, .int .i64 0, .int .i64 0, .slice none 0 0]) (t := 56) ?hr ?_; (case hd => rfl); (case hg => rfl); (case hr => first | (go_simp; done) | (go_simp; rfl)); intro gb423 hg w26 hbox hb; have BK423 := Aside0.mk (hbox); have GW423 := Aside0.mk ((by rw [hg]; exact (below_size q2_) : w.heap.size ≤ gb423)); have GE423 := Aside0.mk ((by rw [hg]; exact (below_size q2_) : w.heap.size ≤ gb423)); replace HO420 := Aside0.mk (Kd.R_below q64_ hb); replace HB := Aside0.mk (below_step q2_ hb); clear hb hbox hg; obtain ⟨hcz27_0, hcz27_1, hcz27_2, hcz27_3, hcz27_4, hcz27_5, hfz27_0, hfz27_1, hfz27_2, hfz27_3, hfz27_4, hfz27_5⟩ := cells6_ BK423.out; obtain ⟨Ao28, co28, eo28⟩ := Kd.R_slice HO420.out; subst eo28) | ((with_reducible refine gate_callee (f := 61) rfl ?_); refine goesL_ (some 21) rfl rfl Try.func61 (by kernel_rfl) rfl #[] rfl q1_ ?_; (with_reducible refine (skifflaw20_held.calls k  t424 _ A3.out).mono ?_); rintro e w29 ⟨rfl, hb⟩; refine ⟨_, rfl, ?_⟩; replace HO420 := Aside0.mk (Kd.R_below (by (with_reducible repeat (first | apply Kd.R_alloc | apply Kd.R_drewN | apply Kd.R_drew)); exact (Kd.R_mono (Kd.R_far (p := ⟨gb423, 5, none⟩) (Kd.R_far (p := ⟨gb423, 4, none⟩) (Kd.R_far (p := ⟨gb423, 3, none⟩) (Kd.R_far (p := ⟨gb423, 2, none⟩) (Kd.R_far (p := ⟨gb423, 1, none⟩) (Kd.R_far (p := ⟨gb423, 0, none⟩) (Kd.R_types HO420.out BK423.out (by decide)) (fun _ hk => hk.2) (.int .i64 t413)) (fun _ hk => hk.2) (.int .i64 t414)) (fun _ hk => hk.2) (.int .i64 t415)) (fun _ hk => hk.2) (.int .i64 t416)) (fun _ hk => hk.2) (.int .i64 t417)) (fun _ hk => hk.2) (.slice Ao28 t418.length co28)) (fun _ h_ => h_.1))) hb); replace BK423 := Aside0.mk (blk_below (g := gb423) (o := .cells #[.int .i64 t413, .int .i64 t414, .int .i64 t415, .int .i64 t416, .int .i64 t417, .slice Ao28 t418.length co28] 56 (0, 0)) (by (with_reducible repeat (first | refine blk_drewN ?_ _ | refine blk_drew ?_ | refine blk_alloc ?_ _)); refine put6_ (cs := #[.int .i64 0, .int .i64 0, .int .i64 0, .int .i64 0, .int .i64 0, .slice none 0 0]) ?_ rfl; (with_reducible repeat (first | refine blk_drewN ?_ _ | refine blk_drew ?_ | refine blk_alloc ?_ _)); exact BK423.out) hb); replace HB := Aside0.mk (below_step q78_ hb); (try clear hb); (try clear hb2); (try clear hk); (try clear hi)) | ((with_reducible refine gate_callee (f := 24) rfl ?_); refine goesL_ (some 23) rfl rfl Try.func24 (by kernel_rfl) rfl #[.string t424, .agg #[.int .i64 0, .int .i64 0, .int .i64 0, .int .i64 0, .int .i64 0, .slice none 0 0], .int .i64 1, .int .i64 32] rfl q1_ ?_; (refine (upload_Give.calls k t424 0 0 0 0 0 _ _ ([] : List (S87)) 1 32 t425 t426 t427 t428 t429 t430 t433 t434 _ ?side1 ?side2 A4.out).mono ?_); (case side1 => exact Kd.C_nil _ _); (case side2 => exact Nat.le_refl _); rintro e w30 ⟨v431, rfl, ho0, hb⟩; refine ⟨_, rfl, ?_⟩; have HO432 := Aside0.mk (Kd.R_lower (Kd.R_new' ho0 (Kd.R_lt q64_)) (below_size q78_)); replace HO420 := Aside0.mk (Kd.R_elder' q64_ (Kd.R_base ho0) hb); replace BK423 := Aside0.mk (blk_below (g := gb423) q36_ hb); replace HB := Aside0.mk (below_step q78_ hb); (try clear hb); (try clear hb2); (try clear hk); (try clear hi); (try clear ho0)) | ((with_reducible refine gate_dst (N := 4) rfl ?_); refine box_event ?hg (N := 4) ?hd (cs := #[.int .i64 0, .int .i64 0, .int .i64 0, .int .i64 0, .int .i64 0, .slice none 0 0]) (t := 56) ?hr ?_; (case hd => rfl); (case hg => rfl); (case hr => first | (go_simp; done) | (go_simp; rfl)); intro gb435 hg w31 hbox hb; have BK435 := Aside0.mk (hbox); have GW435 := Aside0.mk ((by rw [hg]; exact (below_size q78_) : w.heap.size ≤ gb435)); have GE435 := Aside0.mk ((by rw [hg]; exact (below_size q78_) : w.heap.size ≤ gb435)); have NB423_435 := Aside0.mk (nl_ (g := gb423) hg q36_); have NB435_423 := Aside0.mk (ng_ (g := gb423) hg q36_); replace HO420 := Aside0.mk (Kd.R_below q64_ hb); replace HO432 := Aside0.mk (Kd.R_below q74_ hb); replace BK423 := Aside0.mk (blk_below (g := gb423) q36_ hb); replace HB := Aside0.mk (below_step q78_ hb); clear hb hbox hg; have hnb32 := NB435_423.out; have hnc32 := NB423_435.out; obtain ⟨hcz33_0, hcz33_1, hcz33_2, hcz33_3, hcz33_4, hcz33_5, hfz33_0, hfz33_1, hfz33_2, hfz33_3, hfz33_4, hfz33_5⟩ := cells6_ BK435.out; obtain ⟨Ao34, co34, eo34⟩ := Kd.R_slice HO432.out; subst eo34) | ((with_reducible refine gate_callee (f := 17) rfl ?_); refine goesL_ (some 28) rfl rfl Try.func17 (by kernel_rfl) rfl #[] rfl q1_ ?_; (with_reducible refine (skiffref1_Blank.calls k  t436 _ A5.out).mono ?_); rintro e w35 ⟨rfl, hb⟩; refine ⟨_, rfl, ?_⟩; replace HO420 := Aside0.mk (Kd.R_below (by (with_reducible repeat (first | apply Kd.R_alloc | apply Kd.R_drewN | apply Kd.R_drew)); exact (Kd.R_mono (Kd.R_far (p := ⟨gb435, 5, none⟩) (Kd.R_far (p := ⟨gb435, 4, none⟩) (Kd.R_far (p := ⟨gb435, 3, none⟩) (Kd.R_far (p := ⟨gb435, 2, none⟩) (Kd.R_far (p := ⟨gb435, 1, none⟩) (Kd.R_far (p := ⟨gb435, 0, none⟩) (Kd.R_types HO420.out BK435.out (by decide)) (fun _ hk => hk.2) (.int .i64 t425)) (fun _ hk => hk.2) (.int .i64 t426)) (fun _ hk => hk.2) (.int .i64 t427)) (fun _ hk => hk.2) (.int .i64 t428)) (fun _ hk => hk.2) (.int .i64 t429)) (fun _ hk => hk.2) (.slice Ao34 t430.length co34)) (fun _ h_ => h_.1))) hb); replace HO432 := Aside0.mk (Kd.R_below (by (with_reducible repeat (first | apply Kd.R_alloc | apply Kd.R_drewN | apply Kd.R_drew)); exact (Kd.R_mono (Kd.R_far (p := ⟨gb435, 5, none⟩) (Kd.R_far (p := ⟨gb435, 4, none⟩) (Kd.R_far (p := ⟨gb435, 3, none⟩) (Kd.R_far (p := ⟨gb435, 2, none⟩) (Kd.R_far (p := ⟨gb435, 1, none⟩) (Kd.R_far (p := ⟨gb435, 0, none⟩) (Kd.R_types HO432.out BK435.out (by decide)) (fun _ hk => hk.2) (.int .i64 t425)) (fun _ hk => hk.2) (.int .i64 t426)) (fun _ hk => hk.2) (.int .i64 t427)) (fun _ hk => hk.2) (.int .i64 t428)) (fun _ hk => hk.2) (.int .i64 t429)) (fun _ hk => hk.2) (.slice Ao34 t430.length co34)) (fun _ h_ => h_.1))) hb); replace BK423 := Aside0.mk (blk_below (g := gb423) (o := .cells #[.int .i64 t413, .int .i64 t414, .int .i64 t415, .int .i64 t416, .int .i64 t417, .slice Ao28 t418.length co28] 56 (0, 0)) (by (with_reducible repeat (first | refine blk_drewN ?_ _ | refine blk_drew ?_ | refine blk_alloc ?_ _)); (iterate 6 (refine blk_far ?_ NB423_435.out _; (with_reducible repeat (first | refine blk_drewN ?_ _ | refine blk_drew ?_ | refine blk_alloc ?_ _)))); exact BK423.out) hb); replace BK435 := Aside0.mk (blk_below (g := gb435) (o := .cells #[.int .i64 t425, .int .i64 t426, .int .i64 t427, .int .i64 t428, .int .i64 t429, .slice Ao34 t430.length co34] 56 (0, 0)) (by (with_reducible repeat (first | refine blk_drewN ?_ _ | refine blk_drew ?_ | refine blk_alloc ?_ _)); refine put6_ (cs := #[.int .i64 0, .int .i64 0, .int .i64 0, .int .i64 0, .int .i64 0, .slice none 0 0]) ?_ rfl; (with_reducible repeat (first | refine blk_drewN ?_ _ | refine blk_drew ?_ | refine blk_alloc ?_ _)); exact BK435.out) hb); replace HB := Aside0.mk (below_step q72_ hb); (try clear hb); (try clear hb2); (try clear hk); (try clear hi)) | ((with_reducible refine gate_callee (f := 24) rfl ?_); refine goesL_ (some 30) rfl rfl Try.func24 (by kernel_rfl) rfl #[.string t436, .agg #[.int .i64 0, .int .i64 0, .int .i64 0, .int .i64 0, .int .i64 0, .slice none 0 0], .int .i64 0, .int .i64 32] rfl q1_ ?_; (refine (upload_Give.calls k t436 0 0 0 0 0 _ _ ([] : List (S87)) 0 32 t437 t438 t439 t440 t441 t442 t445 t446 _ ?side1 ?side2 A6.out).mono ?_); (case side1 => exact Kd.C_nil _ _); (case side2 => exact Nat.le_refl _); rintro e w36 ⟨v443, rfl, ho0, hb⟩; refine ⟨_, rfl, ?_⟩; have HO444 := Aside0.mk (Kd.R_lower (Kd.R_new' (Kd.R_new' ho0 (Kd.R_lt q64_)) (Kd.R_lt q74_)) (below_size q72_)); replace HO420 := Aside0.mk (Kd.R_elder' q64_ (Kd.R_base ho0) hb); replace HO432 := Aside0.mk (Kd.R_elder' q74_ (Kd.R_base ho0) hb); replace BK423 := Aside0.mk (blk_below (g := gb423) q36_ hb); replace BK435 := Aside0.mk (blk_below (g := gb435) q69_ hb); replace HB := Aside0.mk (below_step q72_ hb); (try clear hb); (try clear hb2); (try clear hk); (try clear hi); (try clear ho0)) | ((with_reducible refine gate_dst (N := 7) rfl ?_); refine box_event ?hg (N := 7) ?hd (cs := #[.int .i64 0, .int .i64 0, .int .i64 0, .int .i64 0, .int .i64 0, .slice none 0 0]) (t := 56) ?hr ?_; (case hd => rfl); (case hg => rfl); (case hr => first | (go_simp; done) | (go_simp; rfl)); intro gb447 hg w37 hbox hb; have BK447 := Aside0.mk (hbox); have GW447 := Aside0.mk ((by rw [hg]; exact (below_size q72_) : w.heap.size ≤ gb447)); have GE447 := Aside0.mk ((by rw [hg]; exact (below_size q72_) : w.heap.size ≤ gb447)); have NB423_447 := Aside0.mk (nl_ (g := gb423) hg q36_); have NB447_423 := Aside0.mk (ng_ (g := gb423) hg q36_); have NB435_447 := Aside0.mk (nl_ (g := gb435) hg q69_); have NB447_435 := Aside0.mk (ng_ (g := gb435) hg q69_); replace HO420 := Aside0.mk (Kd.R_below q64_ hb); replace HO432 := Aside0.mk (Kd.R_below q74_ hb); replace HO444 := Aside0.mk (Kd.R_below q94_ hb); replace BK423 := Aside0.mk (blk_below (g := gb423) q36_ hb); replace BK435 := Aside0.mk (blk_below (g := gb435) q69_ hb); replace HB := Aside0.mk (below_step q72_ hb); clear hb hbox hg; have hnb38 := NB447_423.out; have hnc38 := NB423_447.out; have hnb39 := NB447_435.out; have hnc39 := NB435_447.out; obtain ⟨hcz40_0, hcz40_1, hcz40_2, hcz40_3, hcz40_4, hcz40_5, hfz40_0, hfz40_1, hfz40_2, hfz40_3, hfz40_4, hfz40_5⟩ := cells6_ BK447.out; obtain ⟨Ao41, co41, eo41⟩ := Kd.R_slice HO444.out; subst eo41) | ((with_reducible refine gate_callee (f := 61) rfl ?_); refine goesL_ (some 35) rfl rfl Try.func61 (by kernel_rfl) rfl #[] rfl q1_ ?_; (with_reducible refine (skifflaw20_held.calls k  t448 _ A7.out).mono ?_); rintro e w42 ⟨rfl, hb⟩; refine ⟨_, rfl, ?_⟩; replace HO420 := Aside0.mk (Kd.R_below (by (with_reducible repeat (first | apply Kd.R_alloc | apply Kd.R_drewN | apply Kd.R_drew)); exact (Kd.R_mono (Kd.R_far (p := ⟨gb447, 5, none⟩) (Kd.R_far (p := ⟨gb447, 4, none⟩) (Kd.R_far (p := ⟨gb447, 3, none⟩) (Kd.R_far (p := ⟨gb447, 2, none⟩) (Kd.R_far (p := ⟨gb447, 1, none⟩) (Kd.R_far (p := ⟨gb447, 0, none⟩) (Kd.R_types HO420.out BK447.out (by decide)) (fun _ hk => hk.2) (.int .i64 t437)) (fun _ hk => hk.2) (.int .i64 t438)) (fun _ hk => hk.2) (.int .i64 t439)) (fun _ hk => hk.2) (.int .i64 t440)) (fun _ hk => hk.2) (.int .i64 t441)) (fun _ hk => hk.2) (.slice Ao41 t442.length co41)) (fun _ h_ => h_.1))) hb); replace HO432 := Aside0.mk (Kd.R_below (by (with_reducible repeat (first | apply Kd.R_alloc | apply Kd.R_drewN | apply Kd.R_drew)); exact (Kd.R_mono (Kd.R_far (p := ⟨gb447, 5, none⟩) (Kd.R_far (p := ⟨gb447, 4, none⟩) (Kd.R_far (p := ⟨gb447, 3, none⟩) (Kd.R_far (p := ⟨gb447, 2, none⟩) (Kd.R_far (p := ⟨gb447, 1, none⟩) (Kd.R_far (p := ⟨gb447, 0, none⟩) (Kd.R_types HO432.out BK447.out (by decide)) (fun _ hk => hk.2) (.int .i64 t437)) (fun _ hk => hk.2) (.int .i64 t438)) (fun _ hk => hk.2) (.int .i64 t439)) (fun _ hk => hk.2) (.int .i64 t440)) (fun _ hk => hk.2) (.int .i64 t441)) (fun _ hk => hk.2) (.slice Ao41 t442.length co41)) (fun _ h_ => h_.1))) hb); replace HO444 := Aside0.mk (Kd.R_below (by (with_reducible repeat (first | apply Kd.R_alloc | apply Kd.R_drewN | apply Kd.R_drew)); exact (Kd.R_mono (Kd.R_far (p := ⟨gb447, 5, none⟩) (Kd.R_far (p := ⟨gb447, 4, none⟩) (Kd.R_far (p := ⟨gb447, 3, none⟩) (Kd.R_far (p := ⟨gb447, 2, none⟩) (Kd.R_far (p := ⟨gb447, 1, none⟩) (Kd.R_far (p := ⟨gb447, 0, none⟩) (Kd.R_types HO444.out BK447.out (by decide)) (fun _ hk => hk.2) (.int .i64 t437)) (fun _ hk => hk.2) (.int .i64 t438)) (fun _ hk => hk.2) (.int .i64 t439)) (fun _ hk => hk.2) (.int .i64 t440)) (fun _ hk => hk.2) (.int .i64 t441)) (fun _ hk => hk.2) (.slice Ao41 t442.length co41)) (fun _ h_ => h_.1))) hb); replace BK423 := Aside0.mk (blk_below (g := gb423) (o := .cells #[.int .i64 t413, .int .i64 t414, .int .i64 t415, .int .i64 t416, .int .i64 t417, .slice Ao28 t418.length co28] 56 (0, 0)) (by (with_reducible repeat (first | refine blk_drewN ?_ _ | refine blk_drew ?_ | refine blk_alloc ?_ _)); (iterate 6 (refine blk_far ?_ NB423_447.out _; (with_reducible repeat (first | refine blk_drewN ?_ _ | refine blk_drew ?_ | refine blk_alloc ?_ _)))); exact BK423.out) hb); replace BK435 := Aside0.mk (blk_below (g := gb435) (o := .cells #[.int .i64 t425, .int .i64 t426, .int .i64 t427, .int .i64 t428, .int .i64 t429, .slice Ao34 t430.length co34] 56 (0, 0)) (by (with_reducible repeat (first | refine blk_drewN ?_ _ | refine blk_drew ?_ | refine blk_alloc ?_ _)); (iterate 6 (refine blk_far ?_ NB435_447.out _; (with_reducible repeat (first | refine blk_drewN ?_ _ | refine blk_drew ?_ | refine blk_alloc ?_ _)))); exact BK435.out) hb); replace BK447 := Aside0.mk (blk_below (g := gb447) (o := .cells #[.int .i64 t437, .int .i64 t438, .int .i64 t439, .int .i64 t440, .int .i64 t441, .slice Ao41 t442.length co41] 56 (0, 0)) (by (with_reducible repeat (first | refine blk_drewN ?_ _ | refine blk_drew ?_ | refine blk_alloc ?_ _)); refine put6_ (cs := #[.int .i64 0, .int .i64 0, .int .i64 0, .int .i64 0, .int .i64 0, .slice none 0 0]) ?_ rfl; (with_reducible repeat (first | refine blk_drewN ?_ _ | refine blk_drew ?_ | refine blk_alloc ?_ _)); exact BK447.out) hb); replace HB := Aside0.mk (below_step q68_ hb); (try clear hb); (try clear hb2); (try clear hk); (try clear hi)) | ((with_reducible refine gate_callee (f := 24) rfl ?_); refine goesL_ (some 37) rfl rfl Try.func24 (by kernel_rfl) rfl #[.string t448, .agg #[.int .i64 2, .int .i64 0, .int .i64 0, .int .i64 0, .int .i64 0, .slice none 0 0], .int .i64 0, .int .i64 32] rfl q1_ ?_; (refine (upload_Give.calls k t448 2 0 0 0 0 _ _ ([] : List (S87)) 0 32 t449 t450 t451 t452 t453 t454 t457 t458 _ ?side1 ?side2 A8.out).mono ?_); (case side1 => exact Kd.C_nil _ _); (case side2 => exact Nat.le_refl _); rintro e w43 ⟨v455, rfl, ho0, hb⟩; refine ⟨_, rfl, ?_⟩; have HO456 := Aside0.mk (Kd.R_lower (Kd.R_new' (Kd.R_new' (Kd.R_new' ho0 (Kd.R_lt q64_)) (Kd.R_lt q74_)) (Kd.R_lt q94_)) (below_size q68_)); replace HO420 := Aside0.mk (Kd.R_elder' q64_ (Kd.R_base ho0) hb); replace HO432 := Aside0.mk (Kd.R_elder' q74_ (Kd.R_base ho0) hb); replace HO444 := Aside0.mk (Kd.R_elder' q94_ (Kd.R_base ho0) hb); replace BK423 := Aside0.mk (blk_below (g := gb423) q36_ hb); replace BK435 := Aside0.mk (blk_below (g := gb435) q69_ hb); replace BK447 := Aside0.mk (blk_below (g := gb447) q101_ hb); replace HB := Aside0.mk (below_step q68_ hb); (try clear hb); (try clear hb2); (try clear hk); (try clear hi); (try clear ho0)) | ((with_reducible refine gate_dst (N := 10) rfl ?_); refine box_event ?hg (N := 10) ?hd (cs := #[.int .i64 0, .int .i64 0, .int .i64 0, .int .i64 0, .int .i64 0, .slice none 0 0]) (t := 56) ?hr ?_; (case hd => rfl); (case hg => rfl); (case hr => first | (go_simp; done) | (go_simp; rfl)); intro gb459 hg w44 hbox hb; have BK459 := Aside0.mk (hbox); have GW459 := Aside0.mk ((by rw [hg]; exact (below_size q68_) : w.heap.size ≤ gb459)); have GE459 := Aside0.mk ((by rw [hg]; exact (below_size q68_) : w.heap.size ≤ gb459)); have NB423_459 := Aside0.mk (nl_ (g := gb423) hg q36_); have NB459_423 := Aside0.mk (ng_ (g := gb423) hg q36_); have NB435_459 := Aside0.mk (nl_ (g := gb435) hg q69_); have NB459_435 := Aside0.mk (ng_ (g := gb435) hg q69_); have NB447_459 := Aside0.mk (nl_ (g := gb447) hg q101_); have NB459_447 := Aside0.mk (ng_ (g := gb447) hg q101_); replace HO420 := Aside0.mk (Kd.R_below q64_ hb); replace HO432 := Aside0.mk (Kd.R_below q74_ hb); replace HO444 := Aside0.mk (Kd.R_below q94_ hb); replace HO456 := Aside0.mk (Kd.R_below q124_ hb); replace BK423 := Aside0.mk (blk_below (g := gb423) q36_ hb); replace BK435 := Aside0.mk (blk_below (g := gb435) q69_ hb); replace BK447 := Aside0.mk (blk_below (g := gb447) q101_ hb); replace HB := Aside0.mk (below_step q68_ hb); clear hb hbox hg; have hnb45 := NB459_423.out; have hnc45 := NB423_459.out; have hnb46 := NB459_435.out; have hnc46 := NB435_459.out; have hnb47 := NB459_447.out; have hnc47 := NB447_459.out; obtain ⟨hcz48_0, hcz48_1, hcz48_2, hcz48_3, hcz48_4, hcz48_5, hfz48_0, hfz48_1, hfz48_2, hfz48_3, hfz48_4, hfz48_5⟩ := cells6_ BK459.out; obtain ⟨Ao49, co49, eo49⟩ := Kd.R_slice HO456.out; subst eo49))
 have n0_ : Aside0 (Kd.R k87 87 ((((((w44.setCell ⟨gb459, 0, none⟩ (.int .i64 t449)).setCell ⟨gb459, 1, none⟩ (.int .i64 t450)).setCell ⟨gb459, 2, none⟩ (.int .i64 t451)).setCell ⟨gb459, 3, none⟩ (.int .i64 t452)).setCell ⟨gb459, 4, none⟩ (.int .i64 t453)).setCell ⟨gb459, 5, none⟩ (.slice Ao49 t454.length co49)) w.heap.size (fun k_ => some k_ ≠ (.slice Ao34 t430.length co34 : Value).ownBlock ∧ some k_ ≠ (.slice Ao41 t442.length co41 : Value).ownBlock ∧ some k_ ≠ (.slice Ao49 t454.length co49 : Value).ownBlock) (.slice Ao28 t418.length co28) t418) := ⟨by (with_reducible repeat (first | apply Kd.R_alloc | apply Kd.R_drewN | apply Kd.R_drew)); exact Kd.R_mono (Kd.R_far (p := ⟨gb459, 5, none⟩) (Kd.R_far (p := ⟨gb459, 4, none⟩) (Kd.R_far (p := ⟨gb459, 3, none⟩) (Kd.R_far (p := ⟨gb459, 2, none⟩) (Kd.R_far (p := ⟨gb459, 1, none⟩) (Kd.R_far (p := ⟨gb459, 0, none⟩) (Kd.R_types HO420.out BK459.out (by decide)) (fun _ hk => hk.2) (.int .i64 t449)) (fun _ hk => hk.2) (.int .i64 t450)) (fun _ hk => hk.2) (.int .i64 t451)) (fun _ hk => hk.2) (.int .i64 t452)) (fun _ hk => hk.2) (.int .i64 t453)) (fun _ hk => hk.2) (.slice Ao49 t454.length co49)) (fun _ hk => ⟨hk.1.1.1.2, ⟨hk.1.1.2, hk.1.2⟩⟩)⟩
 have n1_ : Aside0 (Kd.R k87 87 ((((((w44.setCell ⟨gb459, 0, none⟩ (.int .i64 t449)).setCell ⟨gb459, 1, none⟩ (.int .i64 t450)).setCell ⟨gb459, 2, none⟩ (.int .i64 t451)).setCell ⟨gb459, 3, none⟩ (.int .i64 t452)).setCell ⟨gb459, 4, none⟩ (.int .i64 t453)).setCell ⟨gb459, 5, none⟩ (.slice Ao49 t454.length co49)) w.heap.size (fun k_ => some k_ ≠ (.slice Ao28 t418.length co28 : Value).ownBlock ∧ some k_ ≠ (.slice Ao41 t442.length co41 : Value).ownBlock ∧ some k_ ≠ (.slice Ao49 t454.length co49 : Value).ownBlock) (.slice Ao34 t430.length co34) t430) := ⟨by (with_reducible repeat (first | apply Kd.R_alloc | apply Kd.R_drewN | apply Kd.R_drew)); exact Kd.R_mono (Kd.R_far (p := ⟨gb459, 5, none⟩) (Kd.R_far (p := ⟨gb459, 4, none⟩) (Kd.R_far (p := ⟨gb459, 3, none⟩) (Kd.R_far (p := ⟨gb459, 2, none⟩) (Kd.R_far (p := ⟨gb459, 1, none⟩) (Kd.R_far (p := ⟨gb459, 0, none⟩) (Kd.R_types HO432.out BK459.out (by decide)) (fun _ hk => hk.2) (.int .i64 t449)) (fun _ hk => hk.2) (.int .i64 t450)) (fun _ hk => hk.2) (.int .i64 t451)) (fun _ hk => hk.2) (.int .i64 t452)) (fun _ hk => hk.2) (.int .i64 t453)) (fun _ hk => hk.2) (.slice Ao49 t454.length co49)) (fun _ hk => ⟨hk.1.1.1.2, ⟨hk.1.1.2, hk.1.2⟩⟩)⟩
 have n2_ : Aside0 (Kd.R k87 87 ((((((w44.setCell ⟨gb459, 0, none⟩ (.int .i64 t449)).setCell ⟨gb459, 1, none⟩ (.int .i64 t450)).setCell ⟨gb459, 2, none⟩ (.int .i64 t451)).setCell ⟨gb459, 3, none⟩ (.int .i64 t452)).setCell ⟨gb459, 4, none⟩ (.int .i64 t453)).setCell ⟨gb459, 5, none⟩ (.slice Ao49 t454.length co49)) w.heap.size (fun k_ => some k_ ≠ (.slice Ao28 t418.length co28 : Value).ownBlock ∧ some k_ ≠ (.slice Ao34 t430.length co34 : Value).ownBlock ∧ some k_ ≠ (.slice Ao49 t454.length co49 : Value).ownBlock) (.slice Ao41 t442.length co41) t442) := ⟨by (with_reducible repeat (first | apply Kd.R_alloc | apply Kd.R_drewN | apply Kd.R_drew)); exact Kd.R_mono (Kd.R_far (p := ⟨gb459, 5, none⟩) (Kd.R_far (p := ⟨gb459, 4, none⟩) (Kd.R_far (p := ⟨gb459, 3, none⟩) (Kd.R_far (p := ⟨gb459, 2, none⟩) (Kd.R_far (p := ⟨gb459, 1, none⟩) (Kd.R_far (p := ⟨gb459, 0, none⟩) (Kd.R_types HO444.out BK459.out (by decide)) (fun _ hk => hk.2) (.int .i64 t449)) (fun _ hk => hk.2) (.int .i64 t450)) (fun _ hk => hk.2) (.int .i64 t451)) (fun _ hk => hk.2) (.int .i64 t452)) (fun _ hk => hk.2) (.int .i64 t453)) (fun _ hk => hk.2) (.slice Ao49 t454.length co49)) (fun _ hk => ⟨hk.1.1.1.2, ⟨hk.1.1.2, hk.1.2⟩⟩)⟩
 have n3_ : Aside0 (Kd.R k87 87 ((((((w44.setCell ⟨gb459, 0, none⟩ (.int .i64 t449)).setCell ⟨gb459, 1, none⟩ (.int .i64 t450)).setCell ⟨gb459, 2, none⟩ (.int .i64 t451)).setCell ⟨gb459, 3, none⟩ (.int .i64 t452)).setCell ⟨gb459, 4, none⟩ (.int .i64 t453)).setCell ⟨gb459, 5, none⟩ (.slice Ao49 t454.length co49)) w.heap.size (fun k_ => some k_ ≠ (.slice Ao28 t418.length co28 : Value).ownBlock ∧ some k_ ≠ (.slice Ao34 t430.length co34 : Value).ownBlock ∧ some k_ ≠ (.slice Ao41 t442.length co41 : Value).ownBlock) (.slice Ao49 t454.length co49) t454) := ⟨by (with_reducible repeat (first | apply Kd.R_alloc | apply Kd.R_drewN | apply Kd.R_drew)); exact Kd.R_mono (Kd.R_far (p := ⟨gb459, 5, none⟩) (Kd.R_far (p := ⟨gb459, 4, none⟩) (Kd.R_far (p := ⟨gb459, 3, none⟩) (Kd.R_far (p := ⟨gb459, 2, none⟩) (Kd.R_far (p := ⟨gb459, 1, none⟩) (Kd.R_far (p := ⟨gb459, 0, none⟩) (Kd.R_types HO456.out BK459.out (by decide)) (fun _ hk => hk.2) (.int .i64 t449)) (fun _ hk => hk.2) (.int .i64 t450)) (fun _ hk => hk.2) (.int .i64 t451)) (fun _ hk => hk.2) (.int .i64 t452)) (fun _ hk => hk.2) (.int .i64 t453)) (fun _ hk => hk.2) (.slice Ao49 t454.length co49)) (fun _ hk => ⟨hk.1.1.1.2, ⟨hk.1.1.2, hk.1.2⟩⟩)⟩
 have n4_ : Aside0 (((((((w44.setCell ⟨gb459, 0, none⟩ (.int .i64 t449)).setCell ⟨gb459, 1, none⟩ (.int .i64 t450)).setCell ⟨gb459, 2, none⟩ (.int .i64 t451)).setCell ⟨gb459, 3, none⟩ (.int .i64 t452)).setCell ⟨gb459, 4, none⟩ (.int .i64 t453)).setCell ⟨gb459, 5, none⟩ (.slice Ao49 t454.length co49)).heap[gb423]? = some (.cells #[.int .i64 t413, .int .i64 t414, .int .i64 t415, .int .i64 t416, .int .i64 t417, .slice Ao28 t418.length co28] 56 (0, 0))) := ⟨by (with_reducible repeat (first | refine blk_drewN ?_ _ | refine blk_drew ?_ | refine blk_alloc ?_ _)); (iterate 6 (refine blk_far ?_ NB423_459.out _; (with_reducible repeat (first | refine blk_drewN ?_ _ | refine blk_drew ?_ | refine blk_alloc ?_ _)))); exact BK423.out⟩
 have n5_ : Aside0 (((((((w44.setCell ⟨gb459, 0, none⟩ (.int .i64 t449)).setCell ⟨gb459, 1, none⟩ (.int .i64 t450)).setCell ⟨gb459, 2, none⟩ (.int .i64 t451)).setCell ⟨gb459, 3, none⟩ (.int .i64 t452)).setCell ⟨gb459, 4, none⟩ (.int .i64 t453)).setCell ⟨gb459, 5, none⟩ (.slice Ao49 t454.length co49)).heap[gb435]? = some (.cells #[.int .i64 t425, .int .i64 t426, .int .i64 t427, .int .i64 t428, .int .i64 t429, .slice Ao34 t430.length co34] 56 (0, 0))) := ⟨by (with_reducible repeat (first | refine blk_drewN ?_ _ | refine blk_drew ?_ | refine blk_alloc ?_ _)); (iterate 6 (refine blk_far ?_ NB435_459.out _; (with_reducible repeat (first | refine blk_drewN ?_ _ | refine blk_drew ?_ | refine blk_alloc ?_ _)))); exact BK435.out⟩
 have n6_ : Aside0 (((((((w44.setCell ⟨gb459, 0, none⟩ (.int .i64 t449)).setCell ⟨gb459, 1, none⟩ (.int .i64 t450)).setCell ⟨gb459, 2, none⟩ (.int .i64 t451)).setCell ⟨gb459, 3, none⟩ (.int .i64 t452)).setCell ⟨gb459, 4, none⟩ (.int .i64 t453)).setCell ⟨gb459, 5, none⟩ (.slice Ao49 t454.length co49)).heap[gb447]? = some (.cells #[.int .i64 t437, .int .i64 t438, .int .i64 t439, .int .i64 t440, .int .i64 t441, .slice Ao41 t442.length co41] 56 (0, 0))) := ⟨by (with_reducible repeat (first | refine blk_drewN ?_ _ | refine blk_drew ?_ | refine blk_alloc ?_ _)); (iterate 6 (refine blk_far ?_ NB447_459.out _; (with_reducible repeat (first | refine blk_drewN ?_ _ | refine blk_drew ?_ | refine blk_alloc ?_ _)))); exact BK447.out⟩
 have n7_ : Aside0 (((((((w44.setCell ⟨gb459, 0, none⟩ (.int .i64 t449)).setCell ⟨gb459, 1, none⟩ (.int .i64 t450)).setCell ⟨gb459, 2, none⟩ (.int .i64 t451)).setCell ⟨gb459, 3, none⟩ (.int .i64 t452)).setCell ⟨gb459, 4, none⟩ (.int .i64 t453)).setCell ⟨gb459, 5, none⟩ (.slice Ao49 t454.length co49)).heap[gb459]? = some (.cells #[.int .i64 t449, .int .i64 t450, .int .i64 t451, .int .i64 t452, .int .i64 t453, .slice Ao49 t454.length co49] 56 (0, 0))) := ⟨by (with_reducible repeat (first | refine blk_drewN ?_ _ | refine blk_drew ?_ | refine blk_alloc ?_ _)); refine put6_ (cs := #[.int .i64 0, .int .i64 0, .int .i64 0, .int .i64 0, .int .i64 0, .slice none 0 0]) ?_ rfl; (with_reducible repeat (first | refine blk_drewN ?_ _ | refine blk_drew ?_ | refine blk_alloc ?_ _)); exact BK459.out⟩
 have n8_ : Aside0 (Below w.heap.size w ((((((w44.setCell ⟨gb459, 0, none⟩ (.int .i64 t449)).setCell ⟨gb459, 1, none⟩ (.int .i64 t450)).setCell ⟨gb459, 2, none⟩ (.int .i64 t451)).setCell ⟨gb459, 3, none⟩ (.int .i64 t452)).setCell ⟨gb459, 4, none⟩ (.int .i64 t453)).setCell ⟨gb459, 5, none⟩ (.slice Ao49 t454.length co49))) := ⟨by repeat (first | (with_reducible first | exact HB.out | apply below_alloc | apply pw_below_drewN | apply below_drew1 | refine below_set ?_ GE423.out | refine below_set ?_ GE435.out | refine below_set ?_ GE447.out | refine below_set ?_ GE459.out) | exact HB.out)⟩
 (try clear HO420)
 (try clear HO432)
 (try clear HO444)
 (try clear HO456)
 (try clear BK423)
 (try clear BK435)
 (try clear BK447)
 (try clear BK459)
 (try clear HB)
 generalize ((((((w44.setCell ⟨gb459, 0, none⟩ (.int .i64 t449)).setCell ⟨gb459, 1, none⟩ (.int .i64 t450)).setCell ⟨gb459, 2, none⟩ (.int .i64 t451)).setCell ⟨gb459, 3, none⟩ (.int .i64 t452)).setCell ⟨gb459, 4, none⟩ (.int .i64 t453)).setCell ⟨gb459, 5, none⟩ (.slice Ao49 t454.length co49)) = w50 at n0_ n1_ n2_ n3_ n4_ n5_ n6_ n7_ n8_ ⊢
 have HO420 := n0_
 have HO432 := n1_
 have HO444 := n2_
 have HO456 := n3_
 have BK423 := n4_
 have BK435 := n5_
 have BK447 := n6_
 have BK459 := n7_
 have HB := n8_
 clear n0_ n1_ n2_ n3_ n4_ n5_ n6_ n7_ n8_
 replace HO420 := Aside0.mk (Kd.R_drew HO420.out)
 replace HO432 := Aside0.mk (Kd.R_drew HO432.out)
 replace HO444 := Aside0.mk (Kd.R_drew HO444.out)
 replace HO456 := Aside0.mk (Kd.R_drew HO456.out)
 replace BK423 := Aside0.mk (blk_drew BK423.out)
 replace BK435 := Aside0.mk (blk_drew BK435.out)
 replace BK447 := Aside0.mk (blk_drew BK447.out)
 replace BK459 := Aside0.mk (blk_drew BK459.out)
 replace HB := Aside0.mk (below_drew1 HB.out)
 refine start_ (n := 46) (S := fun w' => w'.cell? ⟨gb423, 0, none⟩ = some (.int .i64 t413) ∧ w'.cell? ⟨gb423, 1, none⟩ = some (.int .i64 t414) ∧ w'.cell? ⟨gb423, 2, none⟩ = some (.int .i64 t415) ∧ w'.cell? ⟨gb423, 3, none⟩ = some (.int .i64 t416) ∧ w'.cell? ⟨gb423, 4, none⟩ = some (.int .i64 t417) ∧ w'.cell? ⟨gb423, 5, none⟩ = some (.slice Ao28 t418.length co28) ∧ w'.cell? ⟨gb435, 0, none⟩ = some (.int .i64 t425) ∧ w'.cell? ⟨gb435, 1, none⟩ = some (.int .i64 t426) ∧ w'.cell? ⟨gb435, 2, none⟩ = some (.int .i64 t427) ∧ w'.cell? ⟨gb435, 3, none⟩ = some (.int .i64 t428) ∧ w'.cell? ⟨gb435, 4, none⟩ = some (.int .i64 t429) ∧ w'.cell? ⟨gb435, 5, none⟩ = some (.slice Ao34 t430.length co34) ∧ w'.cell? ⟨gb447, 0, none⟩ = some (.int .i64 t437) ∧ w'.cell? ⟨gb447, 1, none⟩ = some (.int .i64 t438) ∧ w'.cell? ⟨gb447, 2, none⟩ = some (.int .i64 t439) ∧ w'.cell? ⟨gb447, 3, none⟩ = some (.int .i64 t440) ∧ w'.cell? ⟨gb447, 4, none⟩ = some (.int .i64 t441) ∧ w'.cell? ⟨gb447, 5, none⟩ = some (.slice Ao41 t442.length co41)) (ds := []) #[false, false, false, false, false, false, false, false, false, false, false, false, false, false, false, false, false, false, false, false, false, false, false, false, false, false, false, false, false, false, false, false, false, false, false, false, false, false, false, false, false, false, false, false, false, false] (by kernel_rfl) rfl rfl ⟨(blk_cell BK423.out 0).trans rfl, (blk_cell BK423.out 1).trans rfl, (blk_cell BK423.out 2).trans rfl, (blk_cell BK423.out 3).trans rfl, (blk_cell BK423.out 4).trans rfl, (blk_cell BK423.out 5).trans rfl, (blk_cell BK435.out 0).trans rfl, (blk_cell BK435.out 1).trans rfl, (blk_cell BK435.out 2).trans rfl, (blk_cell BK435.out 3).trans rfl, (blk_cell BK435.out 4).trans rfl, (blk_cell BK435.out 5).trans rfl, (blk_cell BK447.out 0).trans rfl, (blk_cell BK447.out 1).trans rfl, (blk_cell BK447.out 2).trans rfl, (blk_cell BK447.out 3).trans rfl, (blk_cell BK447.out 4).trans rfl, (blk_cell BK447.out 5).trans rfl⟩ (fun hHeld => ?_); refine with_tabW skifflaw20_awake.tab5 skifflaw20_awake.bits5 (fun HT_ HW_ => ?_)
 generalize w50.drew = w51 at HO420 HO432 HO444 HO456 BK423 BK435 BK447 BK459 HB hHeld ⊢
 refine take_ (i := 0) (N := some 41) (v := ?_) (a' := ?_) #[true, false, false, false, false, false, false, false, false, false, false, false, false, false, false, false, false, false, false, false, false, false, false, false, false, false, false, false, false, false, false, false, false, false, false, false, false, false, false, false, false, false, false, false, false, false] rfl rfl (take_ofW HT_.out HW_.out (by kernel_rfl)) (fun _ _ _ h => h) (Or.inl ⟨by rfl, ?_⟩) hHeld ?_ ?_
 rotate_left
 ·rintro w' ⟨s0, s1, s2, s3, s4, s5, s6, s7, s8, s9, s10, s11, s12, s13, s14, s15, s16, s17⟩
  go_simp
  with_reducible rfl
 rotate_left
 ·simp only [Act.put, sl1_, sl2_, sl3_, i64_w, i32_w]
  rfl
 refine one_ (i := 1) (N := some 42) #[true, true, false, false, false, false, false, false, false, false, false, false, false, false, false, false, false, false, false, false, false, false, false, false, false, false, false, false, false, false, false, false, false, false, false, false, false, false, false, false, false, false, false, false, false, false] rfl rfl (one_of HT_.out (by kernel_rfl)) (by decide) (fun K hK => ?_)
 refine goes_ Try.func57 (by kernel_rfl) rfl #[] (by rfl) rfl rfl q1_ ?_
 with_reducible refine (skiffref16_NewDevice.calls  t460 t461 t462 t463 t464 t465 _ A9.out).mono ?_
 rintro e w52 ⟨v466, rfl, ho0, hb⟩
 refine ⟨_, rfl, ?_⟩
 have HO467 := Aside0.mk (Kd.R_lower (Kd.R_new' (Kd.R_new' (Kd.R_new' (Kd.R_new' ho0 (Kd.R_lt q64_)) (Kd.R_lt q74_)) (Kd.R_lt q94_)) (Kd.R_lt q124_)) (below_size q106_))
 replace HO420 := Aside0.mk (Kd.R_elder' q64_ (Kd.R_base ho0) hb)
 replace HO432 := Aside0.mk (Kd.R_elder' q74_ (Kd.R_base ho0) hb)
 replace HO444 := Aside0.mk (Kd.R_elder' q94_ (Kd.R_base ho0) hb)
 replace HO456 := Aside0.mk (Kd.R_elder' q124_ (Kd.R_base ho0) hb)
 replace BK423 := Aside0.mk (blk_below (g := gb423) q36_ hb)
 replace BK435 := Aside0.mk (blk_below (g := gb435) q69_ hb)
 replace BK447 := Aside0.mk (blk_below (g := gb447) q101_ hb)
 replace BK459 := Aside0.mk (blk_below (g := gb459) (by (with_reducible repeat (first | refine blk_drewN ?_ _ | refine blk_drew ?_ | refine blk_alloc ?_ _)); exact BK459.out) hb)
 replace HB := Aside0.mk (below_step q106_ hb)
 (try clear hb)
 (try clear hb2)
 (try clear hk)
 (try clear hi)
 (try clear ho0)
 obtain ⟨Ao53, co53, eo53⟩ := Kd.R_slice HO467.out
 (first | subst eo53 | (injection eo53 with f1_ f2_ f3_; have f4_ := f1_.symm; have f5_ := f3_.symm; clear f1_ f2_ f3_; subst f4_; subst f5_))
 refine hK.out _ _ ⟨(blk_cell BK423.out 0).trans rfl, (blk_cell BK423.out 1).trans rfl, (blk_cell BK423.out 2).trans rfl, (blk_cell BK423.out 3).trans rfl, (blk_cell BK423.out 4).trans rfl, (blk_cell BK423.out 5).trans rfl, (blk_cell BK435.out 0).trans rfl, (blk_cell BK435.out 1).trans rfl, (blk_cell BK435.out 2).trans rfl, (blk_cell BK435.out 3).trans rfl, (blk_cell BK435.out 4).trans rfl, (blk_cell BK435.out 5).trans rfl, (blk_cell BK447.out 0).trans rfl, (blk_cell BK447.out 1).trans rfl, (blk_cell BK447.out 2).trans rfl, (blk_cell BK447.out 3).trans rfl, (blk_cell BK447.out 4).trans rfl, (blk_cell BK447.out 5).trans rfl⟩ (fun hHeld => ?_)
 clear hK K
 refine norm_ (a' := ?_) ?_ ?_
 rotate_left
 ·show Act.put _ (some 42) _ = _
  simp only [Act.put, sl1_, sl2_, sl3_, i64_w, i32_w]
  rfl
 refine one_ (i := 2) (N := some 43) #[true, true, true, false, false, false, false, false, false, false, false, false, false, false, false, false, false, false, false, false, false, false, false, false, false, false, false, false, false, false, false, false, false, false, false, false, false, false, false, false, false, false, false, false, false, false] rfl rfl (one_of HT_.out (by kernel_rfl)) (by decide) (fun K hK => ?_)
 refine goes_ Try.func26 (by kernel_rfl) rfl #[.agg #[.int .i64 t413, .int .i64 t414, .int .i64 t415, .int .i64 t416, .int .i64 t417, .slice Ao28 t418.length co28], .agg #[.int .i64 t460, .int .i64 t461, .int .i64 t462, .int .i64 t463, .int .i64 t464, .slice Ao53 t465.length co53]] (by rfl) rfl rfl q1_ ?_
 with_reducible refine (skifflaw0_SameDevice.calls k t413 t414 t415 t416 t417 _ _ t418 t460 t461 t462 t463 t464 _ _ t465 true _ ?side1 ?side2 ?side3 ?side4 A10.out).mono ?_
 (case side1 => repeat (first | exact (Kd.R_reads' HO420.out).2.2 | (with_reducible refine Kd.C_alloc ?_ _) | (with_reducible refine Kd.C_drewN ?_ _) | (with_reducible refine Kd.C_drew ?_)))
 (case side2 => exact (Kd.R_reads' HO420.out).2.1)
 (case side3 => repeat (first | exact (Kd.R_reads' HO467.out).2.2 | (with_reducible refine Kd.C_alloc ?_ _) | (with_reducible refine Kd.C_drewN ?_ _) | (with_reducible refine Kd.C_drew ?_)))
 (case side4 => exact (Kd.R_reads' HO467.out).2.1)
 rintro e w54 ⟨rfl, hb⟩
 refine ⟨_, rfl, ?_⟩
 replace HO420 := Aside0.mk (Kd.R_below q64_ hb)
 replace HO432 := Aside0.mk (Kd.R_below q74_ hb)
 replace HO444 := Aside0.mk (Kd.R_below q94_ hb)
 replace HO456 := Aside0.mk (Kd.R_below q124_ hb)
 replace HO467 := Aside0.mk (Kd.R_below (by (with_reducible repeat (first | apply Kd.R_alloc | apply Kd.R_drewN | apply Kd.R_drew)); exact HO467.out) hb)
 replace BK423 := Aside0.mk (blk_below (g := gb423) q36_ hb)
 replace BK435 := Aside0.mk (blk_below (g := gb435) q69_ hb)
 replace BK447 := Aside0.mk (blk_below (g := gb447) q101_ hb)
 replace BK459 := Aside0.mk (blk_below (g := gb459) (by (with_reducible repeat (first | refine blk_drewN ?_ _ | refine blk_drew ?_ | refine blk_alloc ?_ _)); exact BK459.out) hb)
 replace HB := Aside0.mk (below_step q106_ hb)
 (try clear hb)
 (try clear hb2)
 (try clear hk)
 (try clear hi)
 refine hK.out _ _ ⟨(blk_cell BK423.out 0).trans rfl, (blk_cell BK423.out 1).trans rfl, (blk_cell BK423.out 2).trans rfl, (blk_cell BK423.out 3).trans rfl, (blk_cell BK423.out 4).trans rfl, (blk_cell BK423.out 5).trans rfl, (blk_cell BK435.out 0).trans rfl, (blk_cell BK435.out 1).trans rfl, (blk_cell BK435.out 2).trans rfl, (blk_cell BK435.out 3).trans rfl, (blk_cell BK435.out 4).trans rfl, (blk_cell BK435.out 5).trans rfl, (blk_cell BK447.out 0).trans rfl, (blk_cell BK447.out 1).trans rfl, (blk_cell BK447.out 2).trans rfl, (blk_cell BK447.out 3).trans rfl, (blk_cell BK447.out 4).trans rfl, (blk_cell BK447.out 5).trans rfl⟩ (fun hHeld => ?_)
 clear hK K
 refine norm_ (a' := ?_) ?_ ?_
 rotate_left
 ·show Act.put _ (some 43) _ = _
  simp only [Act.put, sl1_, sl2_, sl3_, i64_w, i32_w]
  rfl
 refine pure_ (i := 3) (N := some 44) (v := ?_) (a' := ?_) #[true, true, true, true, false, false, false, false, false, false, false, false, false, false, false, false, false, false, false, false, false, false, false, false, false, false, false, false, false, false, false, false, false, false, false, false, false, false, false, false, false, false, false, false, false, false] rfl rfl (any_of HT_.out (by kernel_rfl)) (fun _ _ _ h => h) (Or.inl ⟨by rfl, ?_⟩) ?_ ?_
 rotate_left
 ·intro w'
  go_simp
  with_reducible rfl
 rotate_left
 ·simp only [Act.put, sl1_, sl2_, sl3_, i64_w, i32_w]
  rfl
 refine pure_ (i := 4) (N := some 45) (v := ?_) (a' := ?_) #[true, true, true, true, true, false, false, false, false, false, false, false, false, false, false, false, false, false, false, false, false, false, false, false, false, false, false, false, false, false, false, false, false, false, false, false, false, false, false, false, false, false, false, false, false, false] rfl rfl (any_of HT_.out (by kernel_rfl)) (fun _ _ _ h => h) (Or.inl ⟨by rfl, ?_⟩) ?_ ?_
 rotate_left
 ·intro w'
  go_simp
  with_reducible rfl
 rotate_left
 ·simp only [Act.put, sl1_, sl2_, sl3_, i64_w, i32_w]
  rfl
 refine pure_ (i := 5) (N := some 46) (v := ?_) (a' := ?_) #[true, true, true, true, true, true, false, false, false, false, false, false, false, false, false, false, false, false, false, false, false, false, false, false, false, false, false, false, false, false, false, false, false, false, false, false, false, false, false, false, false, false, false, false, false, false] rfl rfl (any_of HT_.out (by kernel_rfl)) (fun _ _ _ h => h) (Or.inl ⟨by rfl, ?_⟩) ?_ ?_
 rotate_left
 ·intro w'
  go_simp
  with_reducible rfl
 rotate_left
 ·simp only [Act.put, sl1_, sl2_, sl3_, i64_w, i32_w]
  rfl
 refine pure_ (i := 6) (N := some 47) (v := ?_) (a' := ?_) #[true, true, true, true, true, true, true, false, false, false, false, false, false, false, false, false, false, false, false, false, false, false, false, false, false, false, false, false, false, false, false, false, false, false, false, false, false, false, false, false, false, false, false, false, false, false] rfl rfl (any_of HT_.out (by kernel_rfl)) (fun _ _ _ h => h) (Or.inl ⟨by rfl, ?_⟩) ?_ ?_
 rotate_left
 ·intro w'
  go_simp
  with_reducible rfl
 rotate_left
 ·simp only [Act.put, sl1_, sl2_, sl3_, i64_w, i32_w]
  rfl
 refine pure_ (i := 7) (N := some 48) (v := ?_) (a' := ?_) #[true, true, true, true, true, true, true, true, false, false, false, false, false, false, false, false, false, false, false, false, false, false, false, false, false, false, false, false, false, false, false, false, false, false, false, false, false, false, false, false, false, false, false, false, false, false] rfl rfl (any_of HT_.out (by kernel_rfl)) (fun _ _ _ h => h) (Or.inl ⟨by rfl, ?_⟩) ?_ ?_
 rotate_left
 ·intro w'
  go_simp
  with_reducible rfl
 rotate_left
 ·simp only [Act.put, sl1_, sl2_, sl3_, i64_w, i32_w]
  rfl
 refine pure_ (i := 8) (N := some 49) (v := ?_) (a' := ?_) #[true, true, true, true, true, true, true, true, true, false, false, false, false, false, false, false, false, false, false, false, false, false, false, false, false, false, false, false, false, false, false, false, false, false, false, false, false, false, false, false, false, false, false, false, false, false] rfl rfl (any_of HT_.out (by kernel_rfl)) (fun _ _ _ h => h) (Or.inl ⟨by rfl, ?_⟩) ?_ ?_
 rotate_left
 ·intro w'
  go_simp
  with_reducible rfl
 rotate_left
 ·simp only [Act.put, sl1_, sl2_, sl3_, i64_w, i32_w]
  rfl
 refine one_ (i := 9) (N := some 50) #[true, true, true, true, true, true, true, true, true, true, false, false, false, false, false, false, false, false, false, false, false, false, false, false, false, false, false, false, false, false, false, false, false, false, false, false, false, false, false, false, false, false, false, false, false, false] rfl rfl (one_of HT_.out (by kernel_rfl)) (by decide) (fun K hK => ?_)
 refine goes_ Try.func13 (by kernel_rfl) rfl #[.int .i64 t422] (by rfl) rfl rfl q1_ ?_
 with_reducible refine (skifflaw0_Num.calls t422 t469 _ A13.out).mono ?_
 rintro e w' ⟨rfl, ⟨nd, rfl⟩⟩
 refine ⟨_, rfl, ?_⟩
 refine hK.out _ _ ⟨(blk_cell BK423.out 0).trans rfl, (blk_cell BK423.out 1).trans rfl, (blk_cell BK423.out 2).trans rfl, (blk_cell BK423.out 3).trans rfl, (blk_cell BK423.out 4).trans rfl, (blk_cell BK423.out 5).trans rfl, (blk_cell BK435.out 0).trans rfl, (blk_cell BK435.out 1).trans rfl, (blk_cell BK435.out 2).trans rfl, (blk_cell BK435.out 3).trans rfl, (blk_cell BK435.out 4).trans rfl, (blk_cell BK435.out 5).trans rfl, (blk_cell BK447.out 0).trans rfl, (blk_cell BK447.out 1).trans rfl, (blk_cell BK447.out 2).trans rfl, (blk_cell BK447.out 3).trans rfl, (blk_cell BK447.out 4).trans rfl, (blk_cell BK447.out 5).trans rfl⟩ (fun hHeld => ?_)
 clear hK K
 refine norm_ (a' := ?_) ?_ ?_
 rotate_left
 ·show Act.put _ (some 50) _ = _
  simp only [Act.put, sl1_, sl2_, sl3_, i64_w, i32_w]
  rfl
 refine pure_ (i := 10) (N := some 51) (v := ?_) (a' := ?_) #[true, true, true, true, true, true, true, true, true, true, true, false, false, false, false, false, false, false, false, false, false, false, false, false, false, false, false, false, false, false, false, false, false, false, false, false, false, false, false, false, false, false, false, false, false, false] rfl rfl (any_of HT_.out (by kernel_rfl)) (fun _ _ _ h => h) (Or.inl ⟨by rfl, ?_⟩) ?_ ?_
 rotate_left
 ·intro w'
  go_simp
  with_reducible rfl
 rotate_left
 ·simp only [Act.put, sl1_, sl2_, sl3_, i64_w, i32_w]
  rfl
 refine pure_ (i := 11) (N := some 52) (v := ?_) (a' := ?_) #[true, true, true, true, true, true, true, true, true, true, true, true, false, false, false, false, false, false, false, false, false, false, false, false, false, false, false, false, false, false, false, false, false, false, false, false, false, false, false, false, false, false, false, false, false, false] rfl rfl (any_of HT_.out (by kernel_rfl)) (fun _ _ _ h => h) (Or.inl ⟨by rfl, ?_⟩) ?_ ?_
 rotate_left
 ·intro w'
  go_simp
  with_reducible rfl
 rotate_left
 ·simp only [Act.put, sl1_, sl2_, sl3_, i64_w, i32_w]
  rfl
 refine pure_ (i := 12) (N := some 53) (v := ?_) (a' := ?_) #[true, true, true, true, true, true, true, true, true, true, true, true, true, false, false, false, false, false, false, false, false, false, false, false, false, false, false, false, false, false, false, false, false, false, false, false, false, false, false, false, false, false, false, false, false, false] rfl rfl (any_of HT_.out (by kernel_rfl)) (fun _ _ _ h => h) (Or.inl ⟨by rfl, ?_⟩) ?_ ?_
 rotate_left
 ·intro w'
  go_simp
  with_reducible rfl
 rotate_left
 ·simp only [Act.put, sl1_, sl2_, sl3_, i64_w, i32_w]
  rfl
 refine pure_ (i := 13) (N := some 54) (v := ?_) (a' := ?_) #[true, true, true, true, true, true, true, true, true, true, true, true, true, true, false, false, false, false, false, false, false, false, false, false, false, false, false, false, false, false, false, false, false, false, false, false, false, false, false, false, false, false, false, false, false, false] rfl rfl (any_of HT_.out (by kernel_rfl)) (fun _ _ _ h => h) (Or.inl ⟨by rfl, ?_⟩) ?_ ?_
 rotate_left
 ·intro w'
  go_simp
  with_reducible rfl
 rotate_left
 ·simp only [Act.put, sl1_, sl2_, sl3_, i64_w, i32_w]
  rfl
 refine take_ (i := 14) (N := some 55) (v := ?_) (a' := ?_) #[true, true, true, true, true, true, true, true, true, true, true, true, true, true, true, false, false, false, false, false, false, false, false, false, false, false, false, false, false, false, false, false, false, false, false, false, false, false, false, false, false, false, false, false, false, false] rfl rfl (take_ofW HT_.out HW_.out (by kernel_rfl)) (fun _ _ _ h => h) (Or.inl ⟨by rfl, ?_⟩) hHeld ?_ ?_
 rotate_left
 ·rintro w' ⟨s0, s1, s2, s3, s4, s5, s6, s7, s8, s9, s10, s11, s12, s13, s14, s15, s16, s17⟩
  go_simp
  with_reducible rfl
 rotate_left
 ·simp only [Act.put, sl1_, sl2_, sl3_, i64_w, i32_w]
  rfl
 refine pure_ (i := 15) (N := some 56) (v := ?_) (a' := ?_) #[true, true, true, true, true, true, true, true, true, true, true, true, true, true, true, true, false, false, false, false, false, false, false, false, false, false, false, false, false, false, false, false, false, false, false, false, false, false, false, false, false, false, false, false, false, false] rfl rfl (any_of HT_.out (by kernel_rfl)) (fun _ _ _ h => h) (Or.inl ⟨by rfl, ?_⟩) ?_ ?_
 rotate_left
 ·intro w'
  go_simp
  with_reducible rfl
 rotate_left
 ·simp only [Act.put, sl1_, sl2_, sl3_, i64_w, i32_w]
  rfl
 refine pure_ (i := 16) (N := some 57) (v := ?_) (a' := ?_) #[true, true, true, true, true, true, true, true, true, true, true, true, true, true, true, true, true, false, false, false, false, false, false, false, false, false, false, false, false, false, false, false, false, false, false, false, false, false, false, false, false, false, false, false, false, false] rfl rfl (any_of HT_.out (by kernel_rfl)) (fun _ _ _ h => h) (Or.inl ⟨by rfl, ?_⟩) ?_ ?_
 rotate_left
 ·intro w'
  go_simp
  with_reducible rfl
 rotate_left
 ·simp only [Act.put, sl1_, sl2_, sl3_, i64_w, i32_w]
  rfl
 refine pure_ (i := 17) (N := some 58) (v := ?_) (a' := ?_) #[true, true, true, true, true, true, true, true, true, true, true, true, true, true, true, true, true, true, false, false, false, false, false, false, false, false, false, false, false, false, false, false, false, false, false, false, false, false, false, false, false, false, false, false, false, false] rfl rfl (any_of HT_.out (by kernel_rfl)) (fun _ _ _ h => h) (Or.inl ⟨by rfl, ?_⟩) ?_ ?_
 rotate_left
 ·intro w'
  go_simp
  with_reducible rfl
 rotate_left
 ·simp only [Act.put, sl1_, sl2_, sl3_, i64_w, i32_w]
  rfl
 refine pure_ (i := 18) (N := some 59) (v := ?_) (a' := ?_) #[true, true, true, true, true, true, true, true, true, true, true, true, true, true, true, true, true, true, true, false, false, false, false, false, false, false, false, false, false, false, false, false, false, false, false, false, false, false, false, false, false, false, false, false, false, false] rfl rfl (any_of HT_.out (by kernel_rfl)) (fun _ _ _ h => h) (Or.inl ⟨by rfl, ?_⟩) ?_ ?_
 rotate_left
 ·intro w'
  go_simp
  with_reducible rfl
 rotate_left
 ·simp only [Act.put, sl1_, sl2_, sl3_, i64_w, i32_w]
  rfl
 refine pure_ (i := 19) (N := some 60) (v := ?_) (a' := ?_) #[true, true, true, true, true, true, true, true, true, true, true, true, true, true, true, true, true, true, true, true, false, false, false, false, false, false, false, false, false, false, false, false, false, false, false, false, false, false, false, false, false, false, false, false, false, false] rfl rfl (any_of HT_.out (by kernel_rfl)) (fun _ _ _ h => h) (Or.inl ⟨by rfl, ?_⟩) ?_ ?_
 rotate_left
 ·intro w'
  go_simp
  with_reducible rfl
 rotate_left
 ·simp only [Act.put, sl1_, sl2_, sl3_, i64_w, i32_w]
  rfl
 refine pure_ (i := 20) (N := some 61) (v := ?_) (a' := ?_) #[true, true, true, true, true, true, true, true, true, true, true, true, true, true, true, true, true, true, true, true, true, false, false, false, false, false, false, false, false, false, false, false, false, false, false, false, false, false, false, false, false, false, false, false, false, false] rfl rfl (any_of HT_.out (by kernel_rfl)) (fun _ _ _ h => h) (Or.inl ⟨by rfl, ?_⟩) ?_ ?_
 rotate_left
 ·intro w'
  go_simp
  with_reducible rfl
 rotate_left
 ·simp only [Act.put, sl1_, sl2_, sl3_, i64_w, i32_w]
  rfl
 refine pure_ (i := 21) (N := some 62) (v := ?_) (a' := ?_) #[true, true, true, true, true, true, true, true, true, true, true, true, true, true, true, true, true, true, true, true, true, true, false, false, false, false, false, false, false, false, false, false, false, false, false, false, false, false, false, false, false, false, false, false, false, false] rfl rfl (any_of HT_.out (by kernel_rfl)) (fun _ _ _ h => h) (Or.inl ⟨by rfl, ?_⟩) ?_ ?_
 rotate_left
 ·intro w'
  go_simp
  with_reducible rfl
 rotate_left
 ·simp only [Act.put, sl1_, sl2_, sl3_, i64_w, i32_w]
  rfl
 refine pure_ (i := 22) (N := some 63) (v := ?_) (a' := ?_) #[true, true, true, true, true, true, true, true, true, true, true, true, true, true, true, true, true, true, true, true, true, true, true, false, false, false, false, false, false, false, false, false, false, false, false, false, false, false, false, false, false, false, false, false, false, false] rfl rfl (any_of HT_.out (by kernel_rfl)) (fun _ _ _ h => h) (Or.inl ⟨by rfl, ?_⟩) ?_ ?_
 rotate_left
 ·intro w'
  go_simp
  with_reducible rfl
 rotate_left
 ·simp only [Act.put, sl1_, sl2_, sl3_, i64_w, i32_w]
  rfl
 refine one_ (i := 23) (N := some 64) #[true, true, true, true, true, true, true, true, true, true, true, true, true, true, true, true, true, true, true, true, true, true, true, true, false, false, false, false, false, false, false, false, false, false, false, false, false, false, false, false, false, false, false, false, false, false] rfl rfl (one_of HT_.out (by kernel_rfl)) (by decide) (fun K hK => ?_)
 refine goes_ Try.func13 (by kernel_rfl) rfl #[.int .i64 t434] (by rfl) rfl rfl q1_ ?_
 with_reducible refine (skifflaw0_Num.calls t434 t470 _ A17.out).mono ?_
 rintro e w' ⟨rfl, ⟨nd, rfl⟩⟩
 refine ⟨_, rfl, ?_⟩
 refine hK.out _ _ ⟨(blk_cell BK423.out 0).trans rfl, (blk_cell BK423.out 1).trans rfl, (blk_cell BK423.out 2).trans rfl, (blk_cell BK423.out 3).trans rfl, (blk_cell BK423.out 4).trans rfl, (blk_cell BK423.out 5).trans rfl, (blk_cell BK435.out 0).trans rfl, (blk_cell BK435.out 1).trans rfl, (blk_cell BK435.out 2).trans rfl, (blk_cell BK435.out 3).trans rfl, (blk_cell BK435.out 4).trans rfl, (blk_cell BK435.out 5).trans rfl, (blk_cell BK447.out 0).trans rfl, (blk_cell BK447.out 1).trans rfl, (blk_cell BK447.out 2).trans rfl, (blk_cell BK447.out 3).trans rfl, (blk_cell BK447.out 4).trans rfl, (blk_cell BK447.out 5).trans rfl⟩ (fun hHeld => ?_)
 clear hK K
 refine norm_ (a' := ?_) ?_ ?_
 rotate_left
 ·show Act.put _ (some 64) _ = _
  simp only [Act.put, sl1_, sl2_, sl3_, i64_w, i32_w]
  rfl
 refine pure_ (i := 24) (N := some 65) (v := ?_) (a' := ?_) #[true, true, true, true, true, true, true, true, true, true, true, true, true, true, true, true, true, true, true, true, true, true, true, true, true, false, false, false, false, false, false, false, false, false, false, false, false, false, false, false, false, false, false, false, false, false] rfl rfl (any_of HT_.out (by kernel_rfl)) (fun _ _ _ h => h) (Or.inl ⟨by rfl, ?_⟩) ?_ ?_
 rotate_left
 ·intro w'
  go_simp
  with_reducible rfl
 rotate_left
 ·simp only [Act.put, sl1_, sl2_, sl3_, i64_w, i32_w]
  rfl
 refine pure_ (i := 25) (N := some 66) (v := ?_) (a' := ?_) #[true, true, true, true, true, true, true, true, true, true, true, true, true, true, true, true, true, true, true, true, true, true, true, true, true, true, false, false, false, false, false, false, false, false, false, false, false, false, false, false, false, false, false, false, false, false] rfl rfl (any_of HT_.out (by kernel_rfl)) (fun _ _ _ h => h) (Or.inl ⟨by rfl, ?_⟩) ?_ ?_
 rotate_left
 ·intro w'
  go_simp
  with_reducible rfl
 rotate_left
 ·simp only [Act.put, sl1_, sl2_, sl3_, i64_w, i32_w]
  rfl
 refine pure_ (i := 26) (N := some 67) (v := ?_) (a' := ?_) #[true, true, true, true, true, true, true, true, true, true, true, true, true, true, true, true, true, true, true, true, true, true, true, true, true, true, true, false, false, false, false, false, false, false, false, false, false, false, false, false, false, false, false, false, false, false] rfl rfl (any_of HT_.out (by kernel_rfl)) (fun _ _ _ h => h) (Or.inl ⟨by rfl, ?_⟩) ?_ ?_
 rotate_left
 ·intro w'
  go_simp
  with_reducible rfl
 rotate_left
 ·simp only [Act.put, sl1_, sl2_, sl3_, i64_w, i32_w]
  rfl
 refine pure_ (i := 27) (N := some 68) (v := ?_) (a' := ?_) #[true, true, true, true, true, true, true, true, true, true, true, true, true, true, true, true, true, true, true, true, true, true, true, true, true, true, true, true, false, false, false, false, false, false, false, false, false, false, false, false, false, false, false, false, false, false] rfl rfl (any_of HT_.out (by kernel_rfl)) (fun _ _ _ h => h) (Or.inl ⟨by rfl, ?_⟩) ?_ ?_
 rotate_left
 ·intro w'
  go_simp
  with_reducible rfl
 rotate_left
 ·simp only [Act.put, sl1_, sl2_, sl3_, i64_w, i32_w]
  rfl
 refine take_ (i := 28) (N := some 69) (v := ?_) (a' := ?_) #[true, true, true, true, true, true, true, true, true, true, true, true, true, true, true, true, true, true, true, true, true, true, true, true, true, true, true, true, true, false, false, false, false, false, false, false, false, false, false, false, false, false, false, false, false, false] rfl rfl (take_ofW HT_.out HW_.out (by kernel_rfl)) (fun _ _ _ h => h) (Or.inl ⟨by rfl, ?_⟩) hHeld ?_ ?_
 rotate_left
 ·rintro w' ⟨s0, s1, s2, s3, s4, s5, s6, s7, s8, s9, s10, s11, s12, s13, s14, s15, s16, s17⟩
  go_simp
  with_reducible rfl
 rotate_left
 ·simp only [Act.put, sl1_, sl2_, sl3_, i64_w, i32_w]
  rfl
 refine pure_ (i := 29) (N := some 70) (v := ?_) (a' := ?_) #[true, true, true, true, true, true, true, true, true, true, true, true, true, true, true, true, true, true, true, true, true, true, true, true, true, true, true, true, true, true, false, false, false, false, false, false, false, false, false, false, false, false, false, false, false, false] rfl rfl (any_of HT_.out (by kernel_rfl)) (fun _ _ _ h => h) (Or.inl ⟨by rfl, ?_⟩) ?_ ?_
 rotate_left
 ·intro w'
  go_simp
  with_reducible rfl
 rotate_left
 ·simp only [Act.put, sl1_, sl2_, sl3_, i64_w, i32_w]
  rfl
 refine pure_ (i := 30) (N := some 71) (v := ?_) (a' := ?_) #[true, true, true, true, true, true, true, true, true, true, true, true, true, true, true, true, true, true, true, true, true, true, true, true, true, true, true, true, true, true, true, false, false, false, false, false, false, false, false, false, false, false, false, false, false, false] rfl rfl (any_of HT_.out (by kernel_rfl)) (fun _ _ _ h => h) (Or.inl ⟨by rfl, ?_⟩) ?_ ?_
 rotate_left
 ·intro w'
  go_simp
  with_reducible rfl
 rotate_left
 ·simp only [Act.put, sl1_, sl2_, sl3_, i64_w, i32_w]
  rfl
 refine pure_ (i := 31) (N := some 72) (v := ?_) (a' := ?_) #[true, true, true, true, true, true, true, true, true, true, true, true, true, true, true, true, true, true, true, true, true, true, true, true, true, true, true, true, true, true, true, true, false, false, false, false, false, false, false, false, false, false, false, false, false, false] rfl rfl (any_of HT_.out (by kernel_rfl)) (fun _ _ _ h => h) (Or.inl ⟨by rfl, ?_⟩) ?_ ?_
 rotate_left
 ·intro w'
  go_simp
  with_reducible rfl
 rotate_left
 ·simp only [Act.put, sl1_, sl2_, sl3_, i64_w, i32_w]
  rfl
 refine pure_ (i := 32) (N := some 73) (v := ?_) (a' := ?_) #[true, true, true, true, true, true, true, true, true, true, true, true, true, true, true, true, true, true, true, true, true, true, true, true, true, true, true, true, true, true, true, true, true, false, false, false, false, false, false, false, false, false, false, false, false, false] rfl rfl (any_of HT_.out (by kernel_rfl)) (fun _ _ _ h => h) (Or.inl ⟨by rfl, ?_⟩) ?_ ?_
 rotate_left
 ·intro w'
  go_simp
  with_reducible rfl
 rotate_left
 ·simp only [Act.put, sl1_, sl2_, sl3_, i64_w, i32_w]
  rfl
 refine pure_ (i := 33) (N := some 74) (v := ?_) (a' := ?_) #[true, true, true, true, true, true, true, true, true, true, true, true, true, true, true, true, true, true, true, true, true, true, true, true, true, true, true, true, true, true, true, true, true, true, false, false, false, false, false, false, false, false, false, false, false, false] rfl rfl (any_of HT_.out (by kernel_rfl)) (fun _ _ _ h => h) (Or.inl ⟨by rfl, ?_⟩) ?_ ?_
 rotate_left
 ·intro w'
  go_simp
  with_reducible rfl
 rotate_left
 ·simp only [Act.put, sl1_, sl2_, sl3_, i64_w, i32_w]
  rfl
 refine pure_ (i := 34) (N := some 75) (v := ?_) (a' := ?_) #[true, true, true, true, true, true, true, true, true, true, true, true, true, true, true, true, true, true, true, true, true, true, true, true, true, true, true, true, true, true, true, true, true, true, true, false, false, false, false, false, false, false, false, false, false, false] rfl rfl (any_of HT_.out (by kernel_rfl)) (fun _ _ _ h => h) (Or.inl ⟨by rfl, ?_⟩) ?_ ?_
 rotate_left
 ·intro w'
  go_simp
  with_reducible rfl
 rotate_left
 ·simp only [Act.put, sl1_, sl2_, sl3_, i64_w, i32_w]
  rfl
 refine pure_ (i := 35) (N := some 76) (v := ?_) (a' := ?_) #[true, true, true, true, true, true, true, true, true, true, true, true, true, true, true, true, true, true, true, true, true, true, true, true, true, true, true, true, true, true, true, true, true, true, true, true, false, false, false, false, false, false, false, false, false, false] rfl rfl (any_of HT_.out (by kernel_rfl)) (fun _ _ _ h => h) (Or.inl ⟨by rfl, ?_⟩) ?_ ?_
 rotate_left
 ·intro w'
  go_simp
  with_reducible rfl
 rotate_left
 ·simp only [Act.put, sl1_, sl2_, sl3_, i64_w, i32_w]
  rfl
 refine pure_ (i := 36) (N := some 77) (v := ?_) (a' := ?_) #[true, true, true, true, true, true, true, true, true, true, true, true, true, true, true, true, true, true, true, true, true, true, true, true, true, true, true, true, true, true, true, true, true, true, true, true, true, false, false, false, false, false, false, false, false, false] rfl rfl (any_of HT_.out (by kernel_rfl)) (fun _ _ _ h => h) (Or.inl ⟨by rfl, ?_⟩) ?_ ?_
 rotate_left
 ·intro w'
  go_simp
  with_reducible rfl
 rotate_left
 ·simp only [Act.put, sl1_, sl2_, sl3_, i64_w, i32_w]
  rfl
 refine one_ (i := 37) (N := some 78) #[true, true, true, true, true, true, true, true, true, true, true, true, true, true, true, true, true, true, true, true, true, true, true, true, true, true, true, true, true, true, true, true, true, true, true, true, true, true, false, false, false, false, false, false, false, false] rfl rfl (one_of HT_.out (by kernel_rfl)) (by decide) (fun K hK => ?_)
 refine goes_ Try.func13 (by kernel_rfl) rfl #[.int .i64 t446] (by rfl) rfl rfl q1_ ?_
 with_reducible refine (skifflaw0_Num.calls t446 t471 _ A21.out).mono ?_
 rintro e w' ⟨rfl, ⟨nd, rfl⟩⟩
 refine ⟨_, rfl, ?_⟩
 refine hK.out _ _ ⟨(blk_cell BK423.out 0).trans rfl, (blk_cell BK423.out 1).trans rfl, (blk_cell BK423.out 2).trans rfl, (blk_cell BK423.out 3).trans rfl, (blk_cell BK423.out 4).trans rfl, (blk_cell BK423.out 5).trans rfl, (blk_cell BK435.out 0).trans rfl, (blk_cell BK435.out 1).trans rfl, (blk_cell BK435.out 2).trans rfl, (blk_cell BK435.out 3).trans rfl, (blk_cell BK435.out 4).trans rfl, (blk_cell BK435.out 5).trans rfl, (blk_cell BK447.out 0).trans rfl, (blk_cell BK447.out 1).trans rfl, (blk_cell BK447.out 2).trans rfl, (blk_cell BK447.out 3).trans rfl, (blk_cell BK447.out 4).trans rfl, (blk_cell BK447.out 5).trans rfl⟩ (fun hHeld => ?_)
 clear hK K
 refine norm_ (a' := ?_) ?_ ?_
 rotate_left
 ·show Act.put _ (some 78) _ = _
  simp only [Act.put, sl1_, sl2_, sl3_, i64_w, i32_w]
  rfl
 refine pure_ (i := 38) (N := some 79) (v := ?_) (a' := ?_) #[true, true, true, true, true, true, true, true, true, true, true, true, true, true, true, true, true, true, true, true, true, true, true, true, true, true, true, true, true, true, true, true, true, true, true, true, true, true, true, false, false, false, false, false, false, false] rfl rfl (any_of HT_.out (by kernel_rfl)) (fun _ _ _ h => h) (Or.inl ⟨by rfl, ?_⟩) ?_ ?_
 rotate_left
 ·intro w'
  go_simp
  with_reducible rfl
 rotate_left
 ·simp only [Act.put, sl1_, sl2_, sl3_, i64_w, i32_w]
  rfl
 refine pure_ (i := 39) (N := some 80) (v := ?_) (a' := ?_) #[true, true, true, true, true, true, true, true, true, true, true, true, true, true, true, true, true, true, true, true, true, true, true, true, true, true, true, true, true, true, true, true, true, true, true, true, true, true, true, true, false, false, false, false, false, false] rfl rfl (any_of HT_.out (by kernel_rfl)) (fun _ _ _ h => h) (Or.inl ⟨by rfl, ?_⟩) ?_ ?_
 rotate_left
 ·intro w'
  go_simp
  with_reducible rfl
 rotate_left
 ·simp only [Act.put, sl1_, sl2_, sl3_, i64_w, i32_w]
  rfl
 refine pure_ (i := 40) (N := some 81) (v := ?_) (a' := ?_) #[true, true, true, true, true, true, true, true, true, true, true, true, true, true, true, true, true, true, true, true, true, true, true, true, true, true, true, true, true, true, true, true, true, true, true, true, true, true, true, true, true, false, false, false, false, false] rfl rfl (any_of HT_.out (by kernel_rfl)) (fun _ _ _ h => h) (Or.inl ⟨by rfl, ?_⟩) ?_ ?_
 rotate_left
 ·intro w'
  go_simp
  with_reducible rfl
 rotate_left
 ·simp only [Act.put, sl1_, sl2_, sl3_, i64_w, i32_w]
  rfl
 refine pure_ (i := 41) (N := some 82) (v := ?_) (a' := ?_) #[true, true, true, true, true, true, true, true, true, true, true, true, true, true, true, true, true, true, true, true, true, true, true, true, true, true, true, true, true, true, true, true, true, true, true, true, true, true, true, true, true, true, false, false, false, false] rfl rfl (any_of HT_.out (by kernel_rfl)) (fun _ _ _ h => h) (Or.inl ⟨by rfl, ?_⟩) ?_ ?_
 rotate_left
 ·intro w'
  go_simp
  with_reducible rfl
 rotate_left
 ·simp only [Act.put, sl1_, sl2_, sl3_, i64_w, i32_w]
  rfl
 refine one_ (i := 42) (N := some 83) #[true, true, true, true, true, true, true, true, true, true, true, true, true, true, true, true, true, true, true, true, true, true, true, true, true, true, true, true, true, true, true, true, true, true, true, true, true, true, true, true, true, true, true, false, false, false] rfl rfl (one_of HT_.out (by kernel_rfl)) (by decide) (fun K hK => ?_)
 refine goes_ Try.func13 (by kernel_rfl) rfl #[.int .i64 t458] (by rfl) rfl rfl q1_ ?_
 with_reducible refine (skifflaw0_Num.calls t458 t472 _ A23.out).mono ?_
 rintro e w' ⟨rfl, ⟨nd, rfl⟩⟩
 refine ⟨_, rfl, ?_⟩
 refine hK.out _ _ ⟨(blk_cell BK423.out 0).trans rfl, (blk_cell BK423.out 1).trans rfl, (blk_cell BK423.out 2).trans rfl, (blk_cell BK423.out 3).trans rfl, (blk_cell BK423.out 4).trans rfl, (blk_cell BK423.out 5).trans rfl, (blk_cell BK435.out 0).trans rfl, (blk_cell BK435.out 1).trans rfl, (blk_cell BK435.out 2).trans rfl, (blk_cell BK435.out 3).trans rfl, (blk_cell BK435.out 4).trans rfl, (blk_cell BK435.out 5).trans rfl, (blk_cell BK447.out 0).trans rfl, (blk_cell BK447.out 1).trans rfl, (blk_cell BK447.out 2).trans rfl, (blk_cell BK447.out 3).trans rfl, (blk_cell BK447.out 4).trans rfl, (blk_cell BK447.out 5).trans rfl⟩ (fun hHeld => ?_)
 clear hK K
 refine norm_ (a' := ?_) ?_ ?_
 rotate_left
 ·show Act.put _ (some 83) _ = _
  simp only [Act.put, sl1_, sl2_, sl3_, i64_w, i32_w]
  rfl
 refine pure_ (i := 43) (N := some 84) (v := ?_) (a' := ?_) #[true, true, true, true, true, true, true, true, true, true, true, true, true, true, true, true, true, true, true, true, true, true, true, true, true, true, true, true, true, true, true, true, true, true, true, true, true, true, true, true, true, true, true, true, false, false] rfl rfl (any_of HT_.out (by kernel_rfl)) (fun _ _ _ h => h) (Or.inl ⟨by rfl, ?_⟩) ?_ ?_
 rotate_left
 ·intro w'
  go_simp
  with_reducible rfl
 rotate_left
 ·simp only [Act.put, sl1_, sl2_, sl3_, i64_w, i32_w]
  rfl
 refine pure_ (i := 44) (N := some 85) (v := ?_) (a' := ?_) #[true, true, true, true, true, true, true, true, true, true, true, true, true, true, true, true, true, true, true, true, true, true, true, true, true, true, true, true, true, true, true, true, true, true, true, true, true, true, true, true, true, true, true, true, true, false] rfl rfl (any_of HT_.out (by kernel_rfl)) (fun _ _ _ h => h) (Or.inl ⟨by rfl, ?_⟩) ?_ ?_
 rotate_left
 ·intro w'
  go_simp
  with_reducible rfl
 rotate_left
 ·simp only [Act.put, sl1_, sl2_, sl3_, i64_w, i32_w]
  rfl
 refine pure_ (i := 45) (N := some 0) (v := ?_) (a' := ?_) #[true, true, true, true, true, true, true, true, true, true, true, true, true, true, true, true, true, true, true, true, true, true, true, true, true, true, true, true, true, true, true, true, true, true, true, true, true, true, true, true, true, true, true, true, true, true] rfl rfl (any_of HT_.out (by kernel_rfl)) (fun _ _ _ h => h) (Or.inl ⟨by rfl, ?_⟩) ?_ ?_
 rotate_left
 ·intro w'
  go_simp
  with_reducible rfl
 rotate_left
 ·simp only [Act.put, sl1_, sl2_, sl3_, i64_w, i32_w]
  rfl
 refine done_ (done_of HT_.out (by kernel_rfl)) ?_
 try go_wp2
 go_ret
 exact ⟨by first | rfl | (simp [errW_none, errW_some] <;> rfl) | (simp [*, errW_none, errW_some] <;> rfl), by repeat (first | (with_reducible first | exact HB.out | apply below_alloc | apply pw_below_drewN | apply below_drew1 | refine below_set ?_ GE423.out | refine below_set ?_ GE435.out | refine below_set ?_ GE447.out | refine below_set ?_ GE459.out) | exact HB.out)⟩
end Go.Proofs.Ytjadcjkjpkkmkaa.PAll
