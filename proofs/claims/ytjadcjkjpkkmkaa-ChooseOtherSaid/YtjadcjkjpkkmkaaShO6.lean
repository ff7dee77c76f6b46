import Derived.Test.YtjadcjkjpkkmkaaShO5
-- Laid together from this session's own texts by its program wip/tools/shake.py.
-- Written by this session's own program (wip/tools/myprint.py), which runs the kit's print over functions proved by hand.
namespace Go.Proofs.Ytjadcjkjpkkmkaa.PAll
open Go.RowKit Go.Proofs.YtjadcjkjpkkmkaaW.PrintWords Go.Proofs.YtjadcjkjpkkmkaaW.PrintLast Go.Proofs.YtjadcjkjpkkmkaaW.PrintMore
attribute [local go_sem] max2_int min2_int max_two min_two max_three min_three max_four min_four   -- for this text's walks alone
set_option linter.unusedVariables false
set_option linter.unusedSimpArgs false
mutual
def skiffref1_FreePlace.j0 : Nat → ByteArray → Int → Bool → Option (Int × Bool × Int)
 | 0, _, _, _ => none
 | k + 1, x0, x1, x15 => if x15 = true then (some (0, false, 500)) else (skiffref1_FreePlace.l0 k x0 x1 (wrap64 (x1 * 96)))
def skiffref1_FreePlace.l0 : Nat → ByteArray → Int → Int → Option (Int × Bool × Int)
 | 0, _, _, _ => none
 | k + 1, x0, x1, x7 => if (wrap64 (x7 + 24)) ≤ (wrap64 ((wrap64 (x1 + 1)) * 96)) then (if 0 ≤ x7 then (if x7 ≤ (wrap64 (x7 + 24)) then (if (wrap64 (x7 + 24)) ≤ (x0.size : Int) then ((skiffref1_full.f k 24).bind fun t223 => (if (x0.extract (x7 : Int).toNat ((wrap64 (x7 + 24)) : Int).toNat).toList = t223.toList then (some (x7, true, 0)) else (skiffref1_FreePlace.l0 k x0 x1 (wrap64 (x7 + 24))))) else (none)) else (none)) else (none)) else (some (0, false, 0))
end
def skiffref1_FreePlace.f (k : Nat) (a0 : ByteArray) (a1 : Int) : Option (Int × Bool × Int) := (skiffref1_FlashMay.f a0).bind fun t221 => (if t221 = true then ((PBase.skiffref1_upTo.f a1 0 1).bind fun t222 => (skiffref1_FreePlace.j0 k a0 a1 (!t222))) else (skiffref1_FreePlace.j0 k a0 a1 true))
set_option maxHeartbeats 8000000 in
set_option maxRecDepth 100000 in
theorem skiffref1_FreePlace.calls (k : Nat) (a0 : ByteArray) (a1 : Int) (r1 : Int) (r2 : Bool) (r3 : Int) (w : World) (h : skiffref1_FreePlace.f k a0 a1 = some (r1, r2, r3)) :
  Calls Try.prog 69 #[.string a0, .int .i64 a1] w fun e w' => e = .returned (.tuple #[.int .i64 r1, .bool r2, .int .i64 r3]) ∧ Below w.heap.size w w' := by
 have HB := Aside0.mk (Below.refl w.heap.size w)
 have H : ((skiffref1_FlashMay.f a0).bind fun t221 => (if t221 = true then ((PBase.skiffref1_upTo.f a1 0 1).bind fun t222 => (skiffref1_FreePlace.j0 k a0 a1 (!t222))) else (skiffref1_FreePlace.j0 k a0 a1 true))) = some (r1, r2, r3) := h
 clear h
 have HC3 := Aside0.mk H
 clear H
 go_enter Try.func69, Try.ntmps69
 go_upto_region 1 with (fail)
 go_cut [15] (fun v15 wc => ∃ (kq : Nat) (x15_2 : Bool), v15 = .bool x15_2 ∧ Aside0 (skiffref1_FreePlace.j0 kq a0 a1 x15_2 = some (r1, r2, r3)) ∧ Aside0 (kq ≤ k) ∧ Aside0 (Below w.heap.size w wc))
 case first =>
  have H := HC3.out
  clear HC3
  replace H := Option.bind_eq_some_iff.mp H
  obtain ⟨t221, A40, H⟩ := H
  replace H : (if t221 = true then ((PBase.skiffref1_upTo.f a1 0 1).bind fun t222 => (skiffref1_FreePlace.j0 k a0 a1 (!t222))) else (skiffref1_FreePlace.j0 k a0 a1 true)) = some (r1, r2, r3) := H
  have A4 := Aside0.mk A40
  clear A40
  by_cases c5 : t221 = true
  ·subst c5
   have H1 : ((PBase.skiffref1_upTo.f a1 0 1).bind fun t222 => (skiffref1_FreePlace.j0 k a0 a1 (!t222))) = some (r1, r2, r3) := by rw [if_pos rfl] at H; exact H
   clear H
   have H := H1
   clear H1
   replace H := Option.bind_eq_some_iff.mp H
   obtain ⟨t222, A60, H⟩ := H
   replace H : (skiffref1_FreePlace.j0 k a0 a1 (!t222)) = some (r1, r2, r3) := H
   have A6 := Aside0.mk A60
   clear A60
   have H' := Aside0.mk H
   clear H
   go_wp2_with (first | ((with_reducible refine gate_callee (f := 34) rfl ?_); refine goesL_ (some 9) rfl rfl Try.func34 (by kernel_rfl) rfl #[.string a0] rfl q1_ ?_; (with_reducible refine (skiffref1_FlashMay.calls a0 true _ A4.out).mono ?_); rintro e w' ⟨rfl, ⟨nd, rfl⟩⟩; refine ⟨_, rfl, ?_⟩) | (go_at_call 40; (with_reducible refine (PBase.skiffref1_upTo.calls a1 0 1 t222 _ A6.out).mono ?_); rintro e w' ⟨rfl, ⟨nd, rfl⟩⟩))
   go_meet
   case rel => exact ⟨_, (!t222), q15_, H', ⟨by first | omega | exact Nat.le_refl _⟩, ⟨by repeat (first | (with_reducible first | exact HB.out | apply below_alloc | apply pw_below_drewN | apply below_drew1) | exact HB.out)⟩⟩
  ·replace c5 := Bool.eq_false_iff.mpr c5
   subst c5
   have H1 : (skiffref1_FreePlace.j0 k a0 a1 true) = some (r1, r2, r3) := by rw [if_neg (show ¬ (false = true) by decide)] at H; exact H
   clear H
   have H := H1
   clear H1
   have H' := Aside0.mk H
   clear H
   go_wp2_with (first | ((with_reducible refine gate_callee (f := 34) rfl ?_); refine goesL_ (some 9) rfl rfl Try.func34 (by kernel_rfl) rfl #[.string a0] rfl q1_ ?_; (with_reducible refine (skiffref1_FlashMay.calls a0 false _ A4.out).mono ?_); rintro e w' ⟨rfl, ⟨nd, rfl⟩⟩; refine ⟨_, rfl, ?_⟩))
   go_meet
   case rel => exact ⟨_, (true), q15_, H', ⟨by first | omega | exact Nat.le_refl _⟩, ⟨by repeat (first | (with_reducible first | exact HB.out | apply below_alloc | apply pw_below_drewN | apply below_drew1) | exact HB.out)⟩⟩
 case rest =>
  clear HC3
  try clear p2
  try clear c3
  try clear c5
  try clear c6
  obtain ⟨kq, x15_2, rfl, HA, HJ2, HB⟩ := hcut
  cases kq with
  | zero => exact absurd HA.out (by simp [skiffref1_FreePlace.j0])
  | succ kj2 =>
   have H := HA.out
   clear HA
   simp only [skiffref1_FreePlace.j0] at H
   by_cases c7 : x15_2 = true
   ·subst c7
    have H1 : (some (0, false, 500)) = some (r1, r2, r3) := by rw [if_pos rfl] at H; exact H
    clear H
    have H := H1
    clear H1
    simp only [Option.some.injEq, Prod.mk.injEq] at H
    obtain ⟨rfl, rfl, rfl⟩ := H
    go_wp2
    go_ret3
    exact ⟨by first | rfl | (simp [errW_none, errW_some] <;> rfl) | (simp [*, errW_none, errW_some] <;> rfl), by repeat (first | (with_reducible first | exact HB.out | apply below_alloc | apply pw_below_drewN | apply below_drew1) | exact HB.out)⟩
   ·replace c7 := Bool.eq_false_iff.mpr c7
    subst c7
    have H1 : (skiffref1_FreePlace.l0 kj2 a0 a1 (wrap64 (a1 * 96))) = some (r1, r2, r3) := by rw [if_neg (show ¬ (false = true) by decide)] at H; exact H
    clear H
    have H := H1
    clear H1
    have H' := Aside0.mk H
    clear H
    go_wp2
    go_loopg [7] kj2 (fun kq v7 w' => ∃ (x7_2 : Int), v7 = .int .i64 x7_2 ∧ Aside0 (skiffref1_FreePlace.l0 kq a0 a1 x7_2 = some (r1, r2, r3)) ∧ Aside0 (kq ≤ kj2) ∧ Aside0 (Below w.heap.size w w'))
    case atStart => exact ⟨(wrap64 (a1 * 96)), q15_, H', ⟨Nat.le_refl _⟩, ⟨by repeat (first | (with_reducible first | exact HB.out | apply below_alloc | apply pw_below_drewN | apply below_drew1) | exact HB.out)⟩⟩
    case round =>
     clear H'
     try clear p2
     try clear c3
     try clear c5
     try clear c6
     try clear p6
     try clear c7
     try clear p2
     obtain ⟨x7_2, rfl, HA, HK2, HB⟩ := hrel
     cases gk with
     | zero => exact absurd HA.out (by simp [skiffref1_FreePlace.l0])
     | succ k2 =>
      have H := HA.out
      clear HA
      simp only [skiffref1_FreePlace.l0] at H
      by_cases c8 : (wrap64 (x7_2 + 24)) ≤ (wrap64 ((wrap64 (a1 + 1)) * 96))
      ·rw [if_pos c8] at H
       have c8b0 : decide ((wrap64 (x7_2 + 24)) ≤ (wrap64 ((wrap64 (a1 + 1)) * 96))) = true := decide_eq_true c8
       clear c8
       by_cases c9 : 0 ≤ x7_2
       ·rw [if_pos c9] at H
        have c9b0 := eq_true c9
        have c9b1 : decide (0 ≤ x7_2) = true := decide_eq_true c9
        clear c9
        by_cases c10 : x7_2 ≤ (wrap64 (x7_2 + 24))
        ·rw [if_pos c10] at H
         have c10b0 := eq_true c10
         have c10b1 : decide (x7_2 ≤ (wrap64 (x7_2 + 24))) = true := decide_eq_true c10
         by_cases c11 : (wrap64 (x7_2 + 24)) ≤ (a0.size : Int)
         ·rw [if_pos c11] at H
          have c11b0 := eq_true c11
          have c11b1 : decide ((wrap64 (x7_2 + 24)) ≤ (a0.size : Int)) = true := decide_eq_true c11
          replace H := Option.bind_eq_some_iff.mp H
          obtain ⟨t223, A120, H⟩ := H
          replace H : (if (a0.extract (x7_2 : Int).toNat ((wrap64 (x7_2 + 24)) : Int).toNat).toList = t223.toList then (some (x7_2, true, 0)) else (skiffref1_FreePlace.l0 k2 a0 a1 (wrap64 (x7_2 + 24)))) = some (r1, r2, r3) := H
          have A12 := Aside0.mk A120
          clear A120
          by_cases c13 : (a0.extract (x7_2 : Int).toNat ((wrap64 (x7_2 + 24)) : Int).toNat).toList = t223.toList
          ·rw [if_pos c13] at H
           have c13b0 : ((a0.extract (x7_2 : Int).toNat ((wrap64 (x7_2 + 24)) : Int).toNat).toList == t223.toList) = true := beq_iff_eq.mpr c13
           have c13b1 : ((a0.extract (x7_2 : Int).toNat ((wrap64 (x7_2 + 24)) : Int).toNat).toList != t223.toList) = false := bne_eq_false_iff_eq.mpr c13
           clear c13
           simp only [Option.some.injEq, Prod.mk.injEq] at H
           obtain ⟨rfl, rfl, rfl⟩ := H
           try go_wp2
           have n0_ := Aside0.mk (below_drew1 HB.out)
           clear HB
           have HB := n0_
           clear n0_
           refine start_ (n := 7) (S := fun w' => True) (ds := []) #[false, false, false, false, false, false, false] (by kernel_rfl) rfl rfl trivial (fun hHeld => ?_)
           generalize wr.drew = w14 at HB hHeld ⊢
           refine pure_ (i := 0) (N := some 26) (v := ?_) (a' := ?_) #[true, false, false, false, false, false, false] rfl rfl (by kernel_rfl) (fun _ _ _ h => h) (Or.inl ⟨by rfl, ?_⟩) ?_ ?_
           rotate_left
           ·intro w'
            go_simp
            with_reducible rfl
           rotate_left
           ·simp only [Act.put, List.setIfInBounds_toArray, List.set_cons_zero, List.set_cons_succ, i64_w, i32_w]
            rfl
           refine pure_ (i := 1) (N := some 27) (v := ?_) (a' := ?_) #[true, true, false, false, false, false, false] rfl rfl (by kernel_rfl) (fun _ _ _ h => h) (Or.inl ⟨by rfl, ?_⟩) ?_ ?_
           rotate_left
           ·intro w'
            go_simp
            with_reducible rfl
           rotate_left
           ·simp only [Act.put, List.setIfInBounds_toArray, List.set_cons_zero, List.set_cons_succ, i64_w, i32_w]
            rfl
           refine pure_ (i := 2) (N := some 28) (v := ?_) (a' := ?_) #[true, true, true, false, false, false, false] rfl rfl (by kernel_rfl) (fun _ _ _ h => h) (Or.inl ⟨by rfl, ?_⟩) ?_ ?_
           rotate_left
           ·intro w'
            go_simp
            with_reducible rfl
           rotate_left
           ·simp only [Act.put, List.setIfInBounds_toArray, List.set_cons_zero, List.set_cons_succ, i64_w, i32_w]
            rfl
           refine pure_ (i := 3) (N := some 29) (v := ?_) (a' := ?_) #[true, true, true, true, false, false, false] rfl rfl (by kernel_rfl) (fun _ _ _ h => h) (Or.inl ⟨by rfl, ?_⟩) ?_ ?_
           rotate_left
           ·intro w'
            go_simp
            with_reducible rfl
           rotate_left
           ·simp only [Act.put, List.setIfInBounds_toArray, List.set_cons_zero, List.set_cons_succ, i64_w, i32_w]
            rfl
           refine pure_ (i := 4) (N := some 30) (v := ?_) (a' := ?_) #[true, true, true, true, true, false, false] rfl rfl (by kernel_rfl) (fun _ _ _ h => h) (Or.inl ⟨by rfl, ?_⟩) ?_ ?_
           rotate_left
           ·intro w'
            go_simp
            with_reducible rfl
           rotate_left
           ·simp only [Act.put, List.setIfInBounds_toArray, List.set_cons_zero, List.set_cons_succ, i64_w, i32_w]
            rfl
           refine one_ (i := 5) (N := some 31) #[true, true, true, true, true, true, false] rfl rfl (by kernel_rfl) (by decide) (fun K hK => ?_)
           refine goes_ Try.func37 (by kernel_rfl) rfl #[.int .i64 24] (by rfl) rfl rfl q1_ ?_
           with_reducible refine (skiffref1_full.calls k2 24 t223 _ A12.out).mono ?_
           rintro e w15 ⟨rfl, hb⟩
           refine ⟨_, rfl, ?_⟩
           have n0_ := Aside0.mk (below_step q2_ hb)
           clear HB
           have HB := n0_
           clear n0_
           (try clear hb)
           (try clear hb2)
           (try clear hk)
           (try clear hi)
           refine hK.out _ _ trivial (fun hHeld => ?_)
           clear hK K
           refine norm_ (a' := ?_) ?_ ?_
           rotate_left
           ·show Act.put _ (some 31) _ = _
            simp only [Act.put, List.setIfInBounds_toArray, List.set_cons_zero, List.set_cons_succ, i64_w, i32_w]
            rfl
           refine pure_ (i := 6) (N := some 32) (v := ?_) (a' := ?_) #[true, true, true, true, true, true, true] rfl rfl (by kernel_rfl) (fun _ _ _ h => h) (Or.inl ⟨by rfl, ?_⟩) ?_ ?_
           rotate_left
           ·intro w'
            go_simp
            with_reducible rfl
           rotate_left
           ·simp only [Act.put, List.setIfInBounds_toArray, List.set_cons_zero, List.set_cons_succ, i64_w, i32_w]
            rfl
           refine done_ (by kernel_rfl) ?_
           try go_wp2
           go_ret3
           exact ⟨by first | rfl | (simp [errW_none, errW_some] <;> rfl) | (simp [*, errW_none, errW_some] <;> rfl), by repeat (first | (with_reducible first | exact HB.out | apply below_alloc | apply pw_below_drewN | apply below_drew1) | exact HB.out)⟩
          ·rw [if_neg c13] at H
           have c13b0 : ((a0.extract (x7_2 : Int).toNat ((wrap64 (x7_2 + 24)) : Int).toNat).toList == t223.toList) = false := beq_eq_false_iff_ne.mpr c13
           have c13b1 : ((a0.extract (x7_2 : Int).toNat ((wrap64 (x7_2 + 24)) : Int).toNat).toList != t223.toList) = true := bne_iff_ne.mpr c13
           have H' := Aside0.mk H
           clear H
           try go_wp2
           have n0_ := Aside0.mk (below_drew1 HB.out)
           clear HB
           have HB := n0_
           clear n0_
           refine start_ (n := 7) (S := fun w' => True) (ds := []) #[false, false, false, false, false, false, false] (by kernel_rfl) rfl rfl trivial (fun hHeld => ?_)
           generalize wr.drew = w16 at HB hHeld ⊢
           refine pure_ (i := 0) (N := some 26) (v := ?_) (a' := ?_) #[true, false, false, false, false, false, false] rfl rfl (by kernel_rfl) (fun _ _ _ h => h) (Or.inl ⟨by rfl, ?_⟩) ?_ ?_
           rotate_left
           ·intro w'
            go_simp
            with_reducible rfl
           rotate_left
           ·simp only [Act.put, List.setIfInBounds_toArray, List.set_cons_zero, List.set_cons_succ, i64_w, i32_w]
            rfl
           refine pure_ (i := 1) (N := some 27) (v := ?_) (a' := ?_) #[true, true, false, false, false, false, false] rfl rfl (by kernel_rfl) (fun _ _ _ h => h) (Or.inl ⟨by rfl, ?_⟩) ?_ ?_
           rotate_left
           ·intro w'
            go_simp
            with_reducible rfl
           rotate_left
           ·simp only [Act.put, List.setIfInBounds_toArray, List.set_cons_zero, List.set_cons_succ, i64_w, i32_w]
            rfl
           refine pure_ (i := 2) (N := some 28) (v := ?_) (a' := ?_) #[true, true, true, false, false, false, false] rfl rfl (by kernel_rfl) (fun _ _ _ h => h) (Or.inl ⟨by rfl, ?_⟩) ?_ ?_
           rotate_left
           ·intro w'
            go_simp
            with_reducible rfl
           rotate_left
           ·simp only [Act.put, List.setIfInBounds_toArray, List.set_cons_zero, List.set_cons_succ, i64_w, i32_w]
            rfl
           refine pure_ (i := 3) (N := some 29) (v := ?_) (a' := ?_) #[true, true, true, true, false, false, false] rfl rfl (by kernel_rfl) (fun _ _ _ h => h) (Or.inl ⟨by rfl, ?_⟩) ?_ ?_
           rotate_left
           ·intro w'
            go_simp
            with_reducible rfl
           rotate_left
           ·simp only [Act.put, List.setIfInBounds_toArray, List.set_cons_zero, List.set_cons_succ, i64_w, i32_w]
            rfl
           refine pure_ (i := 4) (N := some 30) (v := ?_) (a' := ?_) #[true, true, true, true, true, false, false] rfl rfl (by kernel_rfl) (fun _ _ _ h => h) (Or.inl ⟨by rfl, ?_⟩) ?_ ?_
           rotate_left
           ·intro w'
            go_simp
            with_reducible rfl
           rotate_left
           ·simp only [Act.put, List.setIfInBounds_toArray, List.set_cons_zero, List.set_cons_succ, i64_w, i32_w]
            rfl
           refine one_ (i := 5) (N := some 31) #[true, true, true, true, true, true, false] rfl rfl (by kernel_rfl) (by decide) (fun K hK => ?_)
           refine goes_ Try.func37 (by kernel_rfl) rfl #[.int .i64 24] (by rfl) rfl rfl q1_ ?_
           with_reducible refine (skiffref1_full.calls k2 24 t223 _ A12.out).mono ?_
           rintro e w17 ⟨rfl, hb⟩
           refine ⟨_, rfl, ?_⟩
           have n0_ := Aside0.mk (below_step q2_ hb)
           clear HB
           have HB := n0_
           clear n0_
           (try clear hb)
           (try clear hb2)
           (try clear hk)
           (try clear hi)
           refine hK.out _ _ trivial (fun hHeld => ?_)
           clear hK K
           refine norm_ (a' := ?_) ?_ ?_
           rotate_left
           ·show Act.put _ (some 31) _ = _
            simp only [Act.put, List.setIfInBounds_toArray, List.set_cons_zero, List.set_cons_succ, i64_w, i32_w]
            rfl
           refine pure_ (i := 6) (N := some 32) (v := ?_) (a' := ?_) #[true, true, true, true, true, true, true] rfl rfl (by kernel_rfl) (fun _ _ _ h => h) (Or.inl ⟨by rfl, ?_⟩) ?_ ?_
           rotate_left
           ·intro w'
            go_simp
            with_reducible rfl
           rotate_left
           ·simp only [Act.put, List.setIfInBounds_toArray, List.set_cons_zero, List.set_cons_succ, i64_w, i32_w]
            rfl
           refine done_ (by kernel_rfl) ?_
           try go_wp2
           go_roundg k2
           case measure => have := HJ2.out; have := HK2.out; omega
           case rel => exact ⟨(wrap64 (x7_2 + 24)), q15_, H', ⟨by have := HJ2.out; have := HK2.out; omega⟩, ⟨by repeat (first | (with_reducible first | exact HB.out | apply below_alloc | apply pw_below_drewN | apply below_drew1) | exact HB.out)⟩⟩
         ·rw [if_neg c11] at H
          exact absurd H (by simp)
        ·rw [if_neg c10] at H
         exact absurd H (by simp)
       ·rw [if_neg c9] at H
        exact absurd H (by simp)
      ·rw [if_neg c8] at H
       have c8b0 : decide ((wrap64 (x7_2 + 24)) ≤ (wrap64 ((wrap64 (a1 + 1)) * 96))) = false := decide_eq_false c8
       clear c8
       simp only [Option.some.injEq, Prod.mk.injEq] at H
       obtain ⟨rfl, rfl, rfl⟩ := H
       go_wp2
       go_ret3
       exact ⟨by first | rfl | (simp [errW_none, errW_some] <;> rfl) | (simp [*, errW_none, errW_some] <;> rfl), by repeat (first | (with_reducible first | exact HB.out | apply below_alloc | apply pw_below_drewN | apply below_drew1) | exact HB.out)⟩
mutual
def skiffref1_Append.j0 : Nat → ByteArray → ByteArray → Bool → Option ((List (S87)) × Int)
 | 0, _, _, _ => none
 | k + 1, x0, x6, x27 => if x27 = true then (some (([] : List (S87)), 800)) else ((skiffref1_Active.f k x0).bind fun bt228 => (if bt228.2.2.2.2.2 = 0 then (skiffref1_Append.j1 k x0 x6 (wrap64 (Int.tdiv bt228.1 96))) else (skiffref1_Append.j1 k x0 x6 0)))
def skiffref1_Append.j1 : Nat → ByteArray → ByteArray → Int → Option ((List (S87)) × Int)
 | 0, _, _, _ => none
 | k + 1, x0, x6, x8 => (skiffref1_FreePlace.f k x0 x8).bind fun bt235 => (if bt235.2.1 = true then ((skiffref1_Words.f k bt235.1 x6).bind fun bt238 => (if ([] : List (S87)).length + bt238.1.length < 4398046511104 then (some ((([] : List (S87)) ++ bt238.1), 0)) else (none))) else (if ([] : List (S87)).length < 4398046511104 then ((some (([] : List (S87)) ++ [(⟨true, wrap64 ((wrap64 (1 - x8)) * 96), (⟨#[]⟩ : ByteArray)⟩ : S87)] : List (S87))).bind fun y245 => ((skiffref1_Words.f k (wrap64 ((wrap64 (1 - x8)) * 96)) x6).bind fun bt248 => (if y245.length + bt248.1.length < 4398046511104 then (some ((y245 ++ bt248.1), 0)) else (none)))) else (none)))
end
def skiffref1_Append.f (k : Nat) (a0 : ByteArray) (a1_0 : Int) (a1_1 : Int) (a1_2 : Int) (a1_3 : Int) : Option ((List (S87)) × Int) := (Hand.skiffref1_PutEntry.f k a1_0 a1_1 a1_2 a1_3).bind fun bt225 => ((skiffref1_FlashMay.f a0).bind fun t227 => (if t227 = true then (skiffref1_Append.j0 k a0 bt225.1 (bt225.2 != 0)) else (skiffref1_Append.j0 k a0 bt225.1 true)))
set_option maxHeartbeats 8000000 in
set_option maxRecDepth 100000 in
theorem skiffref1_Append.calls (k : Nat) (a0 : ByteArray) (a1_0 : Int) (a1_1 : Int) (a1_2 : Int) (a1_3 : Int) (r1 : List (S87)) (r2 : Int) (w : World) (h : skiffref1_Append.f k a0 a1_0 a1_1 a1_2 a1_3 = some (r1, r2)) :
  Calls Try.prog 45 #[.string a0, .agg #[.int .i64 a1_0, .int .i64 a1_1, .int .i64 a1_2, .int .i64 a1_3]] w fun e w' => ∃ v0_ : Value, e = .returned (.tuple #[v0_, .int .i64 r2]) ∧ Kd.R k87 87 w' w.heap.size (fun _ => True) v0_ r1 ∧ Below w.heap.size w w' := by
 have hu23 := Try.underlying23
 have hu25 := Try.underlying25
 have hu87 := Try.underlying87
 have HB := Aside0.mk (Below.refl w.heap.size w)
 have H : ((Hand.skiffref1_PutEntry.f k a1_0 a1_1 a1_2 a1_3).bind fun bt225 => ((skiffref1_FlashMay.f a0).bind fun t227 => (if t227 = true then (skiffref1_Append.j0 k a0 bt225.1 (bt225.2 != 0)) else (skiffref1_Append.j0 k a0 bt225.1 true)))) = some (r1, r2) := h
 clear h
 replace H := Option.bind_eq_some_iff.mp H
 obtain ⟨⟨t225, t226⟩, A30, H⟩ := H
 replace H : ((skiffref1_FlashMay.f a0).bind fun t227 => (if t227 = true then (skiffref1_Append.j0 k a0 t225 (t226 != 0)) else (skiffref1_Append.j0 k a0 t225 true))) = some (r1, r2) := H
 have A3 := Aside0.mk A30
 clear A30
 have HC4 := Aside0.mk H
 clear H
 go_enter Try.func45, Try.ntmps45
 go_upto_region 2 with (first | ((with_reducible refine gate_dst (N := 3) rfl ?_); refine box_event ?hg (N := 3) ?hd (cs := #[.int .i64 a1_0, .int .i64 a1_1, .int .i64 a1_2, .int .i64 a1_3]) (t := 23) ?hr ?_; (case hd => rfl); (case hg => rfl); (case hr => first | (go_simp; done) | (go_simp; rfl)); intro gb224 hg w5 hbox hb; have n0_ := Aside0.mk (below_step q2_ hb); have n1_ := Aside0.mk (hbox); have n2_ := Aside0.mk ((by rw [hg]; exact (below_size q2_) : w.heap.size ≤ gb224)); have n3_ := Aside0.mk ((by rw [hg]; exact (below_size q2_) : w.heap.size ≤ gb224)); clear HB; have HB := n0_; have BK224 := n1_; have GW224 := n2_; have GE224 := n3_; clear n0_ n1_ n2_ n3_; clear hb hbox hg; have hcz6_0 : w5.cell? ⟨gb224, 0, none⟩ = some (.int .i64 a1_0) := (blk_cell BK224.out 0).trans rfl; have hcz6_1 : w5.cell? ⟨gb224, 1, none⟩ = some (.int .i64 a1_1) := (blk_cell BK224.out 1).trans rfl; have hcz6_2 : w5.cell? ⟨gb224, 2, none⟩ = some (.int .i64 a1_2) := (blk_cell BK224.out 2).trans rfl; have hcz6_3 : w5.cell? ⟨gb224, 3, none⟩ = some (.int .i64 a1_3) := (blk_cell BK224.out 3).trans rfl; have hfz6_0 := blk_frozen BK224.out 0; have hfz6_1 := blk_frozen BK224.out 1; have hfz6_2 := blk_frozen BK224.out 2; have hfz6_3 := blk_frozen BK224.out 3) | ((with_reducible refine gate_callee (f := 19) rfl ?_); refine goesL_ (some 18) rfl rfl Try.func19 (by kernel_rfl) rfl #[.agg #[.int .i64 a1_0, .int .i64 a1_1, .int .i64 a1_2, .int .i64 a1_3]] rfl q1_ ?_; (with_reducible refine (Hand.skiffref1_PutEntry.calls k a1_0 a1_1 a1_2 a1_3 t225 t226 _ A3.out).mono ?_); rintro e w7 ⟨rfl, hb⟩; refine ⟨_, rfl, ?_⟩; have n0_ := Aside0.mk (blk_below (g := gb224) (o := .cells #[.int .i64 a1_0, .int .i64 a1_1, .int .i64 a1_2, .int .i64 a1_3] 23 (0, 0)) (by (with_reducible repeat (first | refine blk_drewN ?_ _ | refine blk_drew ?_ | refine blk_alloc ?_ _)); exact BK224.out) hb); have n1_ := Aside0.mk (below_step (by repeat (first | (with_reducible first | exact HB.out | apply below_alloc | apply pw_below_drewN | apply below_drew1 | refine below_set ?_ GE224.out) | exact HB.out)) hb); clear BK224; clear HB; have BK224 := n0_; have HB := n1_; clear n0_ n1_; (try clear hb); (try clear hb2); (try clear hk); (try clear hi)))
 (try simp only [Act.put, List.setIfInBounds_toArray, List.set_cons_zero, List.set_cons_succ])
 go_cut [27] (fun v27 wc => ∃ (kq : Nat) (x27_3 : Bool), v27 = .bool x27_3 ∧ Aside0 (skiffref1_Append.j0 kq a0 t225 x27_3 = some (r1, r2)) ∧ Aside0 (kq ≤ k) ∧ Aside0 (wc.heap[gb224]? = some (.cells #[.int .i64 a1_0, .int .i64 a1_1, .int .i64 a1_2, .int .i64 a1_3] 23 (0, 0))) ∧ Aside0 (Below w.heap.size w wc))
 case first =>
  have H := HC4.out
  clear HC4
  replace H := Option.bind_eq_some_iff.mp H
  obtain ⟨t227, A80, H⟩ := H
  replace H : (if t227 = true then (skiffref1_Append.j0 k a0 t225 (t226 != 0)) else (skiffref1_Append.j0 k a0 t225 true)) = some (r1, r2) := H
  have A8 := Aside0.mk A80
  clear A80
  by_cases c9 : t227 = true
  ·subst c9
   have H1 : (skiffref1_Append.j0 k a0 t225 (t226 != 0)) = some (r1, r2) := by rw [if_pos rfl] at H; exact H
   clear H
   have H := H1
   clear H1
   have H' := Aside0.mk H
   clear H
   go_wp2_with (first | ((with_reducible refine gate_callee (f := 34) rfl ?_); refine goesL_ (some 22) rfl rfl Try.func34 (by kernel_rfl) rfl #[.string a0] rfl q1_ ?_; (with_reducible refine (skiffref1_FlashMay.calls a0 true _ A8.out).mono ?_); rintro e w' ⟨rfl, ⟨nd, rfl⟩⟩; refine ⟨_, rfl, ?_⟩))
   go_meet
   case rel => exact ⟨_, ((t226 != 0)), q15_, H', ⟨by first | omega | exact Nat.le_refl _⟩, ⟨by (with_reducible repeat (first | refine blk_drewN ?_ _ | refine blk_drew ?_ | refine blk_alloc ?_ _)); exact BK224.out⟩, ⟨by repeat (first | (with_reducible first | exact HB.out | apply below_alloc | apply pw_below_drewN | apply below_drew1 | refine below_set ?_ GE224.out) | exact HB.out)⟩⟩
  ·replace c9 := Bool.eq_false_iff.mpr c9
   subst c9
   have H1 : (skiffref1_Append.j0 k a0 t225 true) = some (r1, r2) := by rw [if_neg (show ¬ (false = true) by decide)] at H; exact H
   clear H
   have H := H1
   clear H1
   have H' := Aside0.mk H
   clear H
   go_wp2_with (first | ((with_reducible refine gate_callee (f := 34) rfl ?_); refine goesL_ (some 22) rfl rfl Try.func34 (by kernel_rfl) rfl #[.string a0] rfl q1_ ?_; (with_reducible refine (skiffref1_FlashMay.calls a0 false _ A8.out).mono ?_); rintro e w' ⟨rfl, ⟨nd, rfl⟩⟩; refine ⟨_, rfl, ?_⟩))
   go_meet
   case rel => exact ⟨_, (true), q15_, H', ⟨by first | omega | exact Nat.le_refl _⟩, ⟨by (with_reducible repeat (first | refine blk_drewN ?_ _ | refine blk_drew ?_ | refine blk_alloc ?_ _)); exact BK224.out⟩, ⟨by repeat (first | (with_reducible first | exact HB.out | apply below_alloc | apply pw_below_drewN | apply below_drew1 | refine below_set ?_ GE224.out) | exact HB.out)⟩⟩
 case rest =>
  clear HC4
  try clear c1
  try clear p2
  try clear c3
  try clear c4
  try clear c9
  try clear hcz6_0
  try clear hcz6_1
  try clear hcz6_2
  try clear hcz6_3
  try clear hfz6_0
  try clear hfz6_1
  try clear hfz6_2
  try clear hfz6_3
  obtain ⟨kq, x27_3, rfl, HA, HJ3, BK224, HB⟩ := hcut
  cases kq with
  | zero => exact absurd HA.out (by simp [skiffref1_Append.j0])
  | succ kj3 =>
   have H := HA.out
   clear HA
   simp only [skiffref1_Append.j0] at H
   by_cases c10 : x27_3 = true
   ·subst c10
    have H1 : (some (([] : List (S87)), 800)) = some (r1, r2) := by rw [if_pos rfl] at H; exact H
    clear H
    have H := H1
    clear H1
    simp only [Option.some.injEq, Prod.mk.injEq] at H
    obtain ⟨rfl, rfl⟩ := H
    go_wp2
    go_ret2
    exact ⟨_, by first | rfl | (simp [errW_none, errW_some] <;> rfl) | (simp [*, errW_none, errW_some] <;> rfl), by first | exact Kd.R_nil _ _ _ _ _ | exact Kd.N_nil _ _ _ _ _ | exact Kd.V_nil _ _ _ _ _ | exact Kd.Q_nil _ _ _ _ _ | exact Kd.S_nil _ _ _ _ _, by repeat (first | (with_reducible first | exact HB.out | apply below_alloc | apply pw_below_drewN | apply below_drew1 | refine below_set ?_ GE224.out) | exact HB.out)⟩
   ·replace c10 := Bool.eq_false_iff.mpr c10
    subst c10
    have H1 : ((skiffref1_Active.f kj3 a0).bind fun bt228 => (if bt228.2.2.2.2.2 = 0 then (skiffref1_Append.j1 kj3 a0 t225 (wrap64 (Int.tdiv bt228.1 96))) else (skiffref1_Append.j1 kj3 a0 t225 0))) = some (r1, r2) := by rw [if_neg (show ¬ (false = true) by decide)] at H; exact H
    clear H
    have H := H1
    clear H1
    replace H := Option.bind_eq_some_iff.mp H
    obtain ⟨⟨t228, t229, t230, t231, t232, t233⟩, A110, H⟩ := H
    replace H : (if t233 = 0 then (skiffref1_Append.j1 kj3 a0 t225 (wrap64 (Int.tdiv t228 96))) else (skiffref1_Append.j1 kj3 a0 t225 0)) = some (r1, r2) := H
    have A11 := Aside0.mk A110
    clear A110
    have HC12 := Aside0.mk H
    clear H
    go_upto_if 34 with (first | ((with_reducible refine gate_callee (f := 10) rfl ?_); refine goesL_ (some 30) rfl rfl Try.func10 (by kernel_rfl) rfl #[.string a0] rfl q1_ ?_; (with_reducible refine (skiffref1_Active.calls kj3 a0 t228 t229 t230 t231 t232 t233 _ A11.out).mono ?_); rintro e w13 ⟨rfl, hb⟩; refine ⟨_, rfl, ?_⟩; have n0_ := Aside0.mk (blk_below (g := gb224) (o := .cells #[.int .i64 a1_0, .int .i64 a1_1, .int .i64 a1_2, .int .i64 a1_3] 23 (0, 0)) (by (with_reducible repeat (first | refine blk_drewN ?_ _ | refine blk_drew ?_ | refine blk_alloc ?_ _)); exact BK224.out) hb); have n1_ := Aside0.mk (below_step (by repeat (first | (with_reducible first | exact HB.out | apply below_alloc | apply pw_below_drewN | apply below_drew1 | refine below_set ?_ GE224.out) | exact HB.out)) hb); clear BK224; clear HB; have BK224 := n0_; have HB := n1_; clear n0_ n1_; (try clear hb); (try clear hb2); (try clear hk); (try clear hi)) | ((with_reducible refine gate_dst (N := 9) rfl ?_); refine box_event ?hg (N := 9) ?hd (cs := #[.int .i64 0, .int .i64 0, .int .i64 0, .int .i64 0, .int .i64 0]) (t := 25) ?hr ?_; (case hd => rfl); (case hg => rfl); (case hr => first | (go_simp; done) | (go_simp; rfl)); intro gb234 hg w14 hbox hb; have n0_ := Aside0.mk (blk_below (g := gb224) (o := .cells #[.int .i64 a1_0, .int .i64 a1_1, .int .i64 a1_2, .int .i64 a1_3] 23 (0, 0)) (by (with_reducible repeat (first | refine blk_drewN ?_ _ | refine blk_drew ?_ | refine blk_alloc ?_ _)); exact BK224.out) hb); have n1_ := Aside0.mk (below_step (by repeat (first | (with_reducible first | exact HB.out | apply below_alloc | apply pw_below_drewN | apply below_drew1 | refine below_set ?_ GE224.out) | exact HB.out)) hb); have n2_ := Aside0.mk (hbox); have n3_ := Aside0.mk ((by rw [hg]; exact (below_size (by repeat (first | (with_reducible first | exact HB.out | apply below_alloc | apply pw_below_drewN | apply below_drew1 | refine below_set ?_ GE224.out) | exact HB.out))) : w.heap.size ≤ gb234)); have n4_ := Aside0.mk ((by rw [hg]; exact (below_size (by repeat (first | (with_reducible first | exact HB.out | apply below_alloc | apply pw_below_drewN | apply below_drew1 | refine below_set ?_ GE224.out) | exact HB.out))) : w.heap.size ≤ gb234)); have n5_ := Aside0.mk ((by rw [hg]; exact Nat.ne_of_lt (blk_lt (g := gb224) (o := .cells #[.int .i64 a1_0, .int .i64 a1_1, .int .i64 a1_2, .int .i64 a1_3] 23 (0, 0)) (by (with_reducible repeat (first | refine blk_drewN ?_ _ | refine blk_drew ?_ | refine blk_alloc ?_ _)); exact BK224.out)) : gb224 ≠ gb234)); have n6_ := Aside0.mk ((by rw [hg]; exact Nat.ne_of_gt (blk_lt (g := gb224) (o := .cells #[.int .i64 a1_0, .int .i64 a1_1, .int .i64 a1_2, .int .i64 a1_3] 23 (0, 0)) (by (with_reducible repeat (first | refine blk_drewN ?_ _ | refine blk_drew ?_ | refine blk_alloc ?_ _)); exact BK224.out)) : gb234 ≠ gb224)); clear BK224; clear HB; have BK224 := n0_; have HB := n1_; have BK234 := n2_; have GW234 := n3_; have GE234 := n4_; have NB224_234 := n5_; have NB234_224 := n6_; clear n0_ n1_ n2_ n3_ n4_ n5_ n6_; clear hb hbox hg; have hnb15 := NB234_224.out; have hnc15 := NB224_234.out; have hcz16_0 : w14.cell? ⟨gb234, 0, none⟩ = some (.int .i64 0) := (blk_cell BK234.out 0).trans rfl; have hcz16_1 : w14.cell? ⟨gb234, 1, none⟩ = some (.int .i64 0) := (blk_cell BK234.out 1).trans rfl; have hcz16_2 : w14.cell? ⟨gb234, 2, none⟩ = some (.int .i64 0) := (blk_cell BK234.out 2).trans rfl; have hcz16_3 : w14.cell? ⟨gb234, 3, none⟩ = some (.int .i64 0) := (blk_cell BK234.out 3).trans rfl; have hcz16_4 : w14.cell? ⟨gb234, 4, none⟩ = some (.int .i64 0) := (blk_cell BK234.out 4).trans rfl; have hfz16_0 := blk_frozen BK234.out 0; have hfz16_1 := blk_frozen BK234.out 1; have hfz16_2 := blk_frozen BK234.out 2; have hfz16_3 := blk_frozen BK234.out 3; have hfz16_4 := blk_frozen BK234.out 4))
    (try simp only [Act.put, List.setIfInBounds_toArray, List.set_cons_zero, List.set_cons_succ])
    go_cut [8] (fun v8 wc => ∃ (kq : Nat) (x8_11 : Int), v8 = .int .i64 x8_11 ∧ Aside0 (skiffref1_Append.j1 kq a0 t225 x8_11 = some (r1, r2)) ∧ Aside0 (kq ≤ kj3) ∧ Aside0 (wc.heap[gb224]? = some (.cells #[.int .i64 a1_0, .int .i64 a1_1, .int .i64 a1_2, .int .i64 a1_3] 23 (0, 0))) ∧ Aside0 (wc.heap[gb234]? = some (.cells #[.int .i64 t228, .int .i64 t229, .int .i64 t230, .int .i64 t231, .int .i64 t232] 25 (0, 0))) ∧ Aside0 (Below w.heap.size w wc))
    case first =>
     have H := HC12.out
     clear HC12
     by_cases c17 : t233 = 0
     ·rw [if_pos c17] at H
      have c17b0 : (t233 == 0) = true := beq_iff_eq.mpr c17
      have c17b1 : (t233 != 0) = false := bne_eq_false_iff_eq.mpr c17
      clear c17
      (first | rw [c17b0] | (simp only [i64_w, i32_w]; rw [c17b0]) | skip)
      have H' := Aside0.mk H
      clear H
      have hnb18 := NB234_224.out
      have hnc18 := NB224_234.out
      have hcz19_0 : w14.cell? ⟨gb234, 0, none⟩ = some (.int .i64 0) := (blk_cell BK234.out 0).trans rfl
      have hcz19_1 : w14.cell? ⟨gb234, 1, none⟩ = some (.int .i64 0) := (blk_cell BK234.out 1).trans rfl
      have hcz19_2 : w14.cell? ⟨gb234, 2, none⟩ = some (.int .i64 0) := (blk_cell BK234.out 2).trans rfl
      have hcz19_3 : w14.cell? ⟨gb234, 3, none⟩ = some (.int .i64 0) := (blk_cell BK234.out 3).trans rfl
      have hcz19_4 : w14.cell? ⟨gb234, 4, none⟩ = some (.int .i64 0) := (blk_cell BK234.out 4).trans rfl
      have hfz19_0 := blk_frozen BK234.out 0
      have hfz19_1 := blk_frozen BK234.out 1
      have hfz19_2 := blk_frozen BK234.out 2
      have hfz19_3 := blk_frozen BK234.out 3
      have hfz19_4 := blk_frozen BK234.out 4
      go_wp2
      go_meet
      case rel => exact ⟨_, (wrap64 (Int.tdiv t228 96)), q15_, H', ⟨by have := HJ3.out; first | omega | exact Nat.le_refl _⟩, ⟨by (with_reducible repeat (first | refine blk_drewN ?_ _ | refine blk_drew ?_ | refine blk_alloc ?_ _)); refine blk_far ?_ NB224_234.out _; (with_reducible repeat (first | refine blk_drewN ?_ _ | refine blk_drew ?_ | refine blk_alloc ?_ _)); refine blk_far ?_ NB224_234.out _; (with_reducible repeat (first | refine blk_drewN ?_ _ | refine blk_drew ?_ | refine blk_alloc ?_ _)); refine blk_far ?_ NB224_234.out _; (with_reducible repeat (first | refine blk_drewN ?_ _ | refine blk_drew ?_ | refine blk_alloc ?_ _)); refine blk_far ?_ NB224_234.out _; (with_reducible repeat (first | refine blk_drewN ?_ _ | refine blk_drew ?_ | refine blk_alloc ?_ _)); refine blk_far ?_ NB224_234.out _; (with_reducible repeat (first | refine blk_drewN ?_ _ | refine blk_drew ?_ | refine blk_alloc ?_ _)); exact BK224.out⟩, ⟨by (with_reducible repeat (first | refine blk_drewN ?_ _ | refine blk_drew ?_ | refine blk_alloc ?_ _)); refine blk_put (cs := #[.int .i64 t228, .int .i64 t229, .int .i64 t230, .int .i64 t231, .int .i64 0]) ?_ 4 _ rfl; (with_reducible repeat (first | refine blk_drewN ?_ _ | refine blk_drew ?_ | refine blk_alloc ?_ _)); refine blk_put (cs := #[.int .i64 t228, .int .i64 t229, .int .i64 t230, .int .i64 0, .int .i64 0]) ?_ 3 _ rfl; (with_reducible repeat (first | refine blk_drewN ?_ _ | refine blk_drew ?_ | refine blk_alloc ?_ _)); refine blk_put (cs := #[.int .i64 t228, .int .i64 t229, .int .i64 0, .int .i64 0, .int .i64 0]) ?_ 2 _ rfl; (with_reducible repeat (first | refine blk_drewN ?_ _ | refine blk_drew ?_ | refine blk_alloc ?_ _)); refine blk_put (cs := #[.int .i64 t228, .int .i64 0, .int .i64 0, .int .i64 0, .int .i64 0]) ?_ 1 _ rfl; (with_reducible repeat (first | refine blk_drewN ?_ _ | refine blk_drew ?_ | refine blk_alloc ?_ _)); refine blk_put (cs := #[.int .i64 0, .int .i64 0, .int .i64 0, .int .i64 0, .int .i64 0]) ?_ 0 _ rfl; (with_reducible repeat (first | refine blk_drewN ?_ _ | refine blk_drew ?_ | refine blk_alloc ?_ _)); exact BK234.out⟩, ⟨by repeat (first | (with_reducible first | exact HB.out | apply below_alloc | apply pw_below_drewN | apply below_drew1 | refine below_set ?_ GE224.out | refine below_set ?_ GE234.out) | exact HB.out)⟩⟩
     ·rw [if_neg c17] at H
      have c17b0 : (t233 == 0) = false := beq_eq_false_iff_ne.mpr c17
      have c17b1 : (t233 != 0) = true := bne_iff_ne.mpr c17
      (first | rw [c17b0] | (simp only [i64_w, i32_w]; rw [c17b0]) | skip)
      have H' := Aside0.mk H
      clear H
      go_wp2
      go_meet
      case rel => exact ⟨_, (0), q15_, H', ⟨by have := HJ3.out; first | omega | exact Nat.le_refl _⟩, ⟨by (with_reducible repeat (first | refine blk_drewN ?_ _ | refine blk_drew ?_ | refine blk_alloc ?_ _)); refine blk_far ?_ NB224_234.out _; (with_reducible repeat (first | refine blk_drewN ?_ _ | refine blk_drew ?_ | refine blk_alloc ?_ _)); refine blk_far ?_ NB224_234.out _; (with_reducible repeat (first | refine blk_drewN ?_ _ | refine blk_drew ?_ | refine blk_alloc ?_ _)); refine blk_far ?_ NB224_234.out _; (with_reducible repeat (first | refine blk_drewN ?_ _ | refine blk_drew ?_ | refine blk_alloc ?_ _)); refine blk_far ?_ NB224_234.out _; (with_reducible repeat (first | refine blk_drewN ?_ _ | refine blk_drew ?_ | refine blk_alloc ?_ _)); refine blk_far ?_ NB224_234.out _; (with_reducible repeat (first | refine blk_drewN ?_ _ | refine blk_drew ?_ | refine blk_alloc ?_ _)); exact BK224.out⟩, ⟨by (with_reducible repeat (first | refine blk_drewN ?_ _ | refine blk_drew ?_ | refine blk_alloc ?_ _)); refine blk_put (cs := #[.int .i64 t228, .int .i64 t229, .int .i64 t230, .int .i64 t231, .int .i64 0]) ?_ 4 _ rfl; (with_reducible repeat (first | refine blk_drewN ?_ _ | refine blk_drew ?_ | refine blk_alloc ?_ _)); refine blk_put (cs := #[.int .i64 t228, .int .i64 t229, .int .i64 t230, .int .i64 0, .int .i64 0]) ?_ 3 _ rfl; (with_reducible repeat (first | refine blk_drewN ?_ _ | refine blk_drew ?_ | refine blk_alloc ?_ _)); refine blk_put (cs := #[.int .i64 t228, .int .i64 t229, .int .i64 0, .int .i64 0, .int .i64 0]) ?_ 2 _ rfl; (with_reducible repeat (first | refine blk_drewN ?_ _ | refine blk_drew ?_ | refine blk_alloc ?_ _)); refine blk_put (cs := #[.int .i64 t228, .int .i64 0, .int .i64 0, .int .i64 0, .int .i64 0]) ?_ 1 _ rfl; (with_reducible repeat (first | refine blk_drewN ?_ _ | refine blk_drew ?_ | refine blk_alloc ?_ _)); refine blk_put (cs := #[.int .i64 0, .int .i64 0, .int .i64 0, .int .i64 0, .int .i64 0]) ?_ 0 _ rfl; (with_reducible repeat (first | refine blk_drewN ?_ _ | refine blk_drew ?_ | refine blk_alloc ?_ _)); exact BK234.out⟩, ⟨by repeat (first | (with_reducible first | exact HB.out | apply below_alloc | apply pw_below_drewN | apply below_drew1 | refine below_set ?_ GE224.out | refine below_set ?_ GE234.out) | exact HB.out)⟩⟩
    case rest =>
     clear HC12
     try clear c1
     try clear p2
     try clear c3
     try clear c4
     try clear p6
     try clear c9
     try clear c10
     try clear c15
     try clear c17
     try clear c17b0
     try clear c17b1
     try clear c18
     try clear c19
     try clear hcz16_0
     try clear hcz16_1
     try clear hcz16_2
     try clear hcz16_3
     try clear hcz16_4
     try clear hcz19_0
     try clear hcz19_1
     try clear hcz19_2
     try clear hcz19_3
     try clear hcz19_4
     try clear hcz6_0
     try clear hcz6_1
     try clear hcz6_2
     try clear hcz6_3
     try clear hfz16_0
     try clear hfz16_1
     try clear hfz16_2
     try clear hfz16_3
     try clear hfz16_4
     try clear hfz19_0
     try clear hfz19_1
     try clear hfz19_2
     try clear hfz19_3
     try clear hfz19_4
     try clear hfz6_0
     try clear hfz6_1
     try clear hfz6_2
     try clear hfz6_3
     try clear p2
     obtain ⟨kq, x8_11, rfl, HA, HJ11, BK224, BK234, HB⟩ := hcut
     cases kq with
     | zero => exact absurd HA.out (by simp [skiffref1_Append.j1])
     | succ kj11 =>
      have H := HA.out
      clear HA
      simp only [skiffref1_Append.j1] at H
      replace H := Option.bind_eq_some_iff.mp H
      obtain ⟨⟨t235, t236, t237⟩, A200, H⟩ := H
      replace H : (if t236 = true then ((skiffref1_Words.f kj11 t235 t225).bind fun bt238 => (if ([] : List (S87)).length + bt238.1.length < 4398046511104 then (some ((([] : List (S87)) ++ bt238.1), 0)) else (none))) else (if ([] : List (S87)).length < 4398046511104 then ((some (([] : List (S87)) ++ [(⟨true, wrap64 ((wrap64 (1 - x8_11)) * 96), (⟨#[]⟩ : ByteArray)⟩ : S87)] : List (S87))).bind fun y245 => ((skiffref1_Words.f kj11 (wrap64 ((wrap64 (1 - x8_11)) * 96)) t225).bind fun bt248 => (if y245.length + bt248.1.length < 4398046511104 then (some ((y245 ++ bt248.1), 0)) else (none)))) else (none))) = some (r1, r2) := H
      have A20 := Aside0.mk A200
      clear A200
      by_cases c21 : t236 = true
      ·subst c21
       have H1 : ((skiffref1_Words.f kj11 t235 t225).bind fun bt238 => (if ([] : List (S87)).length + bt238.1.length < 4398046511104 then (some ((([] : List (S87)) ++ bt238.1), 0)) else (none))) = some (r1, r2) := by rw [if_pos rfl] at H; exact H
       clear H
       have H := H1
       clear H1
       replace H := Option.bind_eq_some_iff.mp H
       obtain ⟨⟨t238, t239⟩, A220, H⟩ := H
       replace H : (if ([] : List (S87)).length + t238.length < 4398046511104 then (some ((([] : List (S87)) ++ t238), 0)) else (none)) = some (r1, r2) := H
       have A22 := Aside0.mk A220
       clear A220
       by_cases c23 : ([] : List (S87)).length + t238.length < 4398046511104
       ·rw [if_pos c23] at H
        have LMc23 := Aside0.mk c23
        clear c23
        obtain ⟨y242, hy242⟩ : ∃ y_ : List (S87), y_ = (([] : List (S87)) ++ t238) := ⟨_, rfl⟩
        replace H : (some (y242, 0)) = some (r1, r2) := by first | (rw [hy242]; with_reducible exact H) | (have H2_ := (Option.bind_some _ _).symm.trans H; rw [hy242]; with_reducible exact H2_) | (have H2_ := (Option.bind_some _ _).symm.trans H; with_reducible exact H2_) | with_reducible exact H | (rw [hy242]; exact H) | exact H
        have Ny242 := Aside0.mk hy242
        clear hy242
        simp only [Option.some.injEq, Prod.mk.injEq] at H
        obtain ⟨rfl, rfl⟩ := H
        go_wp2_with (first | ((with_reducible refine gate_callee (f := 69) rfl ?_); refine goesL_ (some 41) rfl rfl Try.func69 (by kernel_rfl) rfl #[.string a0, .int .i64 x8_11] rfl q1_ ?_; (with_reducible refine (skiffref1_FreePlace.calls kj11 a0 x8_11 t235 true t237 _ A20.out).mono ?_); rintro e w24 ⟨rfl, hb⟩; refine ⟨_, rfl, ?_⟩; have n0_ := Aside0.mk (blk_below (g := gb224) (o := .cells #[.int .i64 a1_0, .int .i64 a1_1, .int .i64 a1_2, .int .i64 a1_3] 23 (0, 0)) (by (with_reducible repeat (first | refine blk_drewN ?_ _ | refine blk_drew ?_ | refine blk_alloc ?_ _)); exact BK224.out) hb); have n1_ := Aside0.mk (blk_below (g := gb234) (o := .cells #[.int .i64 t228, .int .i64 t229, .int .i64 t230, .int .i64 t231, .int .i64 t232] 25 (0, 0)) (by (with_reducible repeat (first | refine blk_drewN ?_ _ | refine blk_drew ?_ | refine blk_alloc ?_ _)); exact BK234.out) hb); have n2_ := Aside0.mk (below_step (by repeat (first | (with_reducible first | exact HB.out | apply below_alloc | apply pw_below_drewN | apply below_drew1 | refine below_set ?_ GE224.out | refine below_set ?_ GE234.out) | exact HB.out)) hb); clear BK224; clear BK234; clear HB; have BK224 := n0_; have BK234 := n1_; have HB := n2_; clear n0_ n1_ n2_; (try clear hb); (try clear hb2); (try clear hk); (try clear hi)) | ((with_reducible refine gate_callee (f := 42) rfl ?_); refine goesL_ (some 58) rfl rfl Try.func42 (by kernel_rfl) rfl #[.int .i64 t235, .string t225] rfl q1_ ?_; (with_reducible refine (skiffref1_Words.calls kj11 t235 t225 t238 t239 _ A22.out).mono ?_); rintro e w25 ⟨v240, rfl, ho0, hb⟩; refine ⟨_, rfl, ?_⟩; have n0_ := Aside0.mk (Kd.R_lower ho0 (below_size (by repeat (first | (with_reducible first | exact HB.out | apply below_alloc | apply pw_below_drewN | apply below_drew1 | refine below_set ?_ GE224.out | refine below_set ?_ GE234.out) | exact HB.out)))); have n1_ := Aside0.mk (blk_below (g := gb224) (o := .cells #[.int .i64 a1_0, .int .i64 a1_1, .int .i64 a1_2, .int .i64 a1_3] 23 (0, 0)) (by (with_reducible repeat (first | refine blk_drewN ?_ _ | refine blk_drew ?_ | refine blk_alloc ?_ _)); exact BK224.out) hb); have n2_ := Aside0.mk (blk_below (g := gb234) (o := .cells #[.int .i64 t228, .int .i64 t229, .int .i64 t230, .int .i64 t231, .int .i64 t232] 25 (0, 0)) (by (with_reducible repeat (first | refine blk_drewN ?_ _ | refine blk_drew ?_ | refine blk_alloc ?_ _)); exact BK234.out) hb); have n3_ := Aside0.mk (below_step (by repeat (first | (with_reducible first | exact HB.out | apply below_alloc | apply pw_below_drewN | apply below_drew1 | refine below_set ?_ GE224.out | refine below_set ?_ GE234.out) | exact HB.out)) hb); clear BK224; clear BK234; clear HB; have HO241 := n0_; have BK224 := n1_; have BK234 := n2_; have HB := n3_; clear n0_ n1_ n2_ n3_; (try clear hb); (try clear hb2); (try clear hk); (try clear hi); (try clear ho0); obtain ⟨Ao27, co27, eo27⟩ := Kd.R_slice HO241.out; subst eo27) | ((with_reducible refine gate_builtin (b := .append) (xs := #[.tmp 61, .tmp 62]) rfl ?_); at_builtin; refine Kd.R_append_rows k87 (w0 := w) w.heap.size rfl (.tmp 61) (.tmp 62) 54 87 (.agg #[(.bool false), (.int .i64 0), (.string ⟨#[]⟩)]) 32 rfl Try.underlying54 info87 rfl (by decide) (by omega) (.slice none 0 0) ([] : List (S87)) t238 _ _ _ (fun k_ => some k_ ≠ (.slice Ao27 t238.length co27 : Value).ownBlock) (fun _ => False) rfl rfl ?aO ?aR (fun _ _ h => h) (fun _ h => h.elim) ?aF ?aB ?aS ?aL ?_; (case aR => repeat (first | exact (Kd.R_reads' HO241.out).2.2 | (with_reducible refine Kd.C_alloc ?_ _) | (with_reducible refine Kd.C_drewN ?_ _) | (with_reducible refine Kd.C_drew ?_))); (case aB => exact (by repeat (first | (with_reducible first | exact HB.out | apply below_alloc | apply pw_below_drewN | apply below_drew1 | refine below_set ?_ GE224.out | refine below_set ?_ GE234.out) | exact HB.out))); (case aF => exact (fun k_ hk => Kd.fresh' (Kd.R_lt (by (with_reducible repeat (first | apply Kd.R_alloc | apply Kd.R_drewN | apply Kd.R_drew)); exact HO241.out)) k_ hk)); (case aO => exact ((Kd.R_nil _ _ _ _ (fun k_ => some k_ ≠ (.slice Ao27 t238.length co27 : Value).ownBlock)))); (case aS => exact (below_size (by repeat (first | (with_reducible first | exact HB.out | apply below_alloc | apply pw_below_drewN | apply below_drew1 | refine below_set ?_ GE224.out | refine below_set ?_ GE234.out) | exact HB.out)))); (case aL => have := LMc23.out; omega); intro v243 w26 ho hb hg hat; rw [← Ny242.out] at ho; have n0_ := Aside0.mk (blk_grown (g := gb224) (o := .cells #[.int .i64 a1_0, .int .i64 a1_1, .int .i64 a1_2, .int .i64 a1_3] 23 (0, 0)) (by (with_reducible repeat (first | refine blk_drewN ?_ _ | refine blk_drew ?_ | refine blk_alloc ?_ _)); exact BK224.out) hg (by simp [Value.ownBlock])); have n1_ := Aside0.mk (blk_grown (g := gb234) (o := .cells #[.int .i64 t228, .int .i64 t229, .int .i64 t230, .int .i64 t231, .int .i64 t232] 25 (0, 0)) (by (with_reducible repeat (first | refine blk_drewN ?_ _ | refine blk_drew ?_ | refine blk_alloc ?_ _)); exact BK234.out) hg (by simp [Value.ownBlock])); have n2_ := Aside0.mk (Kd.R_after (Kd.R_apart_nil (by (with_reducible repeat (first | apply Kd.R_alloc | apply Kd.R_drewN | apply Kd.R_drew)); exact HO241.out)) hg hat); have n3_ := Aside0.mk (hb); have n4_ := Aside0.mk (ho); clear BK224; clear BK234; clear HO241; clear HB; have BK224 := n0_; have BK234 := n1_; have HO241 := n2_; have HB := n3_; have HO244 := n4_; clear n0_ n1_ n2_ n3_ n4_; clear ho hb hg hat))
        go_ret2
        exact ⟨_, by first | rfl | (simp [errW_none, errW_some] <;> rfl) | (simp [*, errW_none, errW_some] <;> rfl), by (with_reducible repeat (first | apply Kd.R_alloc | apply Kd.R_drewN | apply Kd.R_drew)); exact Kd.R_mono HO244.out (fun _ hk => trivial), by repeat (first | (with_reducible first | exact HB.out | apply below_alloc | apply pw_below_drewN | apply below_drew1 | refine below_set ?_ GE224.out | refine below_set ?_ GE234.out) | exact HB.out)⟩
       ·rw [if_neg c23] at H
        exact absurd H (by simp)
      ·replace c21 := Bool.eq_false_iff.mpr c21
       subst c21
       have H1 : (if ([] : List (S87)).length < 4398046511104 then ((some (([] : List (S87)) ++ [(⟨true, wrap64 ((wrap64 (1 - x8_11)) * 96), (⟨#[]⟩ : ByteArray)⟩ : S87)] : List (S87))).bind fun y245 => ((skiffref1_Words.f kj11 (wrap64 ((wrap64 (1 - x8_11)) * 96)) t225).bind fun bt248 => (if y245.length + bt248.1.length < 4398046511104 then (some ((y245 ++ bt248.1), 0)) else (none)))) else (none)) = some (r1, r2) := by rw [if_neg (show ¬ (false = true) by decide)] at H; exact H
       clear H
       have H := H1
       clear H1
       by_cases c28 : ([] : List (S87)).length < 4398046511104
       ·rw [if_pos c28] at H
        have LMc28 := Aside0.mk c28
        clear c28
        obtain ⟨y245, hy245⟩ : ∃ y_ : List (S87), y_ = (([] : List (S87)) ++ [(⟨true, wrap64 ((wrap64 (1 - x8_11)) * 96), (⟨#[]⟩ : ByteArray)⟩ : S87)]) := ⟨_, rfl⟩
        replace H : ((skiffref1_Words.f kj11 (wrap64 ((wrap64 (1 - x8_11)) * 96)) t225).bind fun bt248 => (if y245.length + bt248.1.length < 4398046511104 then (some ((y245 ++ bt248.1), 0)) else (none))) = some (r1, r2) := by first | (rw [hy245]; with_reducible exact H) | (have H2_ := (Option.bind_some _ _).symm.trans H; rw [hy245]; with_reducible exact H2_) | (have H2_ := (Option.bind_some _ _).symm.trans H; with_reducible exact H2_) | with_reducible exact H | (rw [hy245]; exact H) | exact H
        have Ny245 := Aside0.mk hy245
        clear hy245
        replace H := Option.bind_eq_some_iff.mp H
        obtain ⟨⟨t248, t249⟩, A290, H⟩ := H
        replace H : (if y245.length + t248.length < 4398046511104 then (some ((y245 ++ t248), 0)) else (none)) = some (r1, r2) := H
        have A29 := Aside0.mk A290
        clear A290
        by_cases c30 : y245.length + t248.length < 4398046511104
        ·rw [if_pos c30] at H
         have LMc30 := Aside0.mk c30
         clear c30
         obtain ⟨y252, hy252⟩ : ∃ y_ : List (S87), y_ = (y245 ++ t248) := ⟨_, rfl⟩
         replace H : (some (y252, 0)) = some (r1, r2) := by first | (rw [hy252]; with_reducible exact H) | (have H2_ := (Option.bind_some _ _).symm.trans H; rw [hy252]; with_reducible exact H2_) | (have H2_ := (Option.bind_some _ _).symm.trans H; with_reducible exact H2_) | with_reducible exact H | (rw [hy252]; exact H) | exact H
         have Ny252 := Aside0.mk hy252
         clear hy252
         simp only [Option.some.injEq, Prod.mk.injEq] at H
         obtain ⟨rfl, rfl⟩ := H
         go_wp2_with (first | ((with_reducible refine gate_callee (f := 69) rfl ?_); refine goesL_ (some 41) rfl rfl Try.func69 (by kernel_rfl) rfl #[.string a0, .int .i64 x8_11] rfl q1_ ?_; (with_reducible refine (skiffref1_FreePlace.calls kj11 a0 x8_11 t235 false t237 _ A20.out).mono ?_); rintro e w31 ⟨rfl, hb⟩; refine ⟨_, rfl, ?_⟩; have n0_ := Aside0.mk (blk_below (g := gb224) (o := .cells #[.int .i64 a1_0, .int .i64 a1_1, .int .i64 a1_2, .int .i64 a1_3] 23 (0, 0)) (by (with_reducible repeat (first | refine blk_drewN ?_ _ | refine blk_drew ?_ | refine blk_alloc ?_ _)); exact BK224.out) hb); have n1_ := Aside0.mk (blk_below (g := gb234) (o := .cells #[.int .i64 t228, .int .i64 t229, .int .i64 t230, .int .i64 t231, .int .i64 t232] 25 (0, 0)) (by (with_reducible repeat (first | refine blk_drewN ?_ _ | refine blk_drew ?_ | refine blk_alloc ?_ _)); exact BK234.out) hb); have n2_ := Aside0.mk (below_step (by repeat (first | (with_reducible first | exact HB.out | apply below_alloc | apply pw_below_drewN | apply below_drew1 | refine below_set ?_ GE224.out | refine below_set ?_ GE234.out) | exact HB.out)) hb); clear BK224; clear BK234; clear HB; have BK224 := n0_; have BK234 := n1_; have HB := n2_; clear n0_ n1_ n2_; (try clear hb); (try clear hb2); (try clear hk); (try clear hi)) | ((with_reducible refine gate_builtin (b := .append) (xs := #[.tmp 50, .tmp 53]) rfl ?_); at_builtin; refine Kd.R_append k87 (w0 := w) w.heap.size rfl (.tmp 50) (.tmp 53) 54 87 (.agg #[(.bool false), (.int .i64 0), (.string ⟨#[]⟩)]) 32 rfl Try.underlying54 info87 rfl (by decide) (by omega) (.slice none 0 0) ([] : List (S87)) (⟨true, wrap64 ((wrap64 (1 - x8_11)) * 96), (⟨#[]⟩ : ByteArray)⟩ : S87) [.bool true, .int .i64 (wrap64 ((wrap64 (1 - x8_11)) * 96)), .string (⟨#[]⟩ : ByteArray)] (fun _ => True) (fun _ => False) rfl rfl ?aP (fun _ hk => hk.elim) ?aF ?aO ?aB ?aS ?aL ?_; (case aP => exact k87_mkM _ _ _ (⟨true, wrap64 ((wrap64 (1 - x8_11)) * 96), (⟨#[]⟩ : ByteArray)⟩ : S87)); (case aB => exact (by repeat (first | (with_reducible first | exact HB.out | apply below_alloc | apply pw_below_drewN | apply below_drew1 | refine below_set ?_ GE224.out | refine below_set ?_ GE234.out) | exact HB.out))); (case aF => exact (fun _ _ => trivial)); (case aO => exact ((Kd.R_nil _ _ _ _ (fun _ => True)))); (case aS => exact (below_size (by repeat (first | (with_reducible first | exact HB.out | apply below_alloc | apply pw_below_drewN | apply below_drew1 | refine below_set ?_ GE224.out | refine below_set ?_ GE234.out) | exact HB.out)))); (case aL => have := LMc28.out; omega); intro v246 w32 ho hb hg hat; rw [← Ny245.out] at ho; have n0_ := Aside0.mk (blk_grown (g := gb224) (o := .cells #[.int .i64 a1_0, .int .i64 a1_1, .int .i64 a1_2, .int .i64 a1_3] 23 (0, 0)) (by (with_reducible repeat (first | refine blk_drewN ?_ _ | refine blk_drew ?_ | refine blk_alloc ?_ _)); exact BK224.out) hg (by simp [Value.ownBlock])); have n1_ := Aside0.mk (blk_grown (g := gb234) (o := .cells #[.int .i64 t228, .int .i64 t229, .int .i64 t230, .int .i64 t231, .int .i64 t232] 25 (0, 0)) (by (with_reducible repeat (first | refine blk_drewN ?_ _ | refine blk_drew ?_ | refine blk_alloc ?_ _)); exact BK234.out) hg (by simp [Value.ownBlock])); have n2_ := Aside0.mk (hb); have n3_ := Aside0.mk (ho); clear BK224; clear BK234; clear HB; have BK224 := n0_; have BK234 := n1_; have HB := n2_; have HO247 := n3_; clear n0_ n1_ n2_ n3_; clear ho hb hg hat) | ((with_reducible refine gate_callee (f := 42) rfl ?_); refine goesL_ (some 58) rfl rfl Try.func42 (by kernel_rfl) rfl #[.int .i64 (wrap64 ((wrap64 (1 - x8_11)) * 96)), .string t225] rfl q1_ ?_; (with_reducible refine (skiffref1_Words.calls kj11 (wrap64 ((wrap64 (1 - x8_11)) * 96)) t225 t248 t249 _ A29.out).mono ?_); rintro e w33 ⟨v250, rfl, ho0, hb⟩; refine ⟨_, rfl, ?_⟩; have n0_ := Aside0.mk (Kd.R_elder' (by (with_reducible repeat (first | apply Kd.R_alloc | apply Kd.R_drewN | apply Kd.R_drew)); exact HO247.out) (Kd.R_base ho0) hb); have n1_ := Aside0.mk (Kd.R_lower (Kd.R_new' ho0 (Kd.R_lt (by (with_reducible repeat (first | apply Kd.R_alloc | apply Kd.R_drewN | apply Kd.R_drew)); exact HO247.out))) (below_size (by repeat (first | (with_reducible first | exact HB.out | apply below_alloc | apply pw_below_drewN | apply below_drew1 | refine below_set ?_ GE224.out | refine below_set ?_ GE234.out) | exact HB.out)))); have n2_ := Aside0.mk (blk_below (g := gb224) (o := .cells #[.int .i64 a1_0, .int .i64 a1_1, .int .i64 a1_2, .int .i64 a1_3] 23 (0, 0)) (by (with_reducible repeat (first | refine blk_drewN ?_ _ | refine blk_drew ?_ | refine blk_alloc ?_ _)); exact BK224.out) hb); have n3_ := Aside0.mk (blk_below (g := gb234) (o := .cells #[.int .i64 t228, .int .i64 t229, .int .i64 t230, .int .i64 t231, .int .i64 t232] 25 (0, 0)) (by (with_reducible repeat (first | refine blk_drewN ?_ _ | refine blk_drew ?_ | refine blk_alloc ?_ _)); exact BK234.out) hb); have n4_ := Aside0.mk (below_step (by repeat (first | (with_reducible first | exact HB.out | apply below_alloc | apply pw_below_drewN | apply below_drew1 | refine below_set ?_ GE224.out | refine below_set ?_ GE234.out) | exact HB.out)) hb); clear HO247; clear BK224; clear BK234; clear HB; have HO247 := n0_; have HO251 := n1_; have BK224 := n2_; have BK234 := n3_; have HB := n4_; clear n0_ n1_ n2_ n3_ n4_; (try clear hb); (try clear hb2); (try clear hk); (try clear hi); (try clear ho0); obtain ⟨Ao35, co35, eo35⟩ := Kd.R_slice HO251.out; subst eo35) | ((with_reducible refine gate_builtin (b := .append) (xs := #[.tmp 61, .tmp 62]) rfl ?_); at_builtin; refine Kd.R_append_rows k87 (w0 := w) w.heap.size rfl (.tmp 61) (.tmp 62) 54 87 (.agg #[(.bool false), (.int .i64 0), (.string ⟨#[]⟩)]) 32 rfl Try.underlying54 info87 rfl (by decide) (by omega) v246 y245 t248 _ _ _ (fun k_ => some k_ ≠ (.slice Ao35 t248.length co35 : Value).ownBlock) (fun _ => False) rfl rfl ?aO ?aR (fun _ _ h => h) (fun _ h => h.elim) ?aF ?aB ?aS ?aL ?_; (case aR => repeat (first | exact (Kd.R_reads' HO251.out).2.2 | (with_reducible refine Kd.C_alloc ?_ _) | (with_reducible refine Kd.C_drewN ?_ _) | (with_reducible refine Kd.C_drew ?_))); (case aB => exact (by repeat (first | (with_reducible first | exact HB.out | apply below_alloc | apply pw_below_drewN | apply below_drew1 | refine below_set ?_ GE224.out | refine below_set ?_ GE234.out) | exact HB.out))); (case aF => exact (fun k_ hk => Kd.fresh' (Kd.R_lt (by (with_reducible repeat (first | apply Kd.R_alloc | apply Kd.R_drewN | apply Kd.R_drew)); exact HO251.out)) k_ hk)); (case aO => exact (by (with_reducible repeat (first | apply Kd.R_alloc | apply Kd.R_drewN | apply Kd.R_drew)); exact Kd.R_mono HO247.out (fun _ hk => hk.2))); (case aS => exact (below_size (by repeat (first | (with_reducible first | exact HB.out | apply below_alloc | apply pw_below_drewN | apply below_drew1 | refine below_set ?_ GE224.out | refine below_set ?_ GE234.out) | exact HB.out)))); (case aL => have := LMc30.out; omega); intro v253 w34 ho hb hg hat; rw [← Ny252.out] at ho; have n0_ := Aside0.mk (blk_grown (g := gb224) (o := .cells #[.int .i64 a1_0, .int .i64 a1_1, .int .i64 a1_2, .int .i64 a1_3] 23 (0, 0)) (by (with_reducible repeat (first | refine blk_drewN ?_ _ | refine blk_drew ?_ | refine blk_alloc ?_ _)); exact BK224.out) hg (Kd.R_ne HO247.out BK224.out (by decide))); have n1_ := Aside0.mk (blk_grown (g := gb234) (o := .cells #[.int .i64 t228, .int .i64 t229, .int .i64 t230, .int .i64 t231, .int .i64 t232] 25 (0, 0)) (by (with_reducible repeat (first | refine blk_drewN ?_ _ | refine blk_drew ?_ | refine blk_alloc ?_ _)); exact BK234.out) hg (Kd.R_ne HO247.out BK234.out (by decide))); have n2_ := Aside0.mk (Kd.R_after (ok := (fun _ => True)) (by (with_reducible repeat (first | apply Kd.R_alloc | apply Kd.R_drewN | apply Kd.R_drew)); exact HO251.out) hg hat); have n3_ := Aside0.mk (hb); have n4_ := Aside0.mk (ho); clear BK224; clear BK234; clear HO251; clear HB; clear HO247; have BK224 := n0_; have BK234 := n1_; have HO251 := n2_; have HB := n3_; have HO254 := n4_; clear n0_ n1_ n2_ n3_ n4_; clear ho hb hg hat))
         go_ret2
         exact ⟨_, by first | rfl | (simp [errW_none, errW_some] <;> rfl) | (simp [*, errW_none, errW_some] <;> rfl), by (with_reducible repeat (first | apply Kd.R_alloc | apply Kd.R_drewN | apply Kd.R_drew)); exact Kd.R_mono HO254.out (fun _ hk => trivial), by repeat (first | (with_reducible first | exact HB.out | apply below_alloc | apply pw_below_drewN | apply below_drew1 | refine below_set ?_ GE224.out | refine below_set ?_ GE234.out) | exact HB.out)⟩
        ·rw [if_neg c30] at H
         exact absurd H (by simp)
       ·rw [if_neg c28] at H
        exact absurd H (by simp)
end Go.Proofs.Ytjadcjkjpkkmkaa.PAll

-- Written by this session's own program (wip/tools/myprint.py), which runs the kit's print over functions proved by hand.
namespace Go.Proofs.Ytjadcjkjpkkmkaa.PAll
open Go.RowKit Go.Proofs.YtjadcjkjpkkmkaaW.PrintWords Go.Proofs.YtjadcjkjpkkmkaaW.PrintLast Go.Proofs.YtjadcjkjpkkmkaaW.PrintMore
attribute [local go_sem] max2_int min2_int max_two min_two max_three min_three max_four min_four   -- for this text's walks alone
set_option linter.unusedVariables false
set_option linter.unusedSimpArgs false
attribute [local go_sem high] eqA25
mutual
def skifflaw7_held.l0 : Nat → ByteArray → List (S87) → Int → Option (ByteArray)
 | 0, _, _, _ => none
 | k + 1, x1, x2, x4 => if x4 < (x2.length : Int) then (if 0 ≤ x4 then ((skiffref1_Do.f k x1 ((rd_T87 x2 x4).f0) ((rd_T87 x2 x4).f1) ((rd_T87 x2 x4).f2)).bind fun bt261 => (skifflaw7_held.l0 k bt261.1 x2 (wrap64 (x4 + 1)))) else (none)) else ((skiffref1_RecordOf.f k x1 0 12).bind fun bt263 => ((skiffref1_Append.f k x1 bt263.1 bt263.2.1 bt263.2.2.1 bt263.2.2.2.1).bind fun bt269 => (skifflaw7_held.l1 k x1 bt269.1 0)))
def skifflaw7_held.l1 : Nat → ByteArray → List (S87) → Int → Option (ByteArray)
 | 0, _, _, _ => none
 | k + 1, x1, x2, x7 => if x7 < (x2.length : Int) then (if 0 ≤ x7 then ((skiffref1_Do.f k x1 ((rd_T87 x2 x7).f0) ((rd_T87 x2 x7).f1) ((rd_T87 x2 x7).f2)).bind fun bt274 => (skifflaw7_held.l1 k bt274.1 x2 (wrap64 (x7 + 1)))) else (none)) else (some x1)
end
def skifflaw7_held.f (k : Nat)  : Option (ByteArray) := (skiffref1_Blank.f k).bind fun t255 => ((skiffref1_Words.f k 192 (⟨#[97, 98, 97, 98, 97, 98, 97, 98, 97, 98, 97, 98]⟩ : ByteArray)).bind fun bt256 => (skifflaw7_held.l0 k t255 bt256.1 0))
set_option maxHeartbeats 8000000 in
set_option maxRecDepth 100000 in
theorem skifflaw7_held.calls (k : Nat)  (r : ByteArray) (w : World) (h : skifflaw7_held.f k  = some r) :
  Calls Try.prog 22 #[] w fun e w' => e = .returned (.string r) ∧ Below w.heap.size w w' := by
 have hu87 := Try.underlying87
 have hu23 := Try.underlying23
 have HB := Aside0.mk (Below.refl w.heap.size w)
 have H : ((skiffref1_Blank.f k).bind fun t255 => ((skiffref1_Words.f k 192 (⟨#[97, 98, 97, 98, 97, 98, 97, 98, 97, 98, 97, 98]⟩ : ByteArray)).bind fun bt256 => (skifflaw7_held.l0 k t255 bt256.1 0))) = some r := h
 clear h
 replace H := Option.bind_eq_some_iff.mp H
 obtain ⟨t255, A10, H⟩ := H
 replace H : ((skiffref1_Words.f k 192 (⟨#[97, 98, 97, 98, 97, 98, 97, 98, 97, 98, 97, 98]⟩ : ByteArray)).bind fun bt256 => (skifflaw7_held.l0 k t255 bt256.1 0)) = some r := H
 have A1 := Aside0.mk A10
 clear A10
 replace H := Option.bind_eq_some_iff.mp H
 obtain ⟨⟨t256, t257⟩, A20, H⟩ := H
 replace H : (skifflaw7_held.l0 k t255 t256 0) = some r := H
 have A2 := Aside0.mk A20
 clear A20
 have H' := Aside0.mk H
 clear H
 go_enter Try.func22, Try.ntmps22
 go_wp2_with (first | ((with_reducible refine gate_callee (f := 17) rfl ?_); refine goesL_ (some 8) rfl rfl Try.func17 (by kernel_rfl) rfl #[] rfl q1_ ?_; (with_reducible refine (skiffref1_Blank.calls k  t255 _ A1.out).mono ?_); rintro e w3 ⟨rfl, hb⟩; refine ⟨_, rfl, ?_⟩; have n0_ := Aside0.mk (below_step q2_ hb); clear HB; have HB := n0_; clear n0_; (try clear hb); (try clear hb2); (try clear hk); (try clear hi)) | ((with_reducible refine gate_callee (f := 42) rfl ?_); refine goesL_ (some 10) rfl rfl Try.func42 (by kernel_rfl) rfl #[.int .i64 192, .string (⟨#[97, 98, 97, 98, 97, 98, 97, 98, 97, 98, 97, 98]⟩ : ByteArray)] rfl q1_ ?_; (with_reducible refine (skiffref1_Words.calls k 192 (⟨#[97, 98, 97, 98, 97, 98, 97, 98, 97, 98, 97, 98]⟩ : ByteArray) t256 t257 _ A2.out).mono ?_); rintro e w4 ⟨v258, rfl, ho0, hb⟩; refine ⟨_, rfl, ?_⟩; have n0_ := Aside0.mk (Kd.R_lower ho0 (below_size q2_)); have n1_ := Aside0.mk (below_step q2_ hb); clear HB; have HO259 := n0_; have HB := n1_; clear n0_ n1_; (try clear hb); (try clear hb2); (try clear hk); (try clear hi); (try clear ho0)))
 go_loopg [1, 4] k (fun kq v1 v4 w' => ∃ (x1_1 : ByteArray) (x4_1 : Int), v1 = .string x1_1 ∧ v4 = .int .i64 x4_1 ∧ Aside0 (skifflaw7_held.l0 kq x1_1 t256 x4_1 = some r) ∧ Aside0 (kq ≤ k) ∧ Aside0 (Kd.R k87 87 w' w.heap.size (fun _ => True) v258 t256) ∧ Aside0 (Below w.heap.size w w'))
 case atStart => exact ⟨(t255), (0), q15_, q15_, H', ⟨Nat.le_refl _⟩, ⟨by (with_reducible repeat (first | apply Kd.R_alloc | apply Kd.R_drewN | apply Kd.R_drew)); exact HO259.out⟩, ⟨by repeat (first | (with_reducible first | exact HB.out | apply below_alloc | apply pw_below_drewN | apply below_drew1) | exact HB.out)⟩⟩
 case round =>
  clear H'
  try clear c1
  try clear c2
  try clear p2
  try clear c4
  obtain ⟨x1_1, x4_1, rfl, rfl, HA, HK1, HO_2, HB⟩ := hrel
  cases gk with
  | zero => exact absurd HA.out (by simp [skifflaw7_held.l0])
  | succ k1 =>
   have H := HA.out
   clear HA
   simp only [skifflaw7_held.l0] at H
   by_cases c5 : x4_1 < (t256.length : Int)
   ·rw [if_pos c5] at H
    have c5b0 : decide (x4_1 < (t256.length : Int)) = true := decide_eq_true c5
    clear c5
    by_cases c6 : 0 ≤ x4_1
    ·rw [if_pos c6] at H
     have c6b0 : decide (0 ≤ x4_1) = true := decide_eq_true c6
     clear c6
     replace H := Option.bind_eq_some_iff.mp H
     obtain ⟨⟨t261, t262⟩, A70, H⟩ := H
     replace H : (skifflaw7_held.l0 k1 t261 t256 (wrap64 (x4_1 + 1))) = some r := H
     have A7 := Aside0.mk A70
     clear A70
     have H' := Aside0.mk H
     clear H
     obtain ⟨Ao8, co8, eo8⟩ := Kd.R_slice HO_2.out
     subst eo8
     have p260 : 0 ≤ (x4_1 : Int) := of_decide_eq_true q13_
     have q260 : x4_1 < (t256.length : Int) := of_decide_eq_true q13_
     obtain ⟨ad260, e260, hx260_0, hx260_1, hx260_2⟩ := at_T87 (Kd.R_reads' HO_2.out).2.2 x4_1 p260 q260
     cases e260
     replace p260 := eq_true p260
     replace q260 := eq_true q260
     go_wp2_with (first | ((with_reducible refine gate_callee (f := 43) rfl ?_); refine goesL_ (some 25) rfl rfl Try.func43 (by kernel_rfl) rfl #[.string x1_1, .agg #[.bool ((rd_T87 t256 x4_1).f0), .int .i64 ((rd_T87 t256 x4_1).f1), .string ((rd_T87 t256 x4_1).f2)]] rfl q1_ ?_; (with_reducible refine (skiffref1_Do.calls k1 x1_1 ((rd_T87 t256 x4_1).f0) ((rd_T87 t256 x4_1).f1) ((rd_T87 t256 x4_1).f2) t261 t262 _ A7.out).mono ?_); rintro e w9 ⟨rfl, hb⟩; refine ⟨_, rfl, ?_⟩; have n0_ := Aside0.mk (Kd.R_below (by (with_reducible repeat (first | apply Kd.R_alloc | apply Kd.R_drewN | apply Kd.R_drew)); exact HO_2.out) hb); have n1_ := Aside0.mk (below_step q2_ hb); clear HO_2; clear HB; have HO_2 := n0_; have HB := n1_; clear n0_ n1_; (try clear hb); (try clear hb2); (try clear hk); (try clear hi)))
     go_roundg k1
     case measure => have := HK1.out; omega
     case rel => exact ⟨(t261), (wrap64 (x4_1 + 1)), q15_, q15_, H', ⟨by have := HK1.out; omega⟩, ⟨by (with_reducible repeat (first | apply Kd.R_alloc | apply Kd.R_drewN | apply Kd.R_drew)); exact HO_2.out⟩, ⟨by repeat (first | (with_reducible first | exact HB.out | apply below_alloc | apply pw_below_drewN | apply below_drew1) | exact HB.out)⟩⟩
    ·rw [if_neg c6] at H
     exact absurd H (by simp)
   ·rw [if_neg c5] at H
    have c5b0 : decide (x4_1 < (t256.length : Int)) = false := decide_eq_false c5
    clear c5
    replace H := Option.bind_eq_some_iff.mp H
    obtain ⟨⟨t263, t264, t265, t266, t267⟩, A100, H⟩ := H
    replace H : ((skiffref1_Append.f k1 x1_1 t263 t264 t265 t266).bind fun bt269 => (skifflaw7_held.l1 k1 x1_1 bt269.1 0)) = some r := H
    have A10 := Aside0.mk A100
    clear A100
    replace H := Option.bind_eq_some_iff.mp H
    obtain ⟨⟨t269, t272⟩, A110, H⟩ := H
    replace H : (skifflaw7_held.l1 k1 x1_1 t269 0) = some r := H
    have A11 := Aside0.mk A110
    clear A110
    have H' := Aside0.mk H
    clear H
    obtain ⟨Ao12, co12, eo12⟩ := Kd.R_slice HO_2.out
    subst eo12
    go_wp2_with (first | ((with_reducible refine gate_callee (f := 44) rfl ?_); refine goesL_ (some 30) rfl rfl Try.func44 (by kernel_rfl) rfl #[.string x1_1, .int .i64 0, .int .i64 12] rfl q1_ ?_; (with_reducible refine (skiffref1_RecordOf.calls k1 x1_1 0 12 t263 t264 t265 t266 t267 _ A10.out).mono ?_); rintro e w13 ⟨rfl, hb⟩; refine ⟨_, rfl, ?_⟩; have n0_ := Aside0.mk (Kd.R_below (by (with_reducible repeat (first | apply Kd.R_alloc | apply Kd.R_drewN | apply Kd.R_drew)); exact HO_2.out) hb); have n1_ := Aside0.mk (below_step q2_ hb); clear HO_2; clear HB; have HO_2 := n0_; have HB := n1_; clear n0_ n1_; (try clear hb); (try clear hb2); (try clear hk); (try clear hi)) | ((with_reducible refine gate_dst (N := 5) rfl ?_); refine box_event ?hg (N := 5) ?hd (cs := #[.int .i64 0, .int .i64 0, .int .i64 0, .int .i64 0]) (t := 23) ?hr ?_; (case hd => rfl); (case hg => rfl); (case hr => first | (go_simp; done) | (go_simp; rfl)); intro gb268 hg w14 hbox hb; have n0_ := Aside0.mk (Kd.R_below (by (with_reducible repeat (first | apply Kd.R_alloc | apply Kd.R_drewN | apply Kd.R_drew)); exact HO_2.out) hb); have n1_ := Aside0.mk (below_step q2_ hb); have n2_ := Aside0.mk (hbox); have n3_ := Aside0.mk ((by rw [hg]; exact (below_size q2_) : w.heap.size ≤ gb268)); have n4_ := Aside0.mk ((by rw [hg]; exact (below_size q2_) : w.heap.size ≤ gb268)); clear HO_2; clear HB; have HO_2 := n0_; have HB := n1_; have BK268 := n2_; have GW268 := n3_; have GE268 := n4_; clear n0_ n1_ n2_ n3_ n4_; clear hb hbox hg; have hcz15_0 : w14.cell? ⟨gb268, 0, none⟩ = some (.int .i64 0) := (blk_cell BK268.out 0).trans rfl; have hcz15_1 : w14.cell? ⟨gb268, 1, none⟩ = some (.int .i64 0) := (blk_cell BK268.out 1).trans rfl; have hcz15_2 : w14.cell? ⟨gb268, 2, none⟩ = some (.int .i64 0) := (blk_cell BK268.out 2).trans rfl; have hcz15_3 : w14.cell? ⟨gb268, 3, none⟩ = some (.int .i64 0) := (blk_cell BK268.out 3).trans rfl; have hfz15_0 := blk_frozen BK268.out 0; have hfz15_1 := blk_frozen BK268.out 1; have hfz15_2 := blk_frozen BK268.out 2; have hfz15_3 := blk_frozen BK268.out 3) | ((with_reducible refine gate_callee (f := 45) rfl ?_); refine goesL_ (some 36) rfl rfl Try.func45 (by kernel_rfl) rfl #[.string x1_1, .agg #[.int .i64 t263, .int .i64 t264, .int .i64 t265, .int .i64 t266]] rfl q1_ ?_; (with_reducible refine (skiffref1_Append.calls k1 x1_1 t263 t264 t265 t266 t269 t272 _ A11.out).mono ?_); rintro e w16 ⟨v270, rfl, ho0, hb⟩; refine ⟨_, rfl, ?_⟩; have n0_ := Aside0.mk (Kd.R_elder' (by (with_reducible repeat (first | apply Kd.R_alloc | apply Kd.R_drewN | apply Kd.R_drew)); exact (Kd.R_mono (Kd.R_far (p := ⟨gb268, 3, none⟩) (Kd.R_far (p := ⟨gb268, 2, none⟩) (Kd.R_far (p := ⟨gb268, 1, none⟩) (Kd.R_far (p := ⟨gb268, 0, none⟩) (Kd.R_types HO_2.out BK268.out (by decide)) (fun _ hk => hk.2) (.int .i64 t263)) (fun _ hk => hk.2) (.int .i64 t264)) (fun _ hk => hk.2) (.int .i64 t265)) (fun _ hk => hk.2) (.int .i64 t266)) (fun _ h_ => h_.1))) (Kd.R_base ho0) hb); have n1_ := Aside0.mk (Kd.R_lower (Kd.R_new' ho0 (Kd.R_lt (by (with_reducible repeat (first | apply Kd.R_alloc | apply Kd.R_drewN | apply Kd.R_drew)); exact (Kd.R_mono (Kd.R_far (p := ⟨gb268, 3, none⟩) (Kd.R_far (p := ⟨gb268, 2, none⟩) (Kd.R_far (p := ⟨gb268, 1, none⟩) (Kd.R_far (p := ⟨gb268, 0, none⟩) (Kd.R_types HO_2.out BK268.out (by decide)) (fun _ hk => hk.2) (.int .i64 t263)) (fun _ hk => hk.2) (.int .i64 t264)) (fun _ hk => hk.2) (.int .i64 t265)) (fun _ hk => hk.2) (.int .i64 t266)) (fun _ h_ => h_.1))))) (below_size (by repeat (first | (with_reducible first | exact HB.out | apply below_alloc | apply pw_below_drewN | apply below_drew1 | refine below_set ?_ GE268.out) | exact HB.out)))); have n2_ := Aside0.mk (blk_below (g := gb268) (o := .cells #[.int .i64 t263, .int .i64 t264, .int .i64 t265, .int .i64 t266] 23 (0, 0)) (by (with_reducible repeat (first | refine blk_drewN ?_ _ | refine blk_drew ?_ | refine blk_alloc ?_ _)); refine blk_put (cs := #[.int .i64 t263, .int .i64 t264, .int .i64 t265, .int .i64 0]) ?_ 3 _ rfl; (with_reducible repeat (first | refine blk_drewN ?_ _ | refine blk_drew ?_ | refine blk_alloc ?_ _)); refine blk_put (cs := #[.int .i64 t263, .int .i64 t264, .int .i64 0, .int .i64 0]) ?_ 2 _ rfl; (with_reducible repeat (first | refine blk_drewN ?_ _ | refine blk_drew ?_ | refine blk_alloc ?_ _)); refine blk_put (cs := #[.int .i64 t263, .int .i64 0, .int .i64 0, .int .i64 0]) ?_ 1 _ rfl; (with_reducible repeat (first | refine blk_drewN ?_ _ | refine blk_drew ?_ | refine blk_alloc ?_ _)); refine blk_put (cs := #[.int .i64 0, .int .i64 0, .int .i64 0, .int .i64 0]) ?_ 0 _ rfl; (with_reducible repeat (first | refine blk_drewN ?_ _ | refine blk_drew ?_ | refine blk_alloc ?_ _)); exact BK268.out) hb); have n3_ := Aside0.mk (below_step (by repeat (first | (with_reducible first | exact HB.out | apply below_alloc | apply pw_below_drewN | apply below_drew1 | refine below_set ?_ GE268.out) | exact HB.out)) hb); clear HO_2; clear BK268; clear HB; have HO_2 := n0_; have HO271 := n1_; have BK268 := n2_; have HB := n3_; clear n0_ n1_ n2_ n3_; (try clear hb); (try clear hb2); (try clear hk); (try clear hi); (try clear ho0)))
    go_loopg [1, 7] k1 (fun kq v1 v7 w' => ∃ (x1_2 : ByteArray) (x7_2 : Int), v1 = .string x1_2 ∧ v7 = .int .i64 x7_2 ∧ Aside0 (skifflaw7_held.l1 kq x1_2 t269 x7_2 = some r) ∧ Aside0 (kq ≤ k1) ∧ Aside0 (Kd.R k87 87 w' w.heap.size (fun _ => True) v270 t269) ∧ Aside0 (w'.heap[gb268]? = some (.cells #[.int .i64 t263, .int .i64 t264, .int .i64 t265, .int .i64 t266] 23 (0, 0))) ∧ Aside0 (Below w.heap.size w w'))
    case atStart => exact ⟨(x1_1), (0), q15_, q15_, H', ⟨Nat.le_refl _⟩, ⟨by (with_reducible repeat (first | apply Kd.R_alloc | apply Kd.R_drewN | apply Kd.R_drew)); exact Kd.R_mono HO271.out (fun _ hk => trivial)⟩, ⟨by (with_reducible repeat (first | refine blk_drewN ?_ _ | refine blk_drew ?_ | refine blk_alloc ?_ _)); exact BK268.out⟩, ⟨by repeat (first | (with_reducible first | exact HB.out | apply below_alloc | apply pw_below_drewN | apply below_drew1 | refine below_set ?_ GE268.out) | exact HB.out)⟩⟩
    case round =>
     clear H'
     try clear c1
     try clear c2
     try clear p2
     try clear q2
     try clear hx2
     try clear c4
     try clear c5
     try clear c5b0
     try clear c6
     try clear c6b0
     try clear p6
     try clear hcz15_0
     try clear hcz15_1
     try clear hcz15_2
     try clear hcz15_3
     try clear hfz15_0
     try clear hfz15_1
     try clear hfz15_2
     try clear hfz15_3
     try clear hx260_0
     try clear hx260_1
     try clear hx260_2
     try clear p2
     try clear p260
     try clear q260
     obtain ⟨x1_2, x7_2, rfl, rfl, HA, HK2, HO_2, BK268, HB⟩ := hrel
     cases gk with
     | zero => exact absurd HA.out (by simp [skifflaw7_held.l1])
     | succ k2 =>
      have H := HA.out
      clear HA
      simp only [skifflaw7_held.l1] at H
      by_cases c17 : x7_2 < (t269.length : Int)
      ·rw [if_pos c17] at H
       have c17b0 : decide (x7_2 < (t269.length : Int)) = true := decide_eq_true c17
       clear c17
       by_cases c18 : 0 ≤ x7_2
       ·rw [if_pos c18] at H
        have c18b0 : decide (0 ≤ x7_2) = true := decide_eq_true c18
        clear c18
        replace H := Option.bind_eq_some_iff.mp H
        obtain ⟨⟨t274, t275⟩, A190, H⟩ := H
        replace H : (skifflaw7_held.l1 k2 t274 t269 (wrap64 (x7_2 + 1))) = some r := H
        have A19 := Aside0.mk A190
        clear A190
        have H' := Aside0.mk H
        clear H
        obtain ⟨Ao20, co20, eo20⟩ := Kd.R_slice HO_2.out
        subst eo20
        have p273 : 0 ≤ (x7_2 : Int) := of_decide_eq_true q13_
        have q273 : x7_2 < (t269.length : Int) := of_decide_eq_true q13_
        obtain ⟨ad273, e273, hx273_0, hx273_1, hx273_2⟩ := at_T87 (Kd.R_reads' HO_2.out).2.2 x7_2 p273 q273
        cases e273
        replace p273 := eq_true p273
        replace q273 := eq_true q273
        go_wp2_with (first | ((with_reducible refine gate_callee (f := 43) rfl ?_); refine goesL_ (some 51) rfl rfl Try.func43 (by kernel_rfl) rfl #[.string x1_2, .agg #[.bool ((rd_T87 t269 x7_2).f0), .int .i64 ((rd_T87 t269 x7_2).f1), .string ((rd_T87 t269 x7_2).f2)]] rfl q1_ ?_; (with_reducible refine (skiffref1_Do.calls k2 x1_2 ((rd_T87 t269 x7_2).f0) ((rd_T87 t269 x7_2).f1) ((rd_T87 t269 x7_2).f2) t274 t275 _ A19.out).mono ?_); rintro e w21 ⟨rfl, hb⟩; refine ⟨_, rfl, ?_⟩; have n0_ := Aside0.mk (Kd.R_below (by (with_reducible repeat (first | apply Kd.R_alloc | apply Kd.R_drewN | apply Kd.R_drew)); exact HO_2.out) hb); have n1_ := Aside0.mk (blk_below (g := gb268) (o := .cells #[.int .i64 t263, .int .i64 t264, .int .i64 t265, .int .i64 t266] 23 (0, 0)) (by (with_reducible repeat (first | refine blk_drewN ?_ _ | refine blk_drew ?_ | refine blk_alloc ?_ _)); exact BK268.out) hb); have n2_ := Aside0.mk (below_step (by repeat (first | (with_reducible first | exact HB.out | apply below_alloc | apply pw_below_drewN | apply below_drew1 | refine below_set ?_ GE268.out) | exact HB.out)) hb); clear HO_2; clear BK268; clear HB; have HO_2 := n0_; have BK268 := n1_; have HB := n2_; clear n0_ n1_ n2_; (try clear hb); (try clear hb2); (try clear hk); (try clear hi)))
        go_roundg k2
        case measure => have := HK1.out; have := HK2.out; omega
        case rel => exact ⟨(t274), (wrap64 (x7_2 + 1)), q15_, q15_, H', ⟨by have := HK1.out; have := HK2.out; omega⟩, ⟨by (with_reducible repeat (first | apply Kd.R_alloc | apply Kd.R_drewN | apply Kd.R_drew)); exact HO_2.out⟩, ⟨by (with_reducible repeat (first | refine blk_drewN ?_ _ | refine blk_drew ?_ | refine blk_alloc ?_ _)); exact BK268.out⟩, ⟨by repeat (first | (with_reducible first | exact HB.out | apply below_alloc | apply pw_below_drewN | apply below_drew1 | refine below_set ?_ GE268.out) | exact HB.out)⟩⟩
       ·rw [if_neg c18] at H
        exact absurd H (by simp)
      ·rw [if_neg c17] at H
       have c17b0 : decide (x7_2 < (t269.length : Int)) = false := decide_eq_false c17
       clear c17
       obtain rfl := Option.some.inj H
       obtain ⟨Ao22, co22, eo22⟩ := Kd.R_slice HO_2.out
       subst eo22
       go_wp2
       go_ret
       exact ⟨by first | rfl | (simp [errW_none, errW_some] <;> rfl) | (simp [*, errW_none, errW_some] <;> rfl), by repeat (first | (with_reducible first | exact HB.out | apply below_alloc | apply pw_below_drewN | apply below_drew1 | refine below_set ?_ GE268.out) | exact HB.out)⟩
def skifflaw7_awake.f (k : Nat)  : Option (Bool) := (skifflaw7_held.f k).bind fun t276 => ((Hand.choose_Active.f k t276).bind fun bt277 => ((skifflaw7_held.f k).bind fun t284 => ((choose_Other.f k t284).bind fun bt285 => ((skiffref1_Blank.f k).bind fun t287 => ((Hand.choose_Active.f k t287).bind fun bt288 => ((skiffref1_Blank.f k).bind fun t295 => ((choose_Other.f k t295).bind fun bt296 => ((Hand.choose_Active.f k (⟨#[]⟩ : ByteArray)).bind fun bt298 => (if bt277.1 = 0 then (if bt277.2.1 = 1 then ((skifflaw0_Num.f bt277.2.2.2.2.2).bind fun t305 => (if t305 = 0 then (if bt285.1 = 1 then ((skifflaw0_Num.f bt285.2).bind fun t306 => (if t306 = 0 then ((skifflaw0_Num.f bt288.2.2.2.2.2).bind fun t307 => (if t307 = 701 then (if bt296.1 = 0 then ((skifflaw0_Num.f bt296.2).bind fun t308 => (if t308 = 0 then ((skifflaw0_Num.f bt298.2.2.2.2.2).bind fun t309 => (some (t309 == 700))) else (none))) else (none)) else (none))) else (none))) else (none)) else (none))) else (none)) else (none))))))))))
set_option maxHeartbeats 8000000 in
set_option maxRecDepth 100000 in
theorem skifflaw7_awake.calls (k : Nat)  (r : Bool) (w : World) (h : skifflaw7_awake.f k  = some r) :
  Calls Try.prog 14 #[] w fun e w' => e = .returned (.bool r) ∧ Below w.heap.size w w' := by
 have hu25 := Try.underlying25
 have HB := Aside0.mk (Below.refl w.heap.size w)
 have H : ((skifflaw7_held.f k).bind fun t276 => ((Hand.choose_Active.f k t276).bind fun bt277 => ((skifflaw7_held.f k).bind fun t284 => ((choose_Other.f k t284).bind fun bt285 => ((skiffref1_Blank.f k).bind fun t287 => ((Hand.choose_Active.f k t287).bind fun bt288 => ((skiffref1_Blank.f k).bind fun t295 => ((choose_Other.f k t295).bind fun bt296 => ((Hand.choose_Active.f k (⟨#[]⟩ : ByteArray)).bind fun bt298 => (if bt277.1 = 0 then (if bt277.2.1 = 1 then ((skifflaw0_Num.f bt277.2.2.2.2.2).bind fun t305 => (if t305 = 0 then (if bt285.1 = 1 then ((skifflaw0_Num.f bt285.2).bind fun t306 => (if t306 = 0 then ((skifflaw0_Num.f bt288.2.2.2.2.2).bind fun t307 => (if t307 = 701 then (if bt296.1 = 0 then ((skifflaw0_Num.f bt296.2).bind fun t308 => (if t308 = 0 then ((skifflaw0_Num.f bt298.2.2.2.2.2).bind fun t309 => (some (t309 == 700))) else (none))) else (none)) else (none))) else (none))) else (none)) else (none))) else (none)) else (none))))))))))) = some r := h
 clear h
 replace H := Option.bind_eq_some_iff.mp H
 obtain ⟨t276, A10, H⟩ := H
 replace H : ((Hand.choose_Active.f k t276).bind fun bt277 => ((skifflaw7_held.f k).bind fun t284 => ((choose_Other.f k t284).bind fun bt285 => ((skiffref1_Blank.f k).bind fun t287 => ((Hand.choose_Active.f k t287).bind fun bt288 => ((skiffref1_Blank.f k).bind fun t295 => ((choose_Other.f k t295).bind fun bt296 => ((Hand.choose_Active.f k (⟨#[]⟩ : ByteArray)).bind fun bt298 => (if bt277.1 = 0 then (if bt277.2.1 = 1 then ((skifflaw0_Num.f bt277.2.2.2.2.2).bind fun t305 => (if t305 = 0 then (if bt285.1 = 1 then ((skifflaw0_Num.f bt285.2).bind fun t306 => (if t306 = 0 then ((skifflaw0_Num.f bt288.2.2.2.2.2).bind fun t307 => (if t307 = 701 then (if bt296.1 = 0 then ((skifflaw0_Num.f bt296.2).bind fun t308 => (if t308 = 0 then ((skifflaw0_Num.f bt298.2.2.2.2.2).bind fun t309 => (some (t309 == 700))) else (none))) else (none)) else (none))) else (none))) else (none)) else (none))) else (none)) else (none)))))))))) = some r := H
 have A1 := Aside0.mk A10
 clear A10
 replace H := Option.bind_eq_some_iff.mp H
 obtain ⟨⟨t277, t278, t279, t280, t281, t282⟩, A20, H⟩ := H
 replace H : ((skifflaw7_held.f k).bind fun t284 => ((choose_Other.f k t284).bind fun bt285 => ((skiffref1_Blank.f k).bind fun t287 => ((Hand.choose_Active.f k t287).bind fun bt288 => ((skiffref1_Blank.f k).bind fun t295 => ((choose_Other.f k t295).bind fun bt296 => ((Hand.choose_Active.f k (⟨#[]⟩ : ByteArray)).bind fun bt298 => (if t277 = 0 then (if t278 = 1 then ((skifflaw0_Num.f t282).bind fun t305 => (if t305 = 0 then (if bt285.1 = 1 then ((skifflaw0_Num.f bt285.2).bind fun t306 => (if t306 = 0 then ((skifflaw0_Num.f bt288.2.2.2.2.2).bind fun t307 => (if t307 = 701 then (if bt296.1 = 0 then ((skifflaw0_Num.f bt296.2).bind fun t308 => (if t308 = 0 then ((skifflaw0_Num.f bt298.2.2.2.2.2).bind fun t309 => (some (t309 == 700))) else (none))) else (none)) else (none))) else (none))) else (none)) else (none))) else (none)) else (none))))))))) = some r := H
 have A2 := Aside0.mk A20
 clear A20
 replace H := Option.bind_eq_some_iff.mp H
 obtain ⟨t284, A30, H⟩ := H
 replace H : ((choose_Other.f k t284).bind fun bt285 => ((skiffref1_Blank.f k).bind fun t287 => ((Hand.choose_Active.f k t287).bind fun bt288 => ((skiffref1_Blank.f k).bind fun t295 => ((choose_Other.f k t295).bind fun bt296 => ((Hand.choose_Active.f k (⟨#[]⟩ : ByteArray)).bind fun bt298 => (if t277 = 0 then (if t278 = 1 then ((skifflaw0_Num.f t282).bind fun t305 => (if t305 = 0 then (if bt285.1 = 1 then ((skifflaw0_Num.f bt285.2).bind fun t306 => (if t306 = 0 then ((skifflaw0_Num.f bt288.2.2.2.2.2).bind fun t307 => (if t307 = 701 then (if bt296.1 = 0 then ((skifflaw0_Num.f bt296.2).bind fun t308 => (if t308 = 0 then ((skifflaw0_Num.f bt298.2.2.2.2.2).bind fun t309 => (some (t309 == 700))) else (none))) else (none)) else (none))) else (none))) else (none)) else (none))) else (none)) else (none)))))))) = some r := H
 have A3 := Aside0.mk A30
 clear A30
 replace H := Option.bind_eq_some_iff.mp H
 obtain ⟨⟨t285, t286⟩, A40, H⟩ := H
 replace H : ((skiffref1_Blank.f k).bind fun t287 => ((Hand.choose_Active.f k t287).bind fun bt288 => ((skiffref1_Blank.f k).bind fun t295 => ((choose_Other.f k t295).bind fun bt296 => ((Hand.choose_Active.f k (⟨#[]⟩ : ByteArray)).bind fun bt298 => (if t277 = 0 then (if t278 = 1 then ((skifflaw0_Num.f t282).bind fun t305 => (if t305 = 0 then (if t285 = 1 then ((skifflaw0_Num.f t286).bind fun t306 => (if t306 = 0 then ((skifflaw0_Num.f bt288.2.2.2.2.2).bind fun t307 => (if t307 = 701 then (if bt296.1 = 0 then ((skifflaw0_Num.f bt296.2).bind fun t308 => (if t308 = 0 then ((skifflaw0_Num.f bt298.2.2.2.2.2).bind fun t309 => (some (t309 == 700))) else (none))) else (none)) else (none))) else (none))) else (none)) else (none))) else (none)) else (none))))))) = some r := H
 have A4 := Aside0.mk A40
 clear A40
 replace H := Option.bind_eq_some_iff.mp H
 obtain ⟨t287, A50, H⟩ := H
 replace H : ((Hand.choose_Active.f k t287).bind fun bt288 => ((skiffref1_Blank.f k).bind fun t295 => ((choose_Other.f k t295).bind fun bt296 => ((Hand.choose_Active.f k (⟨#[]⟩ : ByteArray)).bind fun bt298 => (if t277 = 0 then (if t278 = 1 then ((skifflaw0_Num.f t282).bind fun t305 => (if t305 = 0 then (if t285 = 1 then ((skifflaw0_Num.f t286).bind fun t306 => (if t306 = 0 then ((skifflaw0_Num.f bt288.2.2.2.2.2).bind fun t307 => (if t307 = 701 then (if bt296.1 = 0 then ((skifflaw0_Num.f bt296.2).bind fun t308 => (if t308 = 0 then ((skifflaw0_Num.f bt298.2.2.2.2.2).bind fun t309 => (some (t309 == 700))) else (none))) else (none)) else (none))) else (none))) else (none)) else (none))) else (none)) else (none)))))) = some r := H
 have A5 := Aside0.mk A50
 clear A50
 replace H := Option.bind_eq_some_iff.mp H
 obtain ⟨⟨t288, t289, t290, t291, t292, t293⟩, A60, H⟩ := H
 replace H : ((skiffref1_Blank.f k).bind fun t295 => ((choose_Other.f k t295).bind fun bt296 => ((Hand.choose_Active.f k (⟨#[]⟩ : ByteArray)).bind fun bt298 => (if t277 = 0 then (if t278 = 1 then ((skifflaw0_Num.f t282).bind fun t305 => (if t305 = 0 then (if t285 = 1 then ((skifflaw0_Num.f t286).bind fun t306 => (if t306 = 0 then ((skifflaw0_Num.f t293).bind fun t307 => (if t307 = 701 then (if bt296.1 = 0 then ((skifflaw0_Num.f bt296.2).bind fun t308 => (if t308 = 0 then ((skifflaw0_Num.f bt298.2.2.2.2.2).bind fun t309 => (some (t309 == 700))) else (none))) else (none)) else (none))) else (none))) else (none)) else (none))) else (none)) else (none))))) = some r := H
 have A6 := Aside0.mk A60
 clear A60
 replace H := Option.bind_eq_some_iff.mp H
 obtain ⟨t295, A70, H⟩ := H
 replace H : ((choose_Other.f k t295).bind fun bt296 => ((Hand.choose_Active.f k (⟨#[]⟩ : ByteArray)).bind fun bt298 => (if t277 = 0 then (if t278 = 1 then ((skifflaw0_Num.f t282).bind fun t305 => (if t305 = 0 then (if t285 = 1 then ((skifflaw0_Num.f t286).bind fun t306 => (if t306 = 0 then ((skifflaw0_Num.f t293).bind fun t307 => (if t307 = 701 then (if bt296.1 = 0 then ((skifflaw0_Num.f bt296.2).bind fun t308 => (if t308 = 0 then ((skifflaw0_Num.f bt298.2.2.2.2.2).bind fun t309 => (some (t309 == 700))) else (none))) else (none)) else (none))) else (none))) else (none)) else (none))) else (none)) else (none)))) = some r := H
 have A7 := Aside0.mk A70
 clear A70
 replace H := Option.bind_eq_some_iff.mp H
 obtain ⟨⟨t296, t297⟩, A80, H⟩ := H
 replace H : ((Hand.choose_Active.f k (⟨#[]⟩ : ByteArray)).bind fun bt298 => (if t277 = 0 then (if t278 = 1 then ((skifflaw0_Num.f t282).bind fun t305 => (if t305 = 0 then (if t285 = 1 then ((skifflaw0_Num.f t286).bind fun t306 => (if t306 = 0 then ((skifflaw0_Num.f t293).bind fun t307 => (if t307 = 701 then (if t296 = 0 then ((skifflaw0_Num.f t297).bind fun t308 => (if t308 = 0 then ((skifflaw0_Num.f bt298.2.2.2.2.2).bind fun t309 => (some (t309 == 700))) else (none))) else (none)) else (none))) else (none))) else (none)) else (none))) else (none)) else (none))) = some r := H
 have A8 := Aside0.mk A80
 clear A80
 replace H := Option.bind_eq_some_iff.mp H
 obtain ⟨⟨t298, t299, t300, t301, t302, t303⟩, A90, H⟩ := H
 replace H : (if t277 = 0 then (if t278 = 1 then ((skifflaw0_Num.f t282).bind fun t305 => (if t305 = 0 then (if t285 = 1 then ((skifflaw0_Num.f t286).bind fun t306 => (if t306 = 0 then ((skifflaw0_Num.f t293).bind fun t307 => (if t307 = 701 then (if t296 = 0 then ((skifflaw0_Num.f t297).bind fun t308 => (if t308 = 0 then ((skifflaw0_Num.f t303).bind fun t309 => (some (t309 == 700))) else (none))) else (none)) else (none))) else (none))) else (none)) else (none))) else (none)) else (none)) = some r := H
 have A9 := Aside0.mk A90
 clear A90
 by_cases c10 : t277 = 0
 ·rw [if_pos c10] at H
  have c10b0 : (t277 == 0) = true := beq_iff_eq.mpr c10
  have c10b1 : (t277 != 0) = false := bne_eq_false_iff_eq.mpr c10
  clear c10
  by_cases c11 : t278 = 1
  ·rw [if_pos c11] at H
   have c11b0 : (t278 == 1) = true := beq_iff_eq.mpr c11
   have c11b1 : (t278 != 1) = false := bne_eq_false_iff_eq.mpr c11
   clear c11
   replace H := Option.bind_eq_some_iff.mp H
   obtain ⟨t305, A120, H⟩ := H
   replace H : (if t305 = 0 then (if t285 = 1 then ((skifflaw0_Num.f t286).bind fun t306 => (if t306 = 0 then ((skifflaw0_Num.f t293).bind fun t307 => (if t307 = 701 then (if t296 = 0 then ((skifflaw0_Num.f t297).bind fun t308 => (if t308 = 0 then ((skifflaw0_Num.f t303).bind fun t309 => (some (t309 == 700))) else (none))) else (none)) else (none))) else (none))) else (none)) else (none)) = some r := H
   have A12 := Aside0.mk A120
   clear A120
   by_cases c13 : t305 = 0
   ·rw [if_pos c13] at H
    have c13b0 : (t305 == 0) = true := beq_iff_eq.mpr c13
    have c13b1 : (t305 != 0) = false := bne_eq_false_iff_eq.mpr c13
    clear c13
    by_cases c14 : t285 = 1
    ·rw [if_pos c14] at H
     have c14b0 : (t285 == 1) = true := beq_iff_eq.mpr c14
     have c14b1 : (t285 != 1) = false := bne_eq_false_iff_eq.mpr c14
     clear c14
     replace H := Option.bind_eq_some_iff.mp H
     obtain ⟨t306, A150, H⟩ := H
     replace H : (if t306 = 0 then ((skifflaw0_Num.f t293).bind fun t307 => (if t307 = 701 then (if t296 = 0 then ((skifflaw0_Num.f t297).bind fun t308 => (if t308 = 0 then ((skifflaw0_Num.f t303).bind fun t309 => (some (t309 == 700))) else (none))) else (none)) else (none))) else (none)) = some r := H
     have A15 := Aside0.mk A150
     clear A150
     by_cases c16 : t306 = 0
     ·rw [if_pos c16] at H
      have c16b0 : (t306 == 0) = true := beq_iff_eq.mpr c16
      have c16b1 : (t306 != 0) = false := bne_eq_false_iff_eq.mpr c16
      clear c16
      replace H := Option.bind_eq_some_iff.mp H
      obtain ⟨t307, A170, H⟩ := H
      replace H : (if t307 = 701 then (if t296 = 0 then ((skifflaw0_Num.f t297).bind fun t308 => (if t308 = 0 then ((skifflaw0_Num.f t303).bind fun t309 => (some (t309 == 700))) else (none))) else (none)) else (none)) = some r := H
      have A17 := Aside0.mk A170
      clear A170
      by_cases c18 : t307 = 701
      ·rw [if_pos c18] at H
       have c18b0 : (t307 == 701) = true := beq_iff_eq.mpr c18
       have c18b1 : (t307 != 701) = false := bne_eq_false_iff_eq.mpr c18
       clear c18
       by_cases c19 : t296 = 0
       ·rw [if_pos c19] at H
        have c19b0 : (t296 == 0) = true := beq_iff_eq.mpr c19
        have c19b1 : (t296 != 0) = false := bne_eq_false_iff_eq.mpr c19
        clear c19
        replace H := Option.bind_eq_some_iff.mp H
        obtain ⟨t308, A200, H⟩ := H
        replace H : (if t308 = 0 then ((skifflaw0_Num.f t303).bind fun t309 => (some (t309 == 700))) else (none)) = some r := H
        have A20 := Aside0.mk A200
        clear A200
        by_cases c21 : t308 = 0
        ·rw [if_pos c21] at H
         have c21b0 : (t308 == 0) = true := beq_iff_eq.mpr c21
         have c21b1 : (t308 != 0) = false := bne_eq_false_iff_eq.mpr c21
         clear c21
         replace H := Option.bind_eq_some_iff.mp H
         obtain ⟨t309, A220, H⟩ := H
         replace H : (some (t309 == 700)) = some r := H
         have A22 := Aside0.mk A220
         clear A220
         obtain rfl := Option.some.inj H
         go_enter Try.func14, Try.ntmps14
         go_wp2_with (first | ((with_reducible refine gate_callee (f := 22) rfl ?_); refine goesL_ (some 12) rfl rfl Try.func22 (by kernel_rfl) rfl #[] rfl q1_ ?_; (with_reducible refine (skifflaw7_held.calls k  t276 _ A1.out).mono ?_); rintro e w23 ⟨rfl, hb⟩; refine ⟨_, rfl, ?_⟩; have n0_ := Aside0.mk (below_step q2_ hb); clear HB; have HB := n0_; clear n0_; (try clear hb); (try clear hb2); (try clear hk); (try clear hi)) | ((with_reducible refine gate_callee (f := 9) rfl ?_); refine goesL_ (some 13) rfl rfl Try.func9 (by kernel_rfl) rfl #[.string t276] rfl q1_ ?_; (with_reducible refine (Hand.choose_Active.calls k t276 t277 t278 t279 t280 t281 t282 _ A2.out).mono ?_); rintro e w24 ⟨rfl, hb⟩; refine ⟨_, rfl, ?_⟩; have n0_ := Aside0.mk (below_step q2_ hb); clear HB; have HB := n0_; clear n0_; (try clear hb); (try clear hb2); (try clear hk); (try clear hi)) | ((with_reducible refine gate_dst (N := 1) rfl ?_); refine box_event ?hg (N := 1) ?hd (cs := #[.int .i64 0, .int .i64 0, .int .i64 0, .int .i64 0, .int .i64 0]) (t := 25) ?hr ?_; (case hd => rfl); (case hg => rfl); (case hr => first | (go_simp; done) | (go_simp; rfl)); intro gb283 hg w25 hbox hb; have n0_ := Aside0.mk (below_step q2_ hb); have n1_ := Aside0.mk (hbox); have n2_ := Aside0.mk ((by rw [hg]; exact (below_size q2_) : w.heap.size ≤ gb283)); have n3_ := Aside0.mk ((by rw [hg]; exact (below_size q2_) : w.heap.size ≤ gb283)); clear HB; have HB := n0_; have BK283 := n1_; have GW283 := n2_; have GE283 := n3_; clear n0_ n1_ n2_ n3_; clear hb hbox hg; have hcz26_0 : w25.cell? ⟨gb283, 0, none⟩ = some (.int .i64 0) := (blk_cell BK283.out 0).trans rfl; have hcz26_1 : w25.cell? ⟨gb283, 1, none⟩ = some (.int .i64 0) := (blk_cell BK283.out 1).trans rfl; have hcz26_2 : w25.cell? ⟨gb283, 2, none⟩ = some (.int .i64 0) := (blk_cell BK283.out 2).trans rfl; have hcz26_3 : w25.cell? ⟨gb283, 3, none⟩ = some (.int .i64 0) := (blk_cell BK283.out 3).trans rfl; have hcz26_4 : w25.cell? ⟨gb283, 4, none⟩ = some (.int .i64 0) := (blk_cell BK283.out 4).trans rfl; have hfz26_0 := blk_frozen BK283.out 0; have hfz26_1 := blk_frozen BK283.out 1; have hfz26_2 := blk_frozen BK283.out 2; have hfz26_3 := blk_frozen BK283.out 3; have hfz26_4 := blk_frozen BK283.out 4) | ((with_reducible refine gate_callee (f := 22) rfl ?_); refine goesL_ (some 17) rfl rfl Try.func22 (by kernel_rfl) rfl #[] rfl q1_ ?_; (with_reducible refine (skifflaw7_held.calls k  t284 _ A3.out).mono ?_); rintro e w27 ⟨rfl, hb⟩; refine ⟨_, rfl, ?_⟩; have n0_ := Aside0.mk (blk_below (g := gb283) (o := .cells #[.int .i64 t277, .int .i64 t278, .int .i64 t279, .int .i64 t280, .int .i64 t281] 25 (0, 0)) (by (with_reducible repeat (first | refine blk_drewN ?_ _ | refine blk_drew ?_ | refine blk_alloc ?_ _)); refine blk_put (cs := #[.int .i64 t277, .int .i64 t278, .int .i64 t279, .int .i64 t280, .int .i64 0]) ?_ 4 _ rfl; (with_reducible repeat (first | refine blk_drewN ?_ _ | refine blk_drew ?_ | refine blk_alloc ?_ _)); refine blk_put (cs := #[.int .i64 t277, .int .i64 t278, .int .i64 t279, .int .i64 0, .int .i64 0]) ?_ 3 _ rfl; (with_reducible repeat (first | refine blk_drewN ?_ _ | refine blk_drew ?_ | refine blk_alloc ?_ _)); refine blk_put (cs := #[.int .i64 t277, .int .i64 t278, .int .i64 0, .int .i64 0, .int .i64 0]) ?_ 2 _ rfl; (with_reducible repeat (first | refine blk_drewN ?_ _ | refine blk_drew ?_ | refine blk_alloc ?_ _)); refine blk_put (cs := #[.int .i64 t277, .int .i64 0, .int .i64 0, .int .i64 0, .int .i64 0]) ?_ 1 _ rfl; (with_reducible repeat (first | refine blk_drewN ?_ _ | refine blk_drew ?_ | refine blk_alloc ?_ _)); refine blk_put (cs := #[.int .i64 0, .int .i64 0, .int .i64 0, .int .i64 0, .int .i64 0]) ?_ 0 _ rfl; (with_reducible repeat (first | refine blk_drewN ?_ _ | refine blk_drew ?_ | refine blk_alloc ?_ _)); exact BK283.out) hb); have n1_ := Aside0.mk (below_step (by repeat (first | (with_reducible first | exact HB.out | apply below_alloc | apply pw_below_drewN | apply below_drew1 | refine below_set ?_ GE283.out) | exact HB.out)) hb); clear BK283; clear HB; have BK283 := n0_; have HB := n1_; clear n0_ n1_; (try clear hb); (try clear hb2); (try clear hk); (try clear hi)) | ((with_reducible refine gate_callee (f := 11) rfl ?_); refine goesL_ (some 18) rfl rfl Try.func11 (by kernel_rfl) rfl #[.string t284] rfl q1_ ?_; (with_reducible refine (choose_Other.calls k t284 t285 t286 _ A4.out).mono ?_); rintro e w28 ⟨rfl, hb⟩; refine ⟨_, rfl, ?_⟩; have n0_ := Aside0.mk (blk_below (g := gb283) (o := .cells #[.int .i64 t277, .int .i64 t278, .int .i64 t279, .int .i64 t280, .int .i64 t281] 25 (0, 0)) (by (with_reducible repeat (first | refine blk_drewN ?_ _ | refine blk_drew ?_ | refine blk_alloc ?_ _)); exact BK283.out) hb); have n1_ := Aside0.mk (below_step (by repeat (first | (with_reducible first | exact HB.out | apply below_alloc | apply pw_below_drewN | apply below_drew1 | refine below_set ?_ GE283.out) | exact HB.out)) hb); clear BK283; clear HB; have BK283 := n0_; have HB := n1_; clear n0_ n1_; (try clear hb); (try clear hb2); (try clear hk); (try clear hi)) | ((with_reducible refine gate_callee (f := 17) rfl ?_); refine goesL_ (some 22) rfl rfl Try.func17 (by kernel_rfl) rfl #[] rfl q1_ ?_; (with_reducible refine (skiffref1_Blank.calls k  t287 _ A5.out).mono ?_); rintro e w29 ⟨rfl, hb⟩; refine ⟨_, rfl, ?_⟩; have n0_ := Aside0.mk (blk_below (g := gb283) (o := .cells #[.int .i64 t277, .int .i64 t278, .int .i64 t279, .int .i64 t280, .int .i64 t281] 25 (0, 0)) (by (with_reducible repeat (first | refine blk_drewN ?_ _ | refine blk_drew ?_ | refine blk_alloc ?_ _)); exact BK283.out) hb); have n1_ := Aside0.mk (below_step (by repeat (first | (with_reducible first | exact HB.out | apply below_alloc | apply pw_below_drewN | apply below_drew1 | refine below_set ?_ GE283.out) | exact HB.out)) hb); clear BK283; clear HB; have BK283 := n0_; have HB := n1_; clear n0_ n1_; (try clear hb); (try clear hb2); (try clear hk); (try clear hi)) | ((with_reducible refine gate_callee (f := 9) rfl ?_); refine goesL_ (some 23) rfl rfl Try.func9 (by kernel_rfl) rfl #[.string t287] rfl q1_ ?_; (with_reducible refine (Hand.choose_Active.calls k t287 t288 t289 t290 t291 t292 t293 _ A6.out).mono ?_); rintro e w30 ⟨rfl, hb⟩; refine ⟨_, rfl, ?_⟩; have n0_ := Aside0.mk (blk_below (g := gb283) (o := .cells #[.int .i64 t277, .int .i64 t278, .int .i64 t279, .int .i64 t280, .int .i64 t281] 25 (0, 0)) (by (with_reducible repeat (first | refine blk_drewN ?_ _ | refine blk_drew ?_ | refine blk_alloc ?_ _)); exact BK283.out) hb); have n1_ := Aside0.mk (below_step (by repeat (first | (with_reducible first | exact HB.out | apply below_alloc | apply pw_below_drewN | apply below_drew1 | refine below_set ?_ GE283.out) | exact HB.out)) hb); clear BK283; clear HB; have BK283 := n0_; have HB := n1_; clear n0_ n1_; (try clear hb); (try clear hb2); (try clear hk); (try clear hi)) | ((with_reducible refine gate_dst (N := 5) rfl ?_); refine box_event ?hg (N := 5) ?hd (cs := #[.int .i64 0, .int .i64 0, .int .i64 0, .int .i64 0, .int .i64 0]) (t := 25) ?hr ?_; (case hd => rfl); (case hg => rfl); (case hr => first | (go_simp; done) | (go_simp; rfl)); intro gb294 hg w31 hbox hb; have n0_ := Aside0.mk (blk_below (g := gb283) (o := .cells #[.int .i64 t277, .int .i64 t278, .int .i64 t279, .int .i64 t280, .int .i64 t281] 25 (0, 0)) (by (with_reducible repeat (first | refine blk_drewN ?_ _ | refine blk_drew ?_ | refine blk_alloc ?_ _)); exact BK283.out) hb); have n1_ := Aside0.mk (below_step (by repeat (first | (with_reducible first | exact HB.out | apply below_alloc | apply pw_below_drewN | apply below_drew1 | refine below_set ?_ GE283.out) | exact HB.out)) hb); have n2_ := Aside0.mk (hbox); have n3_ := Aside0.mk ((by rw [hg]; exact (below_size (by repeat (first | (with_reducible first | exact HB.out | apply below_alloc | apply pw_below_drewN | apply below_drew1 | refine below_set ?_ GE283.out) | exact HB.out))) : w.heap.size ≤ gb294)); have n4_ := Aside0.mk ((by rw [hg]; exact (below_size (by repeat (first | (with_reducible first | exact HB.out | apply below_alloc | apply pw_below_drewN | apply below_drew1 | refine below_set ?_ GE283.out) | exact HB.out))) : w.heap.size ≤ gb294)); have n5_ := Aside0.mk ((by rw [hg]; exact Nat.ne_of_lt (blk_lt (g := gb283) (o := .cells #[.int .i64 t277, .int .i64 t278, .int .i64 t279, .int .i64 t280, .int .i64 t281] 25 (0, 0)) (by (with_reducible repeat (first | refine blk_drewN ?_ _ | refine blk_drew ?_ | refine blk_alloc ?_ _)); exact BK283.out)) : gb283 ≠ gb294)); have n6_ := Aside0.mk ((by rw [hg]; exact Nat.ne_of_gt (blk_lt (g := gb283) (o := .cells #[.int .i64 t277, .int .i64 t278, .int .i64 t279, .int .i64 t280, .int .i64 t281] 25 (0, 0)) (by (with_reducible repeat (first | refine blk_drewN ?_ _ | refine blk_drew ?_ | refine blk_alloc ?_ _)); exact BK283.out)) : gb294 ≠ gb283)); clear BK283; clear HB; have BK283 := n0_; have HB := n1_; have BK294 := n2_; have GW294 := n3_; have GE294 := n4_; have NB283_294 := n5_; have NB294_283 := n6_; clear n0_ n1_ n2_ n3_ n4_ n5_ n6_; clear hb hbox hg; have hnb32 := NB294_283.out; have hnc32 := NB283_294.out; have hcz33_0 : w31.cell? ⟨gb294, 0, none⟩ = some (.int .i64 0) := (blk_cell BK294.out 0).trans rfl; have hcz33_1 : w31.cell? ⟨gb294, 1, none⟩ = some (.int .i64 0) := (blk_cell BK294.out 1).trans rfl; have hcz33_2 : w31.cell? ⟨gb294, 2, none⟩ = some (.int .i64 0) := (blk_cell BK294.out 2).trans rfl; have hcz33_3 : w31.cell? ⟨gb294, 3, none⟩ = some (.int .i64 0) := (blk_cell BK294.out 3).trans rfl; have hcz33_4 : w31.cell? ⟨gb294, 4, none⟩ = some (.int .i64 0) := (blk_cell BK294.out 4).trans rfl; have hfz33_0 := blk_frozen BK294.out 0; have hfz33_1 := blk_frozen BK294.out 1; have hfz33_2 := blk_frozen BK294.out 2; have hfz33_3 := blk_frozen BK294.out 3; have hfz33_4 := blk_frozen BK294.out 4) | ((with_reducible refine gate_callee (f := 17) rfl ?_); refine goesL_ (some 27) rfl rfl Try.func17 (by kernel_rfl) rfl #[] rfl q1_ ?_; (with_reducible refine (skiffref1_Blank.calls k  t295 _ A7.out).mono ?_); rintro e w34 ⟨rfl, hb⟩; refine ⟨_, rfl, ?_⟩; have n0_ := Aside0.mk (blk_below (g := gb283) (o := .cells #[.int .i64 t277, .int .i64 t278, .int .i64 t279, .int .i64 t280, .int .i64 t281] 25 (0, 0)) (by (with_reducible repeat (first | refine blk_drewN ?_ _ | refine blk_drew ?_ | refine blk_alloc ?_ _)); refine blk_far ?_ NB283_294.out _; (with_reducible repeat (first | refine blk_drewN ?_ _ | refine blk_drew ?_ | refine blk_alloc ?_ _)); refine blk_far ?_ NB283_294.out _; (with_reducible repeat (first | refine blk_drewN ?_ _ | refine blk_drew ?_ | refine blk_alloc ?_ _)); refine blk_far ?_ NB283_294.out _; (with_reducible repeat (first | refine blk_drewN ?_ _ | refine blk_drew ?_ | refine blk_alloc ?_ _)); refine blk_far ?_ NB283_294.out _; (with_reducible repeat (first | refine blk_drewN ?_ _ | refine blk_drew ?_ | refine blk_alloc ?_ _)); refine blk_far ?_ NB283_294.out _; (with_reducible repeat (first | refine blk_drewN ?_ _ | refine blk_drew ?_ | refine blk_alloc ?_ _)); exact BK283.out) hb); have n1_ := Aside0.mk (blk_below (g := gb294) (o := .cells #[.int .i64 t288, .int .i64 t289, .int .i64 t290, .int .i64 t291, .int .i64 t292] 25 (0, 0)) (by (with_reducible repeat (first | refine blk_drewN ?_ _ | refine blk_drew ?_ | refine blk_alloc ?_ _)); refine blk_put (cs := #[.int .i64 t288, .int .i64 t289, .int .i64 t290, .int .i64 t291, .int .i64 0]) ?_ 4 _ rfl; (with_reducible repeat (first | refine blk_drewN ?_ _ | refine blk_drew ?_ | refine blk_alloc ?_ _)); refine blk_put (cs := #[.int .i64 t288, .int .i64 t289, .int .i64 t290, .int .i64 0, .int .i64 0]) ?_ 3 _ rfl; (with_reducible repeat (first | refine blk_drewN ?_ _ | refine blk_drew ?_ | refine blk_alloc ?_ _)); refine blk_put (cs := #[.int .i64 t288, .int .i64 t289, .int .i64 0, .int .i64 0, .int .i64 0]) ?_ 2 _ rfl; (with_reducible repeat (first | refine blk_drewN ?_ _ | refine blk_drew ?_ | refine blk_alloc ?_ _)); refine blk_put (cs := #[.int .i64 t288, .int .i64 0, .int .i64 0, .int .i64 0, .int .i64 0]) ?_ 1 _ rfl; (with_reducible repeat (first | refine blk_drewN ?_ _ | refine blk_drew ?_ | refine blk_alloc ?_ _)); refine blk_put (cs := #[.int .i64 0, .int .i64 0, .int .i64 0, .int .i64 0, .int .i64 0]) ?_ 0 _ rfl; (with_reducible repeat (first | refine blk_drewN ?_ _ | refine blk_drew ?_ | refine blk_alloc ?_ _)); exact BK294.out) hb); have n2_ := Aside0.mk (below_step (by repeat (first | (with_reducible first | exact HB.out | apply below_alloc | apply pw_below_drewN | apply below_drew1 | refine below_set ?_ GE283.out | refine below_set ?_ GE294.out) | exact HB.out)) hb); clear BK283; clear BK294; clear HB; have BK283 := n0_; have BK294 := n1_; have HB := n2_; clear n0_ n1_ n2_; (try clear hb); (try clear hb2); (try clear hk); (try clear hi)) | ((with_reducible refine gate_callee (f := 11) rfl ?_); refine goesL_ (some 28) rfl rfl Try.func11 (by kernel_rfl) rfl #[.string t295] rfl q1_ ?_; (with_reducible refine (choose_Other.calls k t295 t296 t297 _ A8.out).mono ?_); rintro e w35 ⟨rfl, hb⟩; refine ⟨_, rfl, ?_⟩; have n0_ := Aside0.mk (blk_below (g := gb283) (o := .cells #[.int .i64 t277, .int .i64 t278, .int .i64 t279, .int .i64 t280, .int .i64 t281] 25 (0, 0)) (by (with_reducible repeat (first | refine blk_drewN ?_ _ | refine blk_drew ?_ | refine blk_alloc ?_ _)); exact BK283.out) hb); have n1_ := Aside0.mk (blk_below (g := gb294) (o := .cells #[.int .i64 t288, .int .i64 t289, .int .i64 t290, .int .i64 t291, .int .i64 t292] 25 (0, 0)) (by (with_reducible repeat (first | refine blk_drewN ?_ _ | refine blk_drew ?_ | refine blk_alloc ?_ _)); exact BK294.out) hb); have n2_ := Aside0.mk (below_step (by repeat (first | (with_reducible first | exact HB.out | apply below_alloc | apply pw_below_drewN | apply below_drew1 | refine below_set ?_ GE283.out | refine below_set ?_ GE294.out) | exact HB.out)) hb); clear BK283; clear BK294; clear HB; have BK283 := n0_; have BK294 := n1_; have HB := n2_; clear n0_ n1_ n2_; (try clear hb); (try clear hb2); (try clear hk); (try clear hi)) | ((with_reducible refine gate_callee (f := 9) rfl ?_); refine goesL_ (some 32) rfl rfl Try.func9 (by kernel_rfl) rfl #[.string (⟨#[]⟩ : ByteArray)] rfl q1_ ?_; (with_reducible refine (Hand.choose_Active.calls k (⟨#[]⟩ : ByteArray) t298 t299 t300 t301 t302 t303 _ A9.out).mono ?_); rintro e w36 ⟨rfl, hb⟩; refine ⟨_, rfl, ?_⟩; have n0_ := Aside0.mk (blk_below (g := gb283) (o := .cells #[.int .i64 t277, .int .i64 t278, .int .i64 t279, .int .i64 t280, .int .i64 t281] 25 (0, 0)) (by (with_reducible repeat (first | refine blk_drewN ?_ _ | refine blk_drew ?_ | refine blk_alloc ?_ _)); exact BK283.out) hb); have n1_ := Aside0.mk (blk_below (g := gb294) (o := .cells #[.int .i64 t288, .int .i64 t289, .int .i64 t290, .int .i64 t291, .int .i64 t292] 25 (0, 0)) (by (with_reducible repeat (first | refine blk_drewN ?_ _ | refine blk_drew ?_ | refine blk_alloc ?_ _)); exact BK294.out) hb); have n2_ := Aside0.mk (below_step (by repeat (first | (with_reducible first | exact HB.out | apply below_alloc | apply pw_below_drewN | apply below_drew1 | refine below_set ?_ GE283.out | refine below_set ?_ GE294.out) | exact HB.out)) hb); clear BK283; clear BK294; clear HB; have BK283 := n0_; have BK294 := n1_; have HB := n2_; clear n0_ n1_ n2_; (try clear hb); (try clear hb2); (try clear hk); (try clear hi)) | ((with_reducible refine gate_dst (N := 9) rfl ?_); refine box_event ?hg (N := 9) ?hd (cs := #[.int .i64 0, .int .i64 0, .int .i64 0, .int .i64 0, .int .i64 0]) (t := 25) ?hr ?_; (case hd => rfl); (case hg => rfl); (case hr => first | (go_simp; done) | (go_simp; rfl)); intro gb304 hg w37 hbox hb; have n0_ := Aside0.mk (blk_below (g := gb283) (o := .cells #[.int .i64 t277, .int .i64 t278, .int .i64 t279, .int .i64 t280, .int .i64 t281] 25 (0, 0)) (by (with_reducible repeat (first | refine blk_drewN ?_ _ | refine blk_drew ?_ | refine blk_alloc ?_ _)); exact BK283.out) hb); have n1_ := Aside0.mk (blk_below (g := gb294) (o := .cells #[.int .i64 t288, .int .i64 t289, .int .i64 t290, .int .i64 t291, .int .i64 t292] 25 (0, 0)) (by (with_reducible repeat (first | refine blk_drewN ?_ _ | refine blk_drew ?_ | refine blk_alloc ?_ _)); exact BK294.out) hb); have n2_ := Aside0.mk (below_step (by repeat (first | (with_reducible first | exact HB.out | apply below_alloc | apply pw_below_drewN | apply below_drew1 | refine below_set ?_ GE283.out | refine below_set ?_ GE294.out) | exact HB.out)) hb); have n3_ := Aside0.mk (hbox); have n4_ := Aside0.mk ((by rw [hg]; exact (below_size (by repeat (first | (with_reducible first | exact HB.out | apply below_alloc | apply pw_below_drewN | apply below_drew1 | refine below_set ?_ GE283.out | refine below_set ?_ GE294.out) | exact HB.out))) : w.heap.size ≤ gb304)); have n5_ := Aside0.mk ((by rw [hg]; exact (below_size (by repeat (first | (with_reducible first | exact HB.out | apply below_alloc | apply pw_below_drewN | apply below_drew1 | refine below_set ?_ GE283.out | refine below_set ?_ GE294.out) | exact HB.out))) : w.heap.size ≤ gb304)); have n6_ := Aside0.mk ((by rw [hg]; exact Nat.ne_of_lt (blk_lt (g := gb283) (o := .cells #[.int .i64 t277, .int .i64 t278, .int .i64 t279, .int .i64 t280, .int .i64 t281] 25 (0, 0)) (by (with_reducible repeat (first | refine blk_drewN ?_ _ | refine blk_drew ?_ | refine blk_alloc ?_ _)); exact BK283.out)) : gb283 ≠ gb304)); have n7_ := Aside0.mk ((by rw [hg]; exact Nat.ne_of_gt (blk_lt (g := gb283) (o := .cells #[.int .i64 t277, .int .i64 t278, .int .i64 t279, .int .i64 t280, .int .i64 t281] 25 (0, 0)) (by (with_reducible repeat (first | refine blk_drewN ?_ _ | refine blk_drew ?_ | refine blk_alloc ?_ _)); exact BK283.out)) : gb304 ≠ gb283)); have n8_ := Aside0.mk ((by rw [hg]; exact Nat.ne_of_lt (blk_lt (g := gb294) (o := .cells #[.int .i64 t288, .int .i64 t289, .int .i64 t290, .int .i64 t291, .int .i64 t292] 25 (0, 0)) (by (with_reducible repeat (first | refine blk_drewN ?_ _ | refine blk_drew ?_ | refine blk_alloc ?_ _)); exact BK294.out)) : gb294 ≠ gb304)); have n9_ := Aside0.mk ((by rw [hg]; exact Nat.ne_of_gt (blk_lt (g := gb294) (o := .cells #[.int .i64 t288, .int .i64 t289, .int .i64 t290, .int .i64 t291, .int .i64 t292] 25 (0, 0)) (by (with_reducible repeat (first | refine blk_drewN ?_ _ | refine blk_drew ?_ | refine blk_alloc ?_ _)); exact BK294.out)) : gb304 ≠ gb294)); clear BK283; clear BK294; clear HB; have BK283 := n0_; have BK294 := n1_; have HB := n2_; have BK304 := n3_; have GW304 := n4_; have GE304 := n5_; have NB283_304 := n6_; have NB304_283 := n7_; have NB294_304 := n8_; have NB304_294 := n9_; clear n0_ n1_ n2_ n3_ n4_ n5_ n6_ n7_ n8_ n9_; clear hb hbox hg; have hnb38 := NB304_283.out; have hnc38 := NB283_304.out; have hnb39 := NB304_294.out; have hnc39 := NB294_304.out; have hcz40_0 : w37.cell? ⟨gb304, 0, none⟩ = some (.int .i64 0) := (blk_cell BK304.out 0).trans rfl; have hcz40_1 : w37.cell? ⟨gb304, 1, none⟩ = some (.int .i64 0) := (blk_cell BK304.out 1).trans rfl; have hcz40_2 : w37.cell? ⟨gb304, 2, none⟩ = some (.int .i64 0) := (blk_cell BK304.out 2).trans rfl; have hcz40_3 : w37.cell? ⟨gb304, 3, none⟩ = some (.int .i64 0) := (blk_cell BK304.out 3).trans rfl; have hcz40_4 : w37.cell? ⟨gb304, 4, none⟩ = some (.int .i64 0) := (blk_cell BK304.out 4).trans rfl; have hfz40_0 := blk_frozen BK304.out 0; have hfz40_1 := blk_frozen BK304.out 1; have hfz40_2 := blk_frozen BK304.out 2; have hfz40_3 := blk_frozen BK304.out 3; have hfz40_4 := blk_frozen BK304.out 4; have hcz41_0 : w37.cell? ⟨gb283, 0, none⟩ = some (.int .i64 t277) := (blk_cell BK283.out 0).trans rfl; have hcz41_1 : w37.cell? ⟨gb283, 1, none⟩ = some (.int .i64 t278) := (blk_cell BK283.out 1).trans rfl; have hcz41_2 : w37.cell? ⟨gb283, 2, none⟩ = some (.int .i64 t279) := (blk_cell BK283.out 2).trans rfl; have hcz41_3 : w37.cell? ⟨gb283, 3, none⟩ = some (.int .i64 t280) := (blk_cell BK283.out 3).trans rfl; have hcz41_4 : w37.cell? ⟨gb283, 4, none⟩ = some (.int .i64 t281) := (blk_cell BK283.out 4).trans rfl; have hfz41_0 := blk_frozen BK283.out 0; have hfz41_1 := blk_frozen BK283.out 1; have hfz41_2 := blk_frozen BK283.out 2; have hfz41_3 := blk_frozen BK283.out 3; have hfz41_4 := blk_frozen BK283.out 4) | (go_at_call 13; (with_reducible refine (skifflaw0_Num.calls t282 t305 _ A12.out).mono ?_); rintro e w' ⟨rfl, ⟨nd, rfl⟩⟩) | (go_at_call 13; (with_reducible refine (skifflaw0_Num.calls t286 t306 _ A15.out).mono ?_); rintro e w' ⟨rfl, ⟨nd, rfl⟩⟩) | (go_at_call 13; (with_reducible refine (skifflaw0_Num.calls t293 t307 _ A17.out).mono ?_); rintro e w' ⟨rfl, ⟨nd, rfl⟩⟩) | (go_at_call 13; (with_reducible refine (skifflaw0_Num.calls t297 t308 _ A20.out).mono ?_); rintro e w' ⟨rfl, ⟨nd, rfl⟩⟩) | (go_at_call 13; (with_reducible refine (skifflaw0_Num.calls t303 t309 _ A22.out).mono ?_); rintro e w' ⟨rfl, ⟨nd, rfl⟩⟩))
         go_ret
         exact ⟨by first | rfl | (simp [errW_none, errW_some] <;> rfl) | (simp [*, errW_none, errW_some] <;> rfl), by repeat (first | (with_reducible first | exact HB.out | apply below_alloc | apply pw_below_drewN | apply below_drew1 | refine below_set ?_ GE283.out | refine below_set ?_ GE294.out | refine below_set ?_ GE304.out) | exact HB.out)⟩
        ·rw [if_neg c21] at H
         exact absurd H (by simp)
       ·rw [if_neg c19] at H
        exact absurd H (by simp)
      ·rw [if_neg c18] at H
       exact absurd H (by simp)
     ·rw [if_neg c16] at H
      exact absurd H (by simp)
    ·rw [if_neg c14] at H
     exact absurd H (by simp)
   ·rw [if_neg c13] at H
    exact absurd H (by simp)
  ·rw [if_neg c11] at H
   exact absurd H (by simp)
 ·rw [if_neg c10] at H
  exact absurd H (by simp)
end Go.Proofs.Ytjadcjkjpkkmkaa.PAll

-- Written by this session's own program (wip/tools/myprint.py), which runs the kit's print over functions proved by hand.
namespace Go.Proofs.Ytjadcjkjpkkmkaa.PAll
open Go.RowKit Go.Proofs.YtjadcjkjpkkmkaaW.PrintWords Go.Proofs.YtjadcjkjpkkmkaaW.PrintLast Go.Proofs.YtjadcjkjpkkmkaaW.PrintMore
attribute [local go_sem] max2_int min2_int max_two min_two max_three min_three max_four min_four   -- for this text's walks alone
set_option linter.unusedVariables false
set_option linter.unusedSimpArgs false
attribute [local go_sem high] eqA25
mutual
def skifflaw7_ChooseOther.j0 : Nat → ByteArray → ByteArray → Int → Int → Int → Bool → Int → Int → Int → Int → Int → Option (Bool)
 | 0, _, _, _, _, _, _, _, _, _, _, _ => none
 | k + 1, x0, x1, x6, x7, x8, x47, x383000, x383001, x383002, x383003, x383004 => if x47 = true then ((skifflaw0_Num.f x6).bind fun t387 => (if t387 = 0 then ((skifflaw0_Num.f x8).bind fun t388 => (some (t388 == 0))) else (some true))) else ((some (([192, 480] : List Int) : List Int)).bind fun y389 => (if 0 ≤ (Go.bits .and .i64 x7 1) then (if (Go.bits .and .i64 x7 1) < (y389.length : Int) then (if 0 ≤ (rd y389 (Go.bits .and .i64 x7 1)) then (if (rd y389 (Go.bits .and .i64 x7 1)) ≤ (x0.size : Int) then (if (x0.extract 0 ((rd y389 (Go.bits .and .i64 x7 1)) : Int).toNat).size + x1.size ≤ 9223372036854775807 then (if 0 ≤ (wrap64 ((rd y389 (Go.bits .and .i64 x7 1)) + (x1.size : Int))) then (if (wrap64 ((rd y389 (Go.bits .and .i64 x7 1)) + (x1.size : Int))) ≤ (x0.size : Int) then (if ((x0.extract 0 ((rd y389 (Go.bits .and .i64 x7 1)) : Int).toNat) ++ x1).size + (x0.extract ((wrap64 ((rd y389 (Go.bits .and .i64 x7 1)) + (x1.size : Int))) : Int).toNat x0.size).size ≤ 9223372036854775807 then ((skiffref1_Scan.f k (((x0.extract 0 ((rd y389 (Go.bits .and .i64 x7 1)) : Int).toNat) ++ x1) ++ (x0.extract ((wrap64 ((rd y389 (Go.bits .and .i64 x7 1)) + (x1.size : Int))) : Int).toNat x0.size))).bind fun bt393 => (skifflaw7_ChooseOther.l0 k x7 (((x0.extract 0 ((rd y389 (Go.bits .and .i64 x7 1)) : Int).toNat) ++ x1) ++ (x0.extract ((wrap64 ((rd y389 (Go.bits .and .i64 x7 1)) + (x1.size : Int))) : Int).toNat x0.size)) bt393.1 0 x383000 x383001 x383002 x383003 x383004)) else (none)) else (none)) else (none)) else (none)) else (none)) else (none)) else (none)) else (none)))
def skifflaw7_ChooseOther.l0 : Nat → Int → ByteArray → List (S25) → Int → Int → Int → Int → Int → Int → Option (Bool)
 | 0, _, _, _, _, _, _, _, _, _ => none
 | k + 1, x7, x10, x11, x13, x383000, x383001, x383002, x383003, x383004 => if x13 < (x11.length : Int) then (if 0 ≤ x13 then ((skiffref1_Good.f k x10 ((rd_T25 x11 x13).f1.f0) ((rd_T25 x11 x13).f1.f1) ((rd_T25 x11 x13).f1.f2) ((rd_T25 x11 x13).f1.f3)).bind fun bt398 => (if bt398.1 = true then (if (!(((rd_T25 x11 x13).f0) == x383000) || ((!(((rd_T25 x11 x13).f1.f0) == x383001) || (!(((rd_T25 x11 x13).f1.f1) == x383002) || (!(((rd_T25 x11 x13).f1.f2) == x383003) || (!(((rd_T25 x11 x13).f1.f3) == x383004))))))) = true then (if ((rd_T25 x11 x13).f1.f0) ≥ x383001 then (some true) else (skifflaw7_ChooseOther.l0 k x7 x10 x11 (wrap64 (x13 + 1)) x383000 x383001 x383002 x383003 x383004)) else (skifflaw7_ChooseOther.l0 k x7 x10 x11 (wrap64 (x13 + 1)) x383000 x383001 x383002 x383003 x383004)) else (skifflaw7_ChooseOther.l0 k x7 x10 x11 (wrap64 (x13 + 1)) x383000 x383001 x383002 x383003 x383004))) else (none)) else ((Hand.choose_Active.f k x10).bind fun bt402 => ((skifflaw0_Num.f bt402.2.2.2.2.2).bind fun t409 => (if t409 = 0 then (if (bt402.1 == x383000 && ((bt402.2.1 == x383001 && (bt402.2.2.1 == x383002 && (bt402.2.2.2.1 == x383003 && (bt402.2.2.2.2.1 == x383004)))))) = true then (some (x7 == (wrap64 (1 - x383002)))) else (none)) else (none))))
end
def skifflaw7_ChooseOther.f (k : Nat) (a0 : ByteArray) (a1 : ByteArray) : Option (Bool) := (skifflaw7_awake.f k).bind fun t375 => (if t375 = true then ((Hand.choose_Active.f k a0).bind fun bt376 => ((choose_Other.f k a0).bind fun bt383 => ((skifflaw0_Num.f bt376.2.2.2.2.2).bind fun t385 => (if t385 = 0 then ((skifflaw0_Num.f bt383.2).bind fun t386 => (if t386 = 0 then (if (a1.size : Int) > 288 then (skifflaw7_ChooseOther.j0 k a0 a1 bt376.2.2.2.2.2 bt383.1 bt383.2 true bt376.1 bt376.2.1 bt376.2.2.1 bt376.2.2.2.1 bt376.2.2.2.2.1) else (skifflaw7_ChooseOther.j0 k a0 a1 bt376.2.2.2.2.2 bt383.1 bt383.2 ((a0.size : Int) != 768) bt376.1 bt376.2.1 bt376.2.2.1 bt376.2.2.2.1 bt376.2.2.2.2.1)) else (skifflaw7_ChooseOther.j0 k a0 a1 bt376.2.2.2.2.2 bt383.1 bt383.2 true bt376.1 bt376.2.1 bt376.2.2.1 bt376.2.2.2.1 bt376.2.2.2.2.1))) else (skifflaw7_ChooseOther.j0 k a0 a1 bt376.2.2.2.2.2 bt383.1 bt383.2 true bt376.1 bt376.2.1 bt376.2.2.1 bt376.2.2.2.1 bt376.2.2.2.2.1))))) else (none))
set_option maxHeartbeats 8000000 in
set_option maxRecDepth 100000 in
theorem skifflaw7_ChooseOther.calls (k : Nat) (a0 : ByteArray) (a1 : ByteArray) (r : Bool) (w : World) (h : skifflaw7_ChooseOther.f k a0 a1 = some r) :
  Calls Try.prog 6 #[.string a0, .string a1] w fun e w' => e = .returned (.bool r) ∧ Below w.heap.size w w' := by
 have hu25 := Try.underlying25
 have hu23 := Try.underlying23
 have HB := Aside0.mk (Below.refl w.heap.size w)
 have H : ((skifflaw7_awake.f k).bind fun t375 => (if t375 = true then ((Hand.choose_Active.f k a0).bind fun bt376 => ((choose_Other.f k a0).bind fun bt383 => ((skifflaw0_Num.f bt376.2.2.2.2.2).bind fun t385 => (if t385 = 0 then ((skifflaw0_Num.f bt383.2).bind fun t386 => (if t386 = 0 then (if (a1.size : Int) > 288 then (skifflaw7_ChooseOther.j0 k a0 a1 bt376.2.2.2.2.2 bt383.1 bt383.2 true bt376.1 bt376.2.1 bt376.2.2.1 bt376.2.2.2.1 bt376.2.2.2.2.1) else (skifflaw7_ChooseOther.j0 k a0 a1 bt376.2.2.2.2.2 bt383.1 bt383.2 ((a0.size : Int) != 768) bt376.1 bt376.2.1 bt376.2.2.1 bt376.2.2.2.1 bt376.2.2.2.2.1)) else (skifflaw7_ChooseOther.j0 k a0 a1 bt376.2.2.2.2.2 bt383.1 bt383.2 true bt376.1 bt376.2.1 bt376.2.2.1 bt376.2.2.2.1 bt376.2.2.2.2.1))) else (skifflaw7_ChooseOther.j0 k a0 a1 bt376.2.2.2.2.2 bt383.1 bt383.2 true bt376.1 bt376.2.1 bt376.2.2.1 bt376.2.2.2.1 bt376.2.2.2.2.1))))) else (none))) = some r := h
 clear h
 replace H := Option.bind_eq_some_iff.mp H
 obtain ⟨t375, A30, H⟩ := H
 replace H : (if t375 = true then ((Hand.choose_Active.f k a0).bind fun bt376 => ((choose_Other.f k a0).bind fun bt383 => ((skifflaw0_Num.f bt376.2.2.2.2.2).bind fun t385 => (if t385 = 0 then ((skifflaw0_Num.f bt383.2).bind fun t386 => (if t386 = 0 then (if (a1.size : Int) > 288 then (skifflaw7_ChooseOther.j0 k a0 a1 bt376.2.2.2.2.2 bt383.1 bt383.2 true bt376.1 bt376.2.1 bt376.2.2.1 bt376.2.2.2.1 bt376.2.2.2.2.1) else (skifflaw7_ChooseOther.j0 k a0 a1 bt376.2.2.2.2.2 bt383.1 bt383.2 ((a0.size : Int) != 768) bt376.1 bt376.2.1 bt376.2.2.1 bt376.2.2.2.1 bt376.2.2.2.2.1)) else (skifflaw7_ChooseOther.j0 k a0 a1 bt376.2.2.2.2.2 bt383.1 bt383.2 true bt376.1 bt376.2.1 bt376.2.2.1 bt376.2.2.2.1 bt376.2.2.2.2.1))) else (skifflaw7_ChooseOther.j0 k a0 a1 bt376.2.2.2.2.2 bt383.1 bt383.2 true bt376.1 bt376.2.1 bt376.2.2.1 bt376.2.2.2.1 bt376.2.2.2.2.1))))) else (none)) = some r := H
 have A3 := Aside0.mk A30
 clear A30
 by_cases c4 : t375 = true
 ·subst c4
  have H1 : ((Hand.choose_Active.f k a0).bind fun bt376 => ((choose_Other.f k a0).bind fun bt383 => ((skifflaw0_Num.f bt376.2.2.2.2.2).bind fun t385 => (if t385 = 0 then ((skifflaw0_Num.f bt383.2).bind fun t386 => (if t386 = 0 then (if (a1.size : Int) > 288 then (skifflaw7_ChooseOther.j0 k a0 a1 bt376.2.2.2.2.2 bt383.1 bt383.2 true bt376.1 bt376.2.1 bt376.2.2.1 bt376.2.2.2.1 bt376.2.2.2.2.1) else (skifflaw7_ChooseOther.j0 k a0 a1 bt376.2.2.2.2.2 bt383.1 bt383.2 ((a0.size : Int) != 768) bt376.1 bt376.2.1 bt376.2.2.1 bt376.2.2.2.1 bt376.2.2.2.2.1)) else (skifflaw7_ChooseOther.j0 k a0 a1 bt376.2.2.2.2.2 bt383.1 bt383.2 true bt376.1 bt376.2.1 bt376.2.2.1 bt376.2.2.2.1 bt376.2.2.2.2.1))) else (skifflaw7_ChooseOther.j0 k a0 a1 bt376.2.2.2.2.2 bt383.1 bt383.2 true bt376.1 bt376.2.1 bt376.2.2.1 bt376.2.2.2.1 bt376.2.2.2.2.1))))) = some r := by rw [if_pos rfl] at H; exact H
  clear H
  have H := H1
  clear H1
  replace H := Option.bind_eq_some_iff.mp H
  obtain ⟨⟨t376, t377, t378, t379, t380, t381⟩, A50, H⟩ := H
  replace H : ((choose_Other.f k a0).bind fun bt383 => ((skifflaw0_Num.f t381).bind fun t385 => (if t385 = 0 then ((skifflaw0_Num.f bt383.2).bind fun t386 => (if t386 = 0 then (if (a1.size : Int) > 288 then (skifflaw7_ChooseOther.j0 k a0 a1 t381 bt383.1 bt383.2 true t376 t377 t378 t379 t380) else (skifflaw7_ChooseOther.j0 k a0 a1 t381 bt383.1 bt383.2 ((a0.size : Int) != 768) t376 t377 t378 t379 t380)) else (skifflaw7_ChooseOther.j0 k a0 a1 t381 bt383.1 bt383.2 true t376 t377 t378 t379 t380))) else (skifflaw7_ChooseOther.j0 k a0 a1 t381 bt383.1 bt383.2 true t376 t377 t378 t379 t380)))) = some r := H
  have A5 := Aside0.mk A50
  clear A50
  replace H := Option.bind_eq_some_iff.mp H
  obtain ⟨⟨t383, t384⟩, A60, H⟩ := H
  replace H : ((skifflaw0_Num.f t381).bind fun t385 => (if t385 = 0 then ((skifflaw0_Num.f t384).bind fun t386 => (if t386 = 0 then (if (a1.size : Int) > 288 then (skifflaw7_ChooseOther.j0 k a0 a1 t381 t383 t384 true t376 t377 t378 t379 t380) else (skifflaw7_ChooseOther.j0 k a0 a1 t381 t383 t384 ((a0.size : Int) != 768) t376 t377 t378 t379 t380)) else (skifflaw7_ChooseOther.j0 k a0 a1 t381 t383 t384 true t376 t377 t378 t379 t380))) else (skifflaw7_ChooseOther.j0 k a0 a1 t381 t383 t384 true t376 t377 t378 t379 t380))) = some r := H
  have A6 := Aside0.mk A60
  clear A60
  have HC7 := Aside0.mk H
  clear H
  go_enter Try.func6, Try.ntmps6
  go_upto_region 5 with (first | (go_at_call 14; (with_reducible refine (skifflaw7_awake.calls k  true _ A3.out).mono ?_); rintro e w8 ⟨rfl, hb⟩; have n0_ := Aside0.mk (below_step q2_ hb); clear HB; have HB := n0_; clear n0_; (try clear hb); (try clear hb2); (try clear hk); (try clear hi)) | (go_at_call 9; (with_reducible refine (Hand.choose_Active.calls k a0 t376 t377 t378 t379 t380 t381 _ A5.out).mono ?_); rintro e w9 ⟨rfl, hb⟩; have n0_ := Aside0.mk (below_step q2_ hb); clear HB; have HB := n0_; clear n0_; (try clear hb); (try clear hb2); (try clear hk); (try clear hi)) | ((with_reducible refine gate_dst (N := 5) rfl ?_); (try (refine gate_guard (by rfl) ?_; dsimp only)); refine box_event ?hg (N := 5) ?hd (cs := #[.int .i64 0, .int .i64 0, .int .i64 0, .int .i64 0, .int .i64 0]) (t := 25) ?hr ?_; (case hd => rfl); (case hg => rfl); (case hr => first | (go_simp; done) | (go_simp; rfl)); intro gb382 hg w10 hbox hb; have n0_ := Aside0.mk (below_step q2_ hb); have n1_ := Aside0.mk (hbox); have n2_ := Aside0.mk ((by rw [hg]; exact (below_size q2_) : w.heap.size ≤ gb382)); have n3_ := Aside0.mk ((by rw [hg]; exact (below_size q2_) : w.heap.size ≤ gb382)); clear HB; have HB := n0_; have BK382 := n1_; have GW382 := n2_; have GE382 := n3_; clear n0_ n1_ n2_ n3_; clear hb hbox hg; have hcz11_0 : w10.cell? ⟨gb382, 0, none⟩ = some (.int .i64 0) := (blk_cell BK382.out 0).trans rfl; have hcz11_1 : w10.cell? ⟨gb382, 1, none⟩ = some (.int .i64 0) := (blk_cell BK382.out 1).trans rfl; have hcz11_2 : w10.cell? ⟨gb382, 2, none⟩ = some (.int .i64 0) := (blk_cell BK382.out 2).trans rfl; have hcz11_3 : w10.cell? ⟨gb382, 3, none⟩ = some (.int .i64 0) := (blk_cell BK382.out 3).trans rfl; have hcz11_4 : w10.cell? ⟨gb382, 4, none⟩ = some (.int .i64 0) := (blk_cell BK382.out 4).trans rfl; have hfz11_0 := blk_frozen BK382.out 0; have hfz11_1 := blk_frozen BK382.out 1; have hfz11_2 := blk_frozen BK382.out 2; have hfz11_3 := blk_frozen BK382.out 3; have hfz11_4 := blk_frozen BK382.out 4) | (go_at_call 11; (with_reducible refine (choose_Other.calls k a0 t383 t384 _ A6.out).mono ?_); rintro e w12 ⟨rfl, hb⟩; have n0_ := Aside0.mk (blk_below (g := gb382) (o := .cells #[.int .i64 t376, .int .i64 t377, .int .i64 t378, .int .i64 t379, .int .i64 t380] 25 (0, 0)) (by (with_reducible repeat (first | refine blk_drewN ?_ _ | refine blk_drew ?_ | refine blk_alloc ?_ _)); refine blk_put (cs := #[.int .i64 t376, .int .i64 t377, .int .i64 t378, .int .i64 t379, .int .i64 0]) ?_ 4 _ rfl; (with_reducible repeat (first | refine blk_drewN ?_ _ | refine blk_drew ?_ | refine blk_alloc ?_ _)); refine blk_put (cs := #[.int .i64 t376, .int .i64 t377, .int .i64 t378, .int .i64 0, .int .i64 0]) ?_ 3 _ rfl; (with_reducible repeat (first | refine blk_drewN ?_ _ | refine blk_drew ?_ | refine blk_alloc ?_ _)); refine blk_put (cs := #[.int .i64 t376, .int .i64 t377, .int .i64 0, .int .i64 0, .int .i64 0]) ?_ 2 _ rfl; (with_reducible repeat (first | refine blk_drewN ?_ _ | refine blk_drew ?_ | refine blk_alloc ?_ _)); refine blk_put (cs := #[.int .i64 t376, .int .i64 0, .int .i64 0, .int .i64 0, .int .i64 0]) ?_ 1 _ rfl; (with_reducible repeat (first | refine blk_drewN ?_ _ | refine blk_drew ?_ | refine blk_alloc ?_ _)); refine blk_put (cs := #[.int .i64 0, .int .i64 0, .int .i64 0, .int .i64 0, .int .i64 0]) ?_ 0 _ rfl; (with_reducible repeat (first | refine blk_drewN ?_ _ | refine blk_drew ?_ | refine blk_alloc ?_ _)); exact BK382.out) hb); have n1_ := Aside0.mk (below_step (by repeat (first | (with_reducible first | exact HB.out | apply below_alloc | apply pw_below_drewN | apply below_drew1 | refine below_set ?_ GE382.out) | exact HB.out)) hb); clear BK382; clear HB; have BK382 := n0_; have HB := n1_; clear n0_ n1_; (try clear hb); (try clear hb2); (try clear hk); (try clear hi)))
  repeat (go_quiet (first | (go_at_call 14; (with_reducible refine (skifflaw7_awake.calls k  true _ A3.out).mono ?_); rintro e w8 ⟨rfl, hb⟩; have n0_ := Aside0.mk (below_step q2_ hb); clear HB; have HB := n0_; clear n0_; (try clear hb); (try clear hb2); (try clear hk); (try clear hi)) | (go_at_call 9; (with_reducible refine (Hand.choose_Active.calls k a0 t376 t377 t378 t379 t380 t381 _ A5.out).mono ?_); rintro e w9 ⟨rfl, hb⟩; have n0_ := Aside0.mk (below_step q2_ hb); clear HB; have HB := n0_; clear n0_; (try clear hb); (try clear hb2); (try clear hk); (try clear hi)) | ((with_reducible refine gate_dst (N := 5) rfl ?_); (try (refine gate_guard (by rfl) ?_; dsimp only)); refine box_event ?hg (N := 5) ?hd (cs := #[.int .i64 0, .int .i64 0, .int .i64 0, .int .i64 0, .int .i64 0]) (t := 25) ?hr ?_; (case hd => rfl); (case hg => rfl); (case hr => first | (go_simp; done) | (go_simp; rfl)); intro gb382 hg w10 hbox hb; have n0_ := Aside0.mk (below_step q2_ hb); have n1_ := Aside0.mk (hbox); have n2_ := Aside0.mk ((by rw [hg]; exact (below_size q2_) : w.heap.size ≤ gb382)); have n3_ := Aside0.mk ((by rw [hg]; exact (below_size q2_) : w.heap.size ≤ gb382)); clear HB; have HB := n0_; have BK382 := n1_; have GW382 := n2_; have GE382 := n3_; clear n0_ n1_ n2_ n3_; clear hb hbox hg; have hcz11_0 : w10.cell? ⟨gb382, 0, none⟩ = some (.int .i64 0) := (blk_cell BK382.out 0).trans rfl; have hcz11_1 : w10.cell? ⟨gb382, 1, none⟩ = some (.int .i64 0) := (blk_cell BK382.out 1).trans rfl; have hcz11_2 : w10.cell? ⟨gb382, 2, none⟩ = some (.int .i64 0) := (blk_cell BK382.out 2).trans rfl; have hcz11_3 : w10.cell? ⟨gb382, 3, none⟩ = some (.int .i64 0) := (blk_cell BK382.out 3).trans rfl; have hcz11_4 : w10.cell? ⟨gb382, 4, none⟩ = some (.int .i64 0) := (blk_cell BK382.out 4).trans rfl; have hfz11_0 := blk_frozen BK382.out 0; have hfz11_1 := blk_frozen BK382.out 1; have hfz11_2 := blk_frozen BK382.out 2; have hfz11_3 := blk_frozen BK382.out 3; have hfz11_4 := blk_frozen BK382.out 4) | (go_at_call 11; (with_reducible refine (choose_Other.calls k a0 t383 t384 _ A6.out).mono ?_); rintro e w12 ⟨rfl, hb⟩; have n0_ := Aside0.mk (blk_below (g := gb382) (o := .cells #[.int .i64 t376, .int .i64 t377, .int .i64 t378, .int .i64 t379, .int .i64 t380] 25 (0, 0)) (by (with_reducible repeat (first | refine blk_drewN ?_ _ | refine blk_drew ?_ | refine blk_alloc ?_ _)); refine blk_put (cs := #[.int .i64 t376, .int .i64 t377, .int .i64 t378, .int .i64 t379, .int .i64 0]) ?_ 4 _ rfl; (with_reducible repeat (first | refine blk_drewN ?_ _ | refine blk_drew ?_ | refine blk_alloc ?_ _)); refine blk_put (cs := #[.int .i64 t376, .int .i64 t377, .int .i64 t378, .int .i64 0, .int .i64 0]) ?_ 3 _ rfl; (with_reducible repeat (first | refine blk_drewN ?_ _ | refine blk_drew ?_ | refine blk_alloc ?_ _)); refine blk_put (cs := #[.int .i64 t376, .int .i64 t377, .int .i64 0, .int .i64 0, .int .i64 0]) ?_ 2 _ rfl; (with_reducible repeat (first | refine blk_drewN ?_ _ | refine blk_drew ?_ | refine blk_alloc ?_ _)); refine blk_put (cs := #[.int .i64 t376, .int .i64 0, .int .i64 0, .int .i64 0, .int .i64 0]) ?_ 1 _ rfl; (with_reducible repeat (first | refine blk_drewN ?_ _ | refine blk_drew ?_ | refine blk_alloc ?_ _)); refine blk_put (cs := #[.int .i64 0, .int .i64 0, .int .i64 0, .int .i64 0, .int .i64 0]) ?_ 0 _ rfl; (with_reducible repeat (first | refine blk_drewN ?_ _ | refine blk_drew ?_ | refine blk_alloc ?_ _)); exact BK382.out) hb); have n1_ := Aside0.mk (below_step (by repeat (first | (with_reducible first | exact HB.out | apply below_alloc | apply pw_below_drewN | apply below_drew1 | refine below_set ?_ GE382.out) | exact HB.out)) hb); clear BK382; clear HB; have BK382 := n0_; have HB := n1_; clear n0_ n1_; (try clear hb); (try clear hb2); (try clear hk); (try clear hi))); go_upto_region 5 with (first | (go_at_call 14; (with_reducible refine (skifflaw7_awake.calls k  true _ A3.out).mono ?_); rintro e w8 ⟨rfl, hb⟩; have n0_ := Aside0.mk (below_step q2_ hb); clear HB; have HB := n0_; clear n0_; (try clear hb); (try clear hb2); (try clear hk); (try clear hi)) | (go_at_call 9; (with_reducible refine (Hand.choose_Active.calls k a0 t376 t377 t378 t379 t380 t381 _ A5.out).mono ?_); rintro e w9 ⟨rfl, hb⟩; have n0_ := Aside0.mk (below_step q2_ hb); clear HB; have HB := n0_; clear n0_; (try clear hb); (try clear hb2); (try clear hk); (try clear hi)) | ((with_reducible refine gate_dst (N := 5) rfl ?_); (try (refine gate_guard (by rfl) ?_; dsimp only)); refine box_event ?hg (N := 5) ?hd (cs := #[.int .i64 0, .int .i64 0, .int .i64 0, .int .i64 0, .int .i64 0]) (t := 25) ?hr ?_; (case hd => rfl); (case hg => rfl); (case hr => first | (go_simp; done) | (go_simp; rfl)); intro gb382 hg w10 hbox hb; have n0_ := Aside0.mk (below_step q2_ hb); have n1_ := Aside0.mk (hbox); have n2_ := Aside0.mk ((by rw [hg]; exact (below_size q2_) : w.heap.size ≤ gb382)); have n3_ := Aside0.mk ((by rw [hg]; exact (below_size q2_) : w.heap.size ≤ gb382)); clear HB; have HB := n0_; have BK382 := n1_; have GW382 := n2_; have GE382 := n3_; clear n0_ n1_ n2_ n3_; clear hb hbox hg; have hcz11_0 : w10.cell? ⟨gb382, 0, none⟩ = some (.int .i64 0) := (blk_cell BK382.out 0).trans rfl; have hcz11_1 : w10.cell? ⟨gb382, 1, none⟩ = some (.int .i64 0) := (blk_cell BK382.out 1).trans rfl; have hcz11_2 : w10.cell? ⟨gb382, 2, none⟩ = some (.int .i64 0) := (blk_cell BK382.out 2).trans rfl; have hcz11_3 : w10.cell? ⟨gb382, 3, none⟩ = some (.int .i64 0) := (blk_cell BK382.out 3).trans rfl; have hcz11_4 : w10.cell? ⟨gb382, 4, none⟩ = some (.int .i64 0) := (blk_cell BK382.out 4).trans rfl; have hfz11_0 := blk_frozen BK382.out 0; have hfz11_1 := blk_frozen BK382.out 1; have hfz11_2 := blk_frozen BK382.out 2; have hfz11_3 := blk_frozen BK382.out 3; have hfz11_4 := blk_frozen BK382.out 4) | (go_at_call 11; (with_reducible refine (choose_Other.calls k a0 t383 t384 _ A6.out).mono ?_); rintro e w12 ⟨rfl, hb⟩; have n0_ := Aside0.mk (blk_below (g := gb382) (o := .cells #[.int .i64 t376, .int .i64 t377, .int .i64 t378, .int .i64 t379, .int .i64 t380] 25 (0, 0)) (by (with_reducible repeat (first | refine blk_drewN ?_ _ | refine blk_drew ?_ | refine blk_alloc ?_ _)); refine blk_put (cs := #[.int .i64 t376, .int .i64 t377, .int .i64 t378, .int .i64 t379, .int .i64 0]) ?_ 4 _ rfl; (with_reducible repeat (first | refine blk_drewN ?_ _ | refine blk_drew ?_ | refine blk_alloc ?_ _)); refine blk_put (cs := #[.int .i64 t376, .int .i64 t377, .int .i64 t378, .int .i64 0, .int .i64 0]) ?_ 3 _ rfl; (with_reducible repeat (first | refine blk_drewN ?_ _ | refine blk_drew ?_ | refine blk_alloc ?_ _)); refine blk_put (cs := #[.int .i64 t376, .int .i64 t377, .int .i64 0, .int .i64 0, .int .i64 0]) ?_ 2 _ rfl; (with_reducible repeat (first | refine blk_drewN ?_ _ | refine blk_drew ?_ | refine blk_alloc ?_ _)); refine blk_put (cs := #[.int .i64 t376, .int .i64 0, .int .i64 0, .int .i64 0, .int .i64 0]) ?_ 1 _ rfl; (with_reducible repeat (first | refine blk_drewN ?_ _ | refine blk_drew ?_ | refine blk_alloc ?_ _)); refine blk_put (cs := #[.int .i64 0, .int .i64 0, .int .i64 0, .int .i64 0, .int .i64 0]) ?_ 0 _ rfl; (with_reducible repeat (first | refine blk_drewN ?_ _ | refine blk_drew ?_ | refine blk_alloc ?_ _)); exact BK382.out) hb); have n1_ := Aside0.mk (below_step (by repeat (first | (with_reducible first | exact HB.out | apply below_alloc | apply pw_below_drewN | apply below_drew1 | refine below_set ?_ GE382.out) | exact HB.out)) hb); clear BK382; clear HB; have BK382 := n0_; have HB := n1_; clear n0_ n1_; (try clear hb); (try clear hb2); (try clear hk); (try clear hi))))
  (try simp only [Act.put, List.setIfInBounds_toArray, List.set_cons_zero, List.set_cons_succ])
  go_cut [47] (fun v47 wc => ∃ (kq : Nat) (x47_6 : Bool), v47 = .bool x47_6 ∧ Aside0 (skifflaw7_ChooseOther.j0 kq a0 a1 t381 t383 t384 x47_6 t376 t377 t378 t379 t380 = some r) ∧ Aside0 (kq ≤ k) ∧ Aside0 (wc.heap[gb382]? = some (.cells #[.int .i64 t376, .int .i64 t377, .int .i64 t378, .int .i64 t379, .int .i64 t380] 25 (0, 0))) ∧ Aside0 (Below w.heap.size w wc))
  case first =>
   have H := HC7.out
   clear HC7
   replace H := Option.bind_eq_some_iff.mp H
   obtain ⟨t385, A130, H⟩ := H
   replace H : (if t385 = 0 then ((skifflaw0_Num.f t384).bind fun t386 => (if t386 = 0 then (if (a1.size : Int) > 288 then (skifflaw7_ChooseOther.j0 k a0 a1 t381 t383 t384 true t376 t377 t378 t379 t380) else (skifflaw7_ChooseOther.j0 k a0 a1 t381 t383 t384 ((a0.size : Int) != 768) t376 t377 t378 t379 t380)) else (skifflaw7_ChooseOther.j0 k a0 a1 t381 t383 t384 true t376 t377 t378 t379 t380))) else (skifflaw7_ChooseOther.j0 k a0 a1 t381 t383 t384 true t376 t377 t378 t379 t380)) = some r := H
   have A13 := Aside0.mk A130
   clear A130
   by_cases c14 : t385 = 0
   ·rw [if_pos c14] at H
    have c14b0 : (t385 == 0) = true := beq_iff_eq.mpr c14
    have c14b1 : (t385 != 0) = false := bne_eq_false_iff_eq.mpr c14
    clear c14
    (first | rw [c14b0] | (simp only [i64_w, i32_w]; rw [c14b0]) | skip)
    replace H := Option.bind_eq_some_iff.mp H
    obtain ⟨t386, A150, H⟩ := H
    replace H : (if t386 = 0 then (if (a1.size : Int) > 288 then (skifflaw7_ChooseOther.j0 k a0 a1 t381 t383 t384 true t376 t377 t378 t379 t380) else (skifflaw7_ChooseOther.j0 k a0 a1 t381 t383 t384 ((a0.size : Int) != 768) t376 t377 t378 t379 t380)) else (skifflaw7_ChooseOther.j0 k a0 a1 t381 t383 t384 true t376 t377 t378 t379 t380)) = some r := H
    have A15 := Aside0.mk A150
    clear A150
    by_cases c16 : t386 = 0
    ·rw [if_pos c16] at H
     have c16b0 : (t386 == 0) = true := beq_iff_eq.mpr c16
     have c16b1 : (t386 != 0) = false := bne_eq_false_iff_eq.mpr c16
     clear c16
     by_cases c17 : (a1.size : Int) > 288
     ·rw [if_pos c17] at H
      have c17b0 : decide (288 < (a1.size : Int)) = true := decide_eq_true c17
      have c17b1 : decide (288 < a1.size) = true := decide_eq_true (by omega)
      clear c17
      have H' := Aside0.mk H
      clear H
      go_wp2_with (first | (go_at_call 13; (with_reducible refine (skifflaw0_Num.calls t381 t385 _ A13.out).mono ?_); rintro e w' ⟨rfl, ⟨nd, rfl⟩⟩; (try first | exact ⟨rfl, _, World.drewN_drewN _ _ _⟩ | exact ⟨rfl, _, Eq.trans (World.drewN_drewN _ _ _) (congrArg (World.drewN _) (Nat.add_assoc _ _ _))⟩)) | (go_at_call 13; (with_reducible refine (skifflaw0_Num.calls t384 t386 _ A15.out).mono ?_); rintro e w' ⟨rfl, ⟨nd, rfl⟩⟩; (try first | exact ⟨rfl, _, World.drewN_drewN _ _ _⟩ | exact ⟨rfl, _, Eq.trans (World.drewN_drewN _ _ _) (congrArg (World.drewN _) (Nat.add_assoc _ _ _))⟩)))
      repeat (go_quiet (first | (go_at_call 13; (with_reducible refine (skifflaw0_Num.calls t381 t385 _ A13.out).mono ?_); rintro e w' ⟨rfl, ⟨nd, rfl⟩⟩; (try first | exact ⟨rfl, _, World.drewN_drewN _ _ _⟩ | exact ⟨rfl, _, Eq.trans (World.drewN_drewN _ _ _) (congrArg (World.drewN _) (Nat.add_assoc _ _ _))⟩)) | (go_at_call 13; (with_reducible refine (skifflaw0_Num.calls t384 t386 _ A15.out).mono ?_); rintro e w' ⟨rfl, ⟨nd, rfl⟩⟩; (try first | exact ⟨rfl, _, World.drewN_drewN _ _ _⟩ | exact ⟨rfl, _, Eq.trans (World.drewN_drewN _ _ _) (congrArg (World.drewN _) (Nat.add_assoc _ _ _))⟩))); try go_wp2_with (first | (go_at_call 13; (with_reducible refine (skifflaw0_Num.calls t381 t385 _ A13.out).mono ?_); rintro e w' ⟨rfl, ⟨nd, rfl⟩⟩; (try first | exact ⟨rfl, _, World.drewN_drewN _ _ _⟩ | exact ⟨rfl, _, Eq.trans (World.drewN_drewN _ _ _) (congrArg (World.drewN _) (Nat.add_assoc _ _ _))⟩)) | (go_at_call 13; (with_reducible refine (skifflaw0_Num.calls t384 t386 _ A15.out).mono ?_); rintro e w' ⟨rfl, ⟨nd, rfl⟩⟩; (try first | exact ⟨rfl, _, World.drewN_drewN _ _ _⟩ | exact ⟨rfl, _, Eq.trans (World.drewN_drewN _ _ _) (congrArg (World.drewN _) (Nat.add_assoc _ _ _))⟩))))
      go_meet
      case rel => exact ⟨_, (true), q15_, H', ⟨by first | omega | exact Nat.le_refl _⟩, ⟨by (with_reducible repeat (first | refine blk_drewN ?_ _ | refine blk_drew ?_ | refine blk_alloc ?_ _)); exact BK382.out⟩, ⟨by repeat (first | (with_reducible first | exact HB.out | apply below_alloc | apply pw_below_drewN | apply below_drew1 | refine below_set ?_ GE382.out) | exact HB.out)⟩⟩
     ·rw [if_neg c17] at H
      have c17b0 : decide (288 < (a1.size : Int)) = false := decide_eq_false c17
      have c17b1 : decide (288 < a1.size) = false := decide_eq_false (by omega)
      clear c17
      have H' := Aside0.mk H
      clear H
      go_wp2_with (first | (go_at_call 13; (with_reducible refine (skifflaw0_Num.calls t381 t385 _ A13.out).mono ?_); rintro e w' ⟨rfl, ⟨nd, rfl⟩⟩; (try first | exact ⟨rfl, _, World.drewN_drewN _ _ _⟩ | exact ⟨rfl, _, Eq.trans (World.drewN_drewN _ _ _) (congrArg (World.drewN _) (Nat.add_assoc _ _ _))⟩)) | (go_at_call 13; (with_reducible refine (skifflaw0_Num.calls t384 t386 _ A15.out).mono ?_); rintro e w' ⟨rfl, ⟨nd, rfl⟩⟩; (try first | exact ⟨rfl, _, World.drewN_drewN _ _ _⟩ | exact ⟨rfl, _, Eq.trans (World.drewN_drewN _ _ _) (congrArg (World.drewN _) (Nat.add_assoc _ _ _))⟩)))
      repeat (go_quiet (first | (go_at_call 13; (with_reducible refine (skifflaw0_Num.calls t381 t385 _ A13.out).mono ?_); rintro e w' ⟨rfl, ⟨nd, rfl⟩⟩; (try first | exact ⟨rfl, _, World.drewN_drewN _ _ _⟩ | exact ⟨rfl, _, Eq.trans (World.drewN_drewN _ _ _) (congrArg (World.drewN _) (Nat.add_assoc _ _ _))⟩)) | (go_at_call 13; (with_reducible refine (skifflaw0_Num.calls t384 t386 _ A15.out).mono ?_); rintro e w' ⟨rfl, ⟨nd, rfl⟩⟩; (try first | exact ⟨rfl, _, World.drewN_drewN _ _ _⟩ | exact ⟨rfl, _, Eq.trans (World.drewN_drewN _ _ _) (congrArg (World.drewN _) (Nat.add_assoc _ _ _))⟩))); try go_wp2_with (first | (go_at_call 13; (with_reducible refine (skifflaw0_Num.calls t381 t385 _ A13.out).mono ?_); rintro e w' ⟨rfl, ⟨nd, rfl⟩⟩; (try first | exact ⟨rfl, _, World.drewN_drewN _ _ _⟩ | exact ⟨rfl, _, Eq.trans (World.drewN_drewN _ _ _) (congrArg (World.drewN _) (Nat.add_assoc _ _ _))⟩)) | (go_at_call 13; (with_reducible refine (skifflaw0_Num.calls t384 t386 _ A15.out).mono ?_); rintro e w' ⟨rfl, ⟨nd, rfl⟩⟩; (try first | exact ⟨rfl, _, World.drewN_drewN _ _ _⟩ | exact ⟨rfl, _, Eq.trans (World.drewN_drewN _ _ _) (congrArg (World.drewN _) (Nat.add_assoc _ _ _))⟩))))
      go_meet
      case rel => exact ⟨_, (((a0.size : Int) != 768)), q15_, H', ⟨by first | omega | exact Nat.le_refl _⟩, ⟨by (with_reducible repeat (first | refine blk_drewN ?_ _ | refine blk_drew ?_ | refine blk_alloc ?_ _)); exact BK382.out⟩, ⟨by repeat (first | (with_reducible first | exact HB.out | apply below_alloc | apply pw_below_drewN | apply below_drew1 | refine below_set ?_ GE382.out) | exact HB.out)⟩⟩
    ·rw [if_neg c16] at H
     have c16b0 : (t386 == 0) = false := beq_eq_false_iff_ne.mpr c16
     have c16b1 : (t386 != 0) = true := bne_iff_ne.mpr c16
     have H' := Aside0.mk H
     clear H
     go_wp2_with (first | (go_at_call 13; (with_reducible refine (skifflaw0_Num.calls t381 t385 _ A13.out).mono ?_); rintro e w' ⟨rfl, ⟨nd, rfl⟩⟩; (try first | exact ⟨rfl, _, World.drewN_drewN _ _ _⟩ | exact ⟨rfl, _, Eq.trans (World.drewN_drewN _ _ _) (congrArg (World.drewN _) (Nat.add_assoc _ _ _))⟩)) | (go_at_call 13; (with_reducible refine (skifflaw0_Num.calls t384 t386 _ A15.out).mono ?_); rintro e w' ⟨rfl, ⟨nd, rfl⟩⟩; (try first | exact ⟨rfl, _, World.drewN_drewN _ _ _⟩ | exact ⟨rfl, _, Eq.trans (World.drewN_drewN _ _ _) (congrArg (World.drewN _) (Nat.add_assoc _ _ _))⟩)))
     repeat (go_quiet (first | (go_at_call 13; (with_reducible refine (skifflaw0_Num.calls t381 t385 _ A13.out).mono ?_); rintro e w' ⟨rfl, ⟨nd, rfl⟩⟩; (try first | exact ⟨rfl, _, World.drewN_drewN _ _ _⟩ | exact ⟨rfl, _, Eq.trans (World.drewN_drewN _ _ _) (congrArg (World.drewN _) (Nat.add_assoc _ _ _))⟩)) | (go_at_call 13; (with_reducible refine (skifflaw0_Num.calls t384 t386 _ A15.out).mono ?_); rintro e w' ⟨rfl, ⟨nd, rfl⟩⟩; (try first | exact ⟨rfl, _, World.drewN_drewN _ _ _⟩ | exact ⟨rfl, _, Eq.trans (World.drewN_drewN _ _ _) (congrArg (World.drewN _) (Nat.add_assoc _ _ _))⟩))); try go_wp2_with (first | (go_at_call 13; (with_reducible refine (skifflaw0_Num.calls t381 t385 _ A13.out).mono ?_); rintro e w' ⟨rfl, ⟨nd, rfl⟩⟩; (try first | exact ⟨rfl, _, World.drewN_drewN _ _ _⟩ | exact ⟨rfl, _, Eq.trans (World.drewN_drewN _ _ _) (congrArg (World.drewN _) (Nat.add_assoc _ _ _))⟩)) | (go_at_call 13; (with_reducible refine (skifflaw0_Num.calls t384 t386 _ A15.out).mono ?_); rintro e w' ⟨rfl, ⟨nd, rfl⟩⟩; (try first | exact ⟨rfl, _, World.drewN_drewN _ _ _⟩ | exact ⟨rfl, _, Eq.trans (World.drewN_drewN _ _ _) (congrArg (World.drewN _) (Nat.add_assoc _ _ _))⟩))))
     go_meet
     case rel => exact ⟨_, (true), q15_, H', ⟨by first | omega | exact Nat.le_refl _⟩, ⟨by (with_reducible repeat (first | refine blk_drewN ?_ _ | refine blk_drew ?_ | refine blk_alloc ?_ _)); exact BK382.out⟩, ⟨by repeat (first | (with_reducible first | exact HB.out | apply below_alloc | apply pw_below_drewN | apply below_drew1 | refine below_set ?_ GE382.out) | exact HB.out)⟩⟩
   ·rw [if_neg c14] at H
    have c14b0 : (t385 == 0) = false := beq_eq_false_iff_ne.mpr c14
    have c14b1 : (t385 != 0) = true := bne_iff_ne.mpr c14
    (first | rw [c14b0] | (simp only [i64_w, i32_w]; rw [c14b0]) | skip)
    have H' := Aside0.mk H
    clear H
    go_wp2_with (first | (go_at_call 13; (with_reducible refine (skifflaw0_Num.calls t381 t385 _ A13.out).mono ?_); rintro e w' ⟨rfl, ⟨nd, rfl⟩⟩; (try first | exact ⟨rfl, _, World.drewN_drewN _ _ _⟩ | exact ⟨rfl, _, Eq.trans (World.drewN_drewN _ _ _) (congrArg (World.drewN _) (Nat.add_assoc _ _ _))⟩)))
    repeat (go_quiet (first | (go_at_call 13; (with_reducible refine (skifflaw0_Num.calls t381 t385 _ A13.out).mono ?_); rintro e w' ⟨rfl, ⟨nd, rfl⟩⟩; (try first | exact ⟨rfl, _, World.drewN_drewN _ _ _⟩ | exact ⟨rfl, _, Eq.trans (World.drewN_drewN _ _ _) (congrArg (World.drewN _) (Nat.add_assoc _ _ _))⟩))); try go_wp2_with (first | (go_at_call 13; (with_reducible refine (skifflaw0_Num.calls t381 t385 _ A13.out).mono ?_); rintro e w' ⟨rfl, ⟨nd, rfl⟩⟩; (try first | exact ⟨rfl, _, World.drewN_drewN _ _ _⟩ | exact ⟨rfl, _, Eq.trans (World.drewN_drewN _ _ _) (congrArg (World.drewN _) (Nat.add_assoc _ _ _))⟩))))
    go_meet
    case rel => exact ⟨_, (true), q15_, H', ⟨by first | omega | exact Nat.le_refl _⟩, ⟨by (with_reducible repeat (first | refine blk_drewN ?_ _ | refine blk_drew ?_ | refine blk_alloc ?_ _)); exact BK382.out⟩, ⟨by repeat (first | (with_reducible first | exact HB.out | apply below_alloc | apply pw_below_drewN | apply below_drew1 | refine below_set ?_ GE382.out) | exact HB.out)⟩⟩
  case rest =>
   clear HC7
   try clear c1
   try clear p2
   try clear c4
   try clear c6
   try clear c14
   try clear c14b0
   try clear c14b1
   try clear c16
   try clear c16b0
   try clear c16b1
   try clear c17
   try clear c17b0
   try clear c17b1
   try clear hcz11_0
   try clear hcz11_1
   try clear hcz11_2
   try clear hcz11_3
   try clear hcz11_4
   try clear hfz11_0
   try clear hfz11_1
   try clear hfz11_2
   try clear hfz11_3
   try clear hfz11_4
   obtain ⟨kq, x47_6, rfl, HA, HJ6, BK382, HB⟩ := hcut
   cases kq with
   | zero => exact absurd HA.out (by simp [skifflaw7_ChooseOther.j0])
   | succ kj6 =>
    have H := HA.out
    clear HA
    simp only [skifflaw7_ChooseOther.j0] at H
    by_cases c18 : x47_6 = true
    ·subst c18
     have H1 : ((skifflaw0_Num.f t381).bind fun t387 => (if t387 = 0 then ((skifflaw0_Num.f t384).bind fun t388 => (some (t388 == 0))) else (some true))) = some r := by rw [if_pos rfl] at H; exact H
     clear H
     have H := H1
     clear H1
     replace H := Option.bind_eq_some_iff.mp H
     obtain ⟨t387, A190, H⟩ := H
     replace H : (if t387 = 0 then ((skifflaw0_Num.f t384).bind fun t388 => (some (t388 == 0))) else (some true)) = some r := H
     have A19 := Aside0.mk A190
     clear A190
     by_cases c20 : t387 = 0
     ·rw [if_pos c20] at H
      have c20b0 : (t387 == 0) = true := beq_iff_eq.mpr c20
      have c20b1 : (t387 != 0) = false := bne_eq_false_iff_eq.mpr c20
      clear c20
      replace H := Option.bind_eq_some_iff.mp H
      obtain ⟨t388, A210, H⟩ := H
      replace H : (some (t388 == 0)) = some r := H
      have A21 := Aside0.mk A210
      clear A210
      obtain rfl := Option.some.inj H
      go_wp2_with (first | (go_at_call 13; (with_reducible refine (skifflaw0_Num.calls t381 t387 _ A19.out).mono ?_); rintro e w' ⟨rfl, ⟨nd, rfl⟩⟩; (try first | exact ⟨rfl, _, World.drewN_drewN _ _ _⟩ | exact ⟨rfl, _, Eq.trans (World.drewN_drewN _ _ _) (congrArg (World.drewN _) (Nat.add_assoc _ _ _))⟩)) | (go_at_call 13; (with_reducible refine (skifflaw0_Num.calls t384 t388 _ A21.out).mono ?_); rintro e w' ⟨rfl, ⟨nd, rfl⟩⟩; (try first | exact ⟨rfl, _, World.drewN_drewN _ _ _⟩ | exact ⟨rfl, _, Eq.trans (World.drewN_drewN _ _ _) (congrArg (World.drewN _) (Nat.add_assoc _ _ _))⟩)))
      repeat (go_quiet (first | (go_at_call 13; (with_reducible refine (skifflaw0_Num.calls t381 t387 _ A19.out).mono ?_); rintro e w' ⟨rfl, ⟨nd, rfl⟩⟩; (try first | exact ⟨rfl, _, World.drewN_drewN _ _ _⟩ | exact ⟨rfl, _, Eq.trans (World.drewN_drewN _ _ _) (congrArg (World.drewN _) (Nat.add_assoc _ _ _))⟩)) | (go_at_call 13; (with_reducible refine (skifflaw0_Num.calls t384 t388 _ A21.out).mono ?_); rintro e w' ⟨rfl, ⟨nd, rfl⟩⟩; (try first | exact ⟨rfl, _, World.drewN_drewN _ _ _⟩ | exact ⟨rfl, _, Eq.trans (World.drewN_drewN _ _ _) (congrArg (World.drewN _) (Nat.add_assoc _ _ _))⟩))); try go_wp2_with (first | (go_at_call 13; (with_reducible refine (skifflaw0_Num.calls t381 t387 _ A19.out).mono ?_); rintro e w' ⟨rfl, ⟨nd, rfl⟩⟩; (try first | exact ⟨rfl, _, World.drewN_drewN _ _ _⟩ | exact ⟨rfl, _, Eq.trans (World.drewN_drewN _ _ _) (congrArg (World.drewN _) (Nat.add_assoc _ _ _))⟩)) | (go_at_call 13; (with_reducible refine (skifflaw0_Num.calls t384 t388 _ A21.out).mono ?_); rintro e w' ⟨rfl, ⟨nd, rfl⟩⟩; (try first | exact ⟨rfl, _, World.drewN_drewN _ _ _⟩ | exact ⟨rfl, _, Eq.trans (World.drewN_drewN _ _ _) (congrArg (World.drewN _) (Nat.add_assoc _ _ _))⟩))))
      go_ret
      exact ⟨by first | rfl | (simp [errW_none, errW_some] <;> rfl) | (simp [*, errW_none, errW_some] <;> rfl), by repeat (first | (with_reducible first | exact HB.out | apply below_alloc | apply pw_below_drewN | apply below_drew1 | refine below_set ?_ GE382.out) | exact HB.out)⟩
     ·rw [if_neg c20] at H
      have c20b0 : (t387 == 0) = false := beq_eq_false_iff_ne.mpr c20
      have c20b1 : (t387 != 0) = true := bne_iff_ne.mpr c20
      obtain rfl := Option.some.inj H
      go_wp2_with (first | (go_at_call 13; (with_reducible refine (skifflaw0_Num.calls t381 t387 _ A19.out).mono ?_); rintro e w' ⟨rfl, ⟨nd, rfl⟩⟩; (try first | exact ⟨rfl, _, World.drewN_drewN _ _ _⟩ | exact ⟨rfl, _, Eq.trans (World.drewN_drewN _ _ _) (congrArg (World.drewN _) (Nat.add_assoc _ _ _))⟩)))
      repeat (go_quiet (first | (go_at_call 13; (with_reducible refine (skifflaw0_Num.calls t381 t387 _ A19.out).mono ?_); rintro e w' ⟨rfl, ⟨nd, rfl⟩⟩; (try first | exact ⟨rfl, _, World.drewN_drewN _ _ _⟩ | exact ⟨rfl, _, Eq.trans (World.drewN_drewN _ _ _) (congrArg (World.drewN _) (Nat.add_assoc _ _ _))⟩))); try go_wp2_with (first | (go_at_call 13; (with_reducible refine (skifflaw0_Num.calls t381 t387 _ A19.out).mono ?_); rintro e w' ⟨rfl, ⟨nd, rfl⟩⟩; (try first | exact ⟨rfl, _, World.drewN_drewN _ _ _⟩ | exact ⟨rfl, _, Eq.trans (World.drewN_drewN _ _ _) (congrArg (World.drewN _) (Nat.add_assoc _ _ _))⟩))))
      go_ret
      exact ⟨by first | rfl | (simp [errW_none, errW_some] <;> rfl) | (simp [*, errW_none, errW_some] <;> rfl), by repeat (first | (with_reducible first | exact HB.out | apply below_alloc | apply pw_below_drewN | apply below_drew1 | refine below_set ?_ GE382.out) | exact HB.out)⟩
    ·replace c18 := Bool.eq_false_iff.mpr c18
     subst c18
     have H1 : ((some (([192, 480] : List Int) : List Int)).bind fun y389 => (if 0 ≤ (Go.bits .and .i64 t383 1) then (if (Go.bits .and .i64 t383 1) < (y389.length : Int) then (if 0 ≤ (rd y389 (Go.bits .and .i64 t383 1)) then (if (rd y389 (Go.bits .and .i64 t383 1)) ≤ (a0.size : Int) then (if (a0.extract 0 ((rd y389 (Go.bits .and .i64 t383 1)) : Int).toNat).size + a1.size ≤ 9223372036854775807 then (if 0 ≤ (wrap64 ((rd y389 (Go.bits .and .i64 t383 1)) + (a1.size : Int))) then (if (wrap64 ((rd y389 (Go.bits .and .i64 t383 1)) + (a1.size : Int))) ≤ (a0.size : Int) then (if ((a0.extract 0 ((rd y389 (Go.bits .and .i64 t383 1)) : Int).toNat) ++ a1).size + (a0.extract ((wrap64 ((rd y389 (Go.bits .and .i64 t383 1)) + (a1.size : Int))) : Int).toNat a0.size).size ≤ 9223372036854775807 then ((skiffref1_Scan.f kj6 (((a0.extract 0 ((rd y389 (Go.bits .and .i64 t383 1)) : Int).toNat) ++ a1) ++ (a0.extract ((wrap64 ((rd y389 (Go.bits .and .i64 t383 1)) + (a1.size : Int))) : Int).toNat a0.size))).bind fun bt393 => (skifflaw7_ChooseOther.l0 kj6 t383 (((a0.extract 0 ((rd y389 (Go.bits .and .i64 t383 1)) : Int).toNat) ++ a1) ++ (a0.extract ((wrap64 ((rd y389 (Go.bits .and .i64 t383 1)) + (a1.size : Int))) : Int).toNat a0.size)) bt393.1 0 t376 t377 t378 t379 t380)) else (none)) else (none)) else (none)) else (none)) else (none)) else (none)) else (none)) else (none))) = some r := by rw [if_neg (show ¬ (false = true) by decide)] at H; exact H
     clear H
     have H := H1
     clear H1
     obtain ⟨y389, hy389⟩ : ∃ y_ : List Int, y_ = (([192, 480] : List Int)) := ⟨_, rfl⟩
     replace H : (if 0 ≤ (Go.bits .and .i64 t383 1) then (if (Go.bits .and .i64 t383 1) < (y389.length : Int) then (if 0 ≤ (rd y389 (Go.bits .and .i64 t383 1)) then (if (rd y389 (Go.bits .and .i64 t383 1)) ≤ (a0.size : Int) then (if (a0.extract 0 ((rd y389 (Go.bits .and .i64 t383 1)) : Int).toNat).size + a1.size ≤ 9223372036854775807 then (if 0 ≤ (wrap64 ((rd y389 (Go.bits .and .i64 t383 1)) + (a1.size : Int))) then (if (wrap64 ((rd y389 (Go.bits .and .i64 t383 1)) + (a1.size : Int))) ≤ (a0.size : Int) then (if ((a0.extract 0 ((rd y389 (Go.bits .and .i64 t383 1)) : Int).toNat) ++ a1).size + (a0.extract ((wrap64 ((rd y389 (Go.bits .and .i64 t383 1)) + (a1.size : Int))) : Int).toNat a0.size).size ≤ 9223372036854775807 then ((skiffref1_Scan.f kj6 (((a0.extract 0 ((rd y389 (Go.bits .and .i64 t383 1)) : Int).toNat) ++ a1) ++ (a0.extract ((wrap64 ((rd y389 (Go.bits .and .i64 t383 1)) + (a1.size : Int))) : Int).toNat a0.size))).bind fun bt393 => (skifflaw7_ChooseOther.l0 kj6 t383 (((a0.extract 0 ((rd y389 (Go.bits .and .i64 t383 1)) : Int).toNat) ++ a1) ++ (a0.extract ((wrap64 ((rd y389 (Go.bits .and .i64 t383 1)) + (a1.size : Int))) : Int).toNat a0.size)) bt393.1 0 t376 t377 t378 t379 t380)) else (none)) else (none)) else (none)) else (none)) else (none)) else (none)) else (none)) else (none)) = some r := by first | (rw [hy389]; with_reducible exact H) | (have H2_ := (Option.bind_some _ _).symm.trans H; rw [hy389]; with_reducible exact H2_) | (have H2_ := (Option.bind_some _ _).symm.trans H; with_reducible exact H2_) | with_reducible exact H | (rw [hy389]; exact H) | exact H
     have Ny389 := Aside0.mk hy389
     clear hy389
     by_cases c22 : 0 ≤ (Go.bits .and .i64 t383 1)
     ·rw [if_pos c22] at H
      have c22b0 : decide (0 ≤ (Go.bits .and .i64 t383 1)) = true := decide_eq_true c22
      clear c22
      by_cases c23 : (Go.bits .and .i64 t383 1) < (y389.length : Int)
      ·rw [if_pos c23] at H
       have c23b0 : decide ((Go.bits .and .i64 t383 1) < (y389.length : Int)) = true := decide_eq_true c23
       clear c23
       by_cases c24 : 0 ≤ (rd y389 (Go.bits .and .i64 t383 1))
       ·rw [if_pos c24] at H
        have c24b0 := eq_true c24
        have c24b1 : decide (0 ≤ (rd y389 (Go.bits .and .i64 t383 1))) = true := decide_eq_true c24
        clear c24
        by_cases c25 : (rd y389 (Go.bits .and .i64 t383 1)) ≤ (a0.size : Int)
        ·rw [if_pos c25] at H
         have c25b0 := eq_true c25
         have c25b1 : decide ((rd y389 (Go.bits .and .i64 t383 1)) ≤ (a0.size : Int)) = true := decide_eq_true c25
         clear c25
         by_cases c26 : (a0.extract 0 ((rd y389 (Go.bits .and .i64 t383 1)) : Int).toNat).size + a1.size ≤ 9223372036854775807
         ·rw [if_pos c26] at H
          have c26b0 := eq_true c26
          have c26b1 : decide ((a0.extract 0 ((rd y389 (Go.bits .and .i64 t383 1)) : Int).toNat).size + a1.size ≤ 9223372036854775807) = true := decide_eq_true c26
          try have c26b2 : (9223372036854775807 < (a0.extract 0 ((rd y389 (Go.bits .and .i64 t383 1)) : Int).toNat).size + a1.size) = False := eq_false (Nat.not_lt.2 c26)
          obtain ⟨ji27, hji27⟩ : ∃ j_ : Int, (wrap64 ((rd y389 (Go.bits .and .i64 t383 1)) + (a1.size : Int))) = j_ := ⟨_, rfl⟩
          replace H : (if 0 ≤ (ji27) then (if (ji27) ≤ (a0.size : Int) then (if ((a0.extract 0 ((rd y389 (Go.bits .and .i64 t383 1)) : Int).toNat) ++ a1).size + (a0.extract ((ji27) : Int).toNat a0.size).size ≤ 9223372036854775807 then ((skiffref1_Scan.f kj6 (((a0.extract 0 ((rd y389 (Go.bits .and .i64 t383 1)) : Int).toNat) ++ a1) ++ (a0.extract ((ji27) : Int).toNat a0.size))).bind fun bt393 => (skifflaw7_ChooseOther.l0 kj6 t383 (((a0.extract 0 ((rd y389 (Go.bits .and .i64 t383 1)) : Int).toNat) ++ a1) ++ (a0.extract ((ji27) : Int).toNat a0.size)) bt393.1 0 t376 t377 t378 t379 t380)) else (none)) else (none)) else (none)) = some r := by first | (rw [hji27] at H; exact H) | (simp only [hji27] at H ⊢; exact H)
          have hji27w : (IntKind.i64.wrap ((rd y389 (Go.bits .and .i64 t383 1)) + (a1.size : Int))) = ji27 := (i64_w _).trans hji27
          by_cases c28 : 0 ≤ (ji27)
          ·rw [if_pos c28] at H
           have c28b0 := eq_true c28
           have c28b1 : decide (0 ≤ (ji27)) = true := decide_eq_true c28
           clear c28
           by_cases c29 : (ji27) ≤ (a0.size : Int)
           ·rw [if_pos c29] at H
            have c29b0 := eq_true c29
            have c29b1 : decide ((ji27) ≤ (a0.size : Int)) = true := decide_eq_true c29
            clear c29
            by_cases c30 : ((a0.extract 0 ((rd y389 (Go.bits .and .i64 t383 1)) : Int).toNat) ++ a1).size + (a0.extract ((ji27) : Int).toNat a0.size).size ≤ 9223372036854775807
            ·rw [if_pos c30] at H
             have c30b0 := eq_true c30
             have c30b1 : decide (((a0.extract 0 ((rd y389 (Go.bits .and .i64 t383 1)) : Int).toNat) ++ a1).size + (a0.extract ((ji27) : Int).toNat a0.size).size ≤ 9223372036854775807) = true := decide_eq_true c30
             try have c30b2 : (9223372036854775807 < ((a0.extract 0 ((rd y389 (Go.bits .and .i64 t383 1)) : Int).toNat) ++ a1).size + (a0.extract ((ji27) : Int).toNat a0.size).size) = False := eq_false (Nat.not_lt.2 c30)
             replace H := Option.bind_eq_some_iff.mp H
             obtain ⟨⟨t393, t394⟩, A310, H⟩ := H
             replace H : (skifflaw7_ChooseOther.l0 kj6 t383 (((a0.extract 0 ((rd y389 (Go.bits .and .i64 t383 1)) : Int).toNat) ++ a1) ++ (a0.extract ((ji27) : Int).toNat a0.size)) t393 0 t376 t377 t378 t379 t380) = some r := H
             have A31 := Aside0.mk A310
             clear A310
             have H' := Aside0.mk H
             clear H
             go_wp2_with (first | ((with_reducible refine gate_dst (N := 56) rfl ?_); (try (refine gate_guard (by rfl) ?_; dsimp only)); refine Kd.R_lit (Kd.int .i64) _ 3 ?hg (N := 56) ?hd (xs := ([192, 480] : List Int)) (inner := [.int .i64 192, .int .i64 480]) (ok := fun _ => True) (okp := fun _ => True) ?hr ?hp (fun _ hk => hk) trivial (Below.refl _ _) (Nat.le_refl _) (by simp) ?_; (case hd => rfl); (case hg => rfl); (case hr => first | (go_simp; done) | (go_simp; rfl)); (case hp => exact (Reps.one (show Kd.M (Kd.int .i64) _ _ _ 192 [.int .i64 192] from rfl) (Reps.one (show Kd.M (Kd.int .i64) _ _ _ 480 [.int .i64 480] from rfl) (Reps.none _ _)))); intro v390 w32 ho33 hb hg_ hnew_; clear hg_ hnew_; (first | rw [← Ny389.out] at ho33 | (simp only [Int.reduceToNat] at ho33; rw [← Ny389.out] at ho33)); have n0_ := Aside0.mk (Kd.R_lower ho33 (below_size (by repeat (first | (with_reducible first | exact HB.out | apply below_alloc | apply pw_below_drewN | apply below_drew1 | refine below_set ?_ GE382.out) | exact HB.out)))); have n1_ := Aside0.mk (blk_below (g := gb382) (o := .cells #[.int .i64 t376, .int .i64 t377, .int .i64 t378, .int .i64 t379, .int .i64 t380] 25 (0, 0)) (by (with_reducible repeat (first | refine blk_drewN ?_ _ | refine blk_drew ?_ | refine blk_alloc ?_ _)); exact BK382.out) hb); have n2_ := Aside0.mk (below_step (by repeat (first | (with_reducible first | exact HB.out | apply below_alloc | apply pw_below_drewN | apply below_drew1 | refine below_set ?_ GE382.out) | exact HB.out)) hb); clear BK382; clear HB; have HO391 := n0_; have BK382 := n1_; have HB := n2_; clear n0_ n1_ n2_; clear hb ho33; obtain ⟨Ao34, co34, eo34⟩ := Kd.R_slice HO391.out; subst eo34; have p392 : 0 ≤ ((Go.bits .and .i64 t383 1) : Int) := of_decide_eq_true q13_; have q392 : (Go.bits .and .i64 t383 1) < (y389.length : Int) := of_decide_eq_true q13_; obtain ⟨ad392, e392, hx392_0⟩ := Kd.at_int (Kd.R_reads' HO391.out).2.2 (Go.bits .and .i64 t383 1) p392 q392; cases e392; replace p392 := eq_true p392; replace q392 := eq_true q392) | (go_at_call 15; (with_reducible refine (skiffref1_Scan.calls kj6 (((a0.extract 0 ((rd y389 (Go.bits .and .i64 t383 1)) : Int).toNat) ++ a1) ++ (a0.extract ((ji27) : Int).toNat a0.size)) t393 t394 _ A31.out).mono ?_); rintro e w35 ⟨v395, rfl, ho0, hb⟩; have n0_ := Aside0.mk (Kd.R_below (by (with_reducible repeat (first | apply Kd.R_alloc | apply Kd.R_drewN | apply Kd.R_drew)); exact HO391.out) hb); have n1_ := Aside0.mk (Kd.R_lower (Kd.R_newB ho0 (g := gb382) (o := .cells #[.int .i64 t376, .int .i64 t377, .int .i64 t378, .int .i64 t379, .int .i64 t380] 25 (0, 0)) (by (with_reducible repeat (first | refine blk_drewN ?_ _ | refine blk_drew ?_ | refine blk_alloc ?_ _)); exact BK382.out)) (below_size (by repeat (first | (with_reducible first | exact HB.out | apply below_alloc | apply pw_below_drewN | apply below_drew1 | refine below_set ?_ GE382.out) | exact HB.out)))); have n2_ := Aside0.mk (blk_below (g := gb382) (o := .cells #[.int .i64 t376, .int .i64 t377, .int .i64 t378, .int .i64 t379, .int .i64 t380] 25 (0, 0)) (by (with_reducible repeat (first | refine blk_drewN ?_ _ | refine blk_drew ?_ | refine blk_alloc ?_ _)); exact BK382.out) hb); have n3_ := Aside0.mk (below_step (by repeat (first | (with_reducible first | exact HB.out | apply below_alloc | apply pw_below_drewN | apply below_drew1 | refine below_set ?_ GE382.out) | exact HB.out)) hb); clear HO391; clear BK382; clear HB; have HO391 := n0_; have HO396 := n1_; have BK382 := n2_; have HB := n3_; clear n0_ n1_ n2_ n3_; (try clear hb); (try clear hb2); (try clear hk); (try clear hi); (try clear ho0)))
             repeat (go_quiet (first | ((with_reducible refine gate_dst (N := 56) rfl ?_); (try (refine gate_guard (by rfl) ?_; dsimp only)); refine Kd.R_lit (Kd.int .i64) _ 3 ?hg (N := 56) ?hd (xs := ([192, 480] : List Int)) (inner := [.int .i64 192, .int .i64 480]) (ok := fun _ => True) (okp := fun _ => True) ?hr ?hp (fun _ hk => hk) trivial (Below.refl _ _) (Nat.le_refl _) (by simp) ?_; (case hd => rfl); (case hg => rfl); (case hr => first | (go_simp; done) | (go_simp; rfl)); (case hp => exact (Reps.one (show Kd.M (Kd.int .i64) _ _ _ 192 [.int .i64 192] from rfl) (Reps.one (show Kd.M (Kd.int .i64) _ _ _ 480 [.int .i64 480] from rfl) (Reps.none _ _)))); intro v390 w32 ho33 hb hg_ hnew_; clear hg_ hnew_; (first | rw [← Ny389.out] at ho33 | (simp only [Int.reduceToNat] at ho33; rw [← Ny389.out] at ho33)); have n0_ := Aside0.mk (Kd.R_lower ho33 (below_size (by repeat (first | (with_reducible first | exact HB.out | apply below_alloc | apply pw_below_drewN | apply below_drew1 | refine below_set ?_ GE382.out) | exact HB.out)))); have n1_ := Aside0.mk (blk_below (g := gb382) (o := .cells #[.int .i64 t376, .int .i64 t377, .int .i64 t378, .int .i64 t379, .int .i64 t380] 25 (0, 0)) (by (with_reducible repeat (first | refine blk_drewN ?_ _ | refine blk_drew ?_ | refine blk_alloc ?_ _)); exact BK382.out) hb); have n2_ := Aside0.mk (below_step (by repeat (first | (with_reducible first | exact HB.out | apply below_alloc | apply pw_below_drewN | apply below_drew1 | refine below_set ?_ GE382.out) | exact HB.out)) hb); clear BK382; clear HB; have HO391 := n0_; have BK382 := n1_; have HB := n2_; clear n0_ n1_ n2_; clear hb ho33; obtain ⟨Ao34, co34, eo34⟩ := Kd.R_slice HO391.out; subst eo34; have p392 : 0 ≤ ((Go.bits .and .i64 t383 1) : Int) := of_decide_eq_true q13_; have q392 : (Go.bits .and .i64 t383 1) < (y389.length : Int) := of_decide_eq_true q13_; obtain ⟨ad392, e392, hx392_0⟩ := Kd.at_int (Kd.R_reads' HO391.out).2.2 (Go.bits .and .i64 t383 1) p392 q392; cases e392; replace p392 := eq_true p392; replace q392 := eq_true q392) | (go_at_call 15; (with_reducible refine (skiffref1_Scan.calls kj6 (((a0.extract 0 ((rd y389 (Go.bits .and .i64 t383 1)) : Int).toNat) ++ a1) ++ (a0.extract ((ji27) : Int).toNat a0.size)) t393 t394 _ A31.out).mono ?_); rintro e w35 ⟨v395, rfl, ho0, hb⟩; have n0_ := Aside0.mk (Kd.R_below (by (with_reducible repeat (first | apply Kd.R_alloc | apply Kd.R_drewN | apply Kd.R_drew)); exact HO391.out) hb); have n1_ := Aside0.mk (Kd.R_lower (Kd.R_newB ho0 (g := gb382) (o := .cells #[.int .i64 t376, .int .i64 t377, .int .i64 t378, .int .i64 t379, .int .i64 t380] 25 (0, 0)) (by (with_reducible repeat (first | refine blk_drewN ?_ _ | refine blk_drew ?_ | refine blk_alloc ?_ _)); exact BK382.out)) (below_size (by repeat (first | (with_reducible first | exact HB.out | apply below_alloc | apply pw_below_drewN | apply below_drew1 | refine below_set ?_ GE382.out) | exact HB.out)))); have n2_ := Aside0.mk (blk_below (g := gb382) (o := .cells #[.int .i64 t376, .int .i64 t377, .int .i64 t378, .int .i64 t379, .int .i64 t380] 25 (0, 0)) (by (with_reducible repeat (first | refine blk_drewN ?_ _ | refine blk_drew ?_ | refine blk_alloc ?_ _)); exact BK382.out) hb); have n3_ := Aside0.mk (below_step (by repeat (first | (with_reducible first | exact HB.out | apply below_alloc | apply pw_below_drewN | apply below_drew1 | refine below_set ?_ GE382.out) | exact HB.out)) hb); clear HO391; clear BK382; clear HB; have HO391 := n0_; have HO396 := n1_; have BK382 := n2_; have HB := n3_; clear n0_ n1_ n2_ n3_; (try clear hb); (try clear hb2); (try clear hk); (try clear hi); (try clear ho0))); try go_wp2_with (first | ((with_reducible refine gate_dst (N := 56) rfl ?_); (try (refine gate_guard (by rfl) ?_; dsimp only)); refine Kd.R_lit (Kd.int .i64) _ 3 ?hg (N := 56) ?hd (xs := ([192, 480] : List Int)) (inner := [.int .i64 192, .int .i64 480]) (ok := fun _ => True) (okp := fun _ => True) ?hr ?hp (fun _ hk => hk) trivial (Below.refl _ _) (Nat.le_refl _) (by simp) ?_; (case hd => rfl); (case hg => rfl); (case hr => first | (go_simp; done) | (go_simp; rfl)); (case hp => exact (Reps.one (show Kd.M (Kd.int .i64) _ _ _ 192 [.int .i64 192] from rfl) (Reps.one (show Kd.M (Kd.int .i64) _ _ _ 480 [.int .i64 480] from rfl) (Reps.none _ _)))); intro v390 w32 ho33 hb hg_ hnew_; clear hg_ hnew_; (first | rw [← Ny389.out] at ho33 | (simp only [Int.reduceToNat] at ho33; rw [← Ny389.out] at ho33)); have n0_ := Aside0.mk (Kd.R_lower ho33 (below_size (by repeat (first | (with_reducible first | exact HB.out | apply below_alloc | apply pw_below_drewN | apply below_drew1 | refine below_set ?_ GE382.out) | exact HB.out)))); have n1_ := Aside0.mk (blk_below (g := gb382) (o := .cells #[.int .i64 t376, .int .i64 t377, .int .i64 t378, .int .i64 t379, .int .i64 t380] 25 (0, 0)) (by (with_reducible repeat (first | refine blk_drewN ?_ _ | refine blk_drew ?_ | refine blk_alloc ?_ _)); exact BK382.out) hb); have n2_ := Aside0.mk (below_step (by repeat (first | (with_reducible first | exact HB.out | apply below_alloc | apply pw_below_drewN | apply below_drew1 | refine below_set ?_ GE382.out) | exact HB.out)) hb); clear BK382; clear HB; have HO391 := n0_; have BK382 := n1_; have HB := n2_; clear n0_ n1_ n2_; clear hb ho33; obtain ⟨Ao34, co34, eo34⟩ := Kd.R_slice HO391.out; subst eo34; have p392 : 0 ≤ ((Go.bits .and .i64 t383 1) : Int) := of_decide_eq_true q13_; have q392 : (Go.bits .and .i64 t383 1) < (y389.length : Int) := of_decide_eq_true q13_; obtain ⟨ad392, e392, hx392_0⟩ := Kd.at_int (Kd.R_reads' HO391.out).2.2 (Go.bits .and .i64 t383 1) p392 q392; cases e392; replace p392 := eq_true p392; replace q392 := eq_true q392) | (go_at_call 15; (with_reducible refine (skiffref1_Scan.calls kj6 (((a0.extract 0 ((rd y389 (Go.bits .and .i64 t383 1)) : Int).toNat) ++ a1) ++ (a0.extract ((ji27) : Int).toNat a0.size)) t393 t394 _ A31.out).mono ?_); rintro e w35 ⟨v395, rfl, ho0, hb⟩; have n0_ := Aside0.mk (Kd.R_below (by (with_reducible repeat (first | apply Kd.R_alloc | apply Kd.R_drewN | apply Kd.R_drew)); exact HO391.out) hb); have n1_ := Aside0.mk (Kd.R_lower (Kd.R_newB ho0 (g := gb382) (o := .cells #[.int .i64 t376, .int .i64 t377, .int .i64 t378, .int .i64 t379, .int .i64 t380] 25 (0, 0)) (by (with_reducible repeat (first | refine blk_drewN ?_ _ | refine blk_drew ?_ | refine blk_alloc ?_ _)); exact BK382.out)) (below_size (by repeat (first | (with_reducible first | exact HB.out | apply below_alloc | apply pw_below_drewN | apply below_drew1 | refine below_set ?_ GE382.out) | exact HB.out)))); have n2_ := Aside0.mk (blk_below (g := gb382) (o := .cells #[.int .i64 t376, .int .i64 t377, .int .i64 t378, .int .i64 t379, .int .i64 t380] 25 (0, 0)) (by (with_reducible repeat (first | refine blk_drewN ?_ _ | refine blk_drew ?_ | refine blk_alloc ?_ _)); exact BK382.out) hb); have n3_ := Aside0.mk (below_step (by repeat (first | (with_reducible first | exact HB.out | apply below_alloc | apply pw_below_drewN | apply below_drew1 | refine below_set ?_ GE382.out) | exact HB.out)) hb); clear HO391; clear BK382; clear HB; have HO391 := n0_; have HO396 := n1_; have BK382 := n2_; have HB := n3_; clear n0_ n1_ n2_ n3_; (try clear hb); (try clear hb2); (try clear hk); (try clear hi); (try clear ho0))))
             go_loopg [13] kj6 (fun kq v13 w' => ∃ (x13_2 : Int), v13 = .int .i64 x13_2 ∧ Aside0 (skifflaw7_ChooseOther.l0 kq t383 (((a0.extract 0 ((rd y389 (Go.bits .and .i64 t383 1)) : Int).toNat) ++ a1) ++ (a0.extract ((ji27) : Int).toNat a0.size)) t393 x13_2 t376 t377 t378 t379 t380 = some r) ∧ Aside0 (kq ≤ kj6) ∧ Aside0 (Kd.R k25 25 w' w.heap.size (fun k_ => k_ ≠ gb382) v395 t393) ∧ Aside0 (w'.heap[gb382]? = some (.cells #[.int .i64 t376, .int .i64 t377, .int .i64 t378, .int .i64 t379, .int .i64 t380] 25 (0, 0))) ∧ Aside0 (Below w.heap.size w w'))
             case atStart => exact ⟨(0), q15_, H', ⟨Nat.le_refl _⟩, ⟨by (with_reducible repeat (first | apply Kd.R_alloc | apply Kd.R_drewN | apply Kd.R_drew)); exact Kd.R_mono HO396.out (fun _ hk => hk.2)⟩, ⟨by (with_reducible repeat (first | refine blk_drewN ?_ _ | refine blk_drew ?_ | refine blk_alloc ?_ _)); exact BK382.out⟩, ⟨by repeat (first | (with_reducible first | exact HB.out | apply below_alloc | apply pw_below_drewN | apply below_drew1 | refine below_set ?_ GE382.out) | exact HB.out)⟩⟩
             case round =>
              clear H'
              try clear c1
              try clear c2
              try clear p2
              try clear c3
              try clear p3
              try clear q3
              try clear hx3
              try clear c4
              try clear c6
              try clear p6
              try clear c14
              try clear c14b0
              try clear c14b1
              try clear c16
              try clear c16b0
              try clear c16b1
              try clear c17
              try clear c17b0
              try clear c17b1
              try clear c18
              try clear c20
              try clear c20b0
              try clear c20b1
              try clear c22
              try clear c22b0
              try clear c23
              try clear c23b0
              try clear c24
              try clear c24b0
              try clear c24b1
              try clear c25
              try clear c25b0
              try clear c25b1
              try clear c26
              try clear c26b0
              try clear c26b1
              try clear c26b2
              try clear c28
              try clear c28b0
              try clear c28b1
              try clear c29
              try clear c29b0
              try clear c29b1
              try clear c30
              try clear c30b0
              try clear c30b1
              try clear c30b2
              try clear hcz11_0
              try clear hcz11_1
              try clear hcz11_2
              try clear hcz11_3
              try clear hcz11_4
              try clear hfz11_0
              try clear hfz11_1
              try clear hfz11_2
              try clear hfz11_3
              try clear hfz11_4
              try clear hx392_0
              try clear p2
              try clear p392
              try clear q392
              obtain ⟨x13_2, rfl, HA, HK2, HO_11, BK382, HB⟩ := hrel
              cases gk with
              | zero => exact absurd HA.out (by simp [skifflaw7_ChooseOther.l0])
              | succ k2 =>
               have H := HA.out
               clear HA
               simp only [skifflaw7_ChooseOther.l0] at H
               by_cases c36 : x13_2 < (t393.length : Int)
               ·rw [if_pos c36] at H
                have c36b0 : decide (x13_2 < (t393.length : Int)) = true := decide_eq_true c36
                clear c36
                by_cases c37 : 0 ≤ x13_2
                ·rw [if_pos c37] at H
                 have c37b0 : decide (0 ≤ x13_2) = true := decide_eq_true c37
                 clear c37
                 replace H := Option.bind_eq_some_iff.mp H
                 obtain ⟨⟨t398, t399⟩, A380, H⟩ := H
                 replace H : (if t398 = true then (if (!(((rd_T25 t393 x13_2).f0) == t376) || ((!(((rd_T25 t393 x13_2).f1.f0) == t377) || (!(((rd_T25 t393 x13_2).f1.f1) == t378) || (!(((rd_T25 t393 x13_2).f1.f2) == t379) || (!(((rd_T25 t393 x13_2).f1.f3) == t380))))))) = true then (if ((rd_T25 t393 x13_2).f1.f0) ≥ t377 then (some true) else (skifflaw7_ChooseOther.l0 k2 t383 (((a0.extract 0 ((rd y389 (Go.bits .and .i64 t383 1)) : Int).toNat) ++ a1) ++ (a0.extract ((ji27) : Int).toNat a0.size)) t393 (wrap64 (x13_2 + 1)) t376 t377 t378 t379 t380)) else (skifflaw7_ChooseOther.l0 k2 t383 (((a0.extract 0 ((rd y389 (Go.bits .and .i64 t383 1)) : Int).toNat) ++ a1) ++ (a0.extract ((ji27) : Int).toNat a0.size)) t393 (wrap64 (x13_2 + 1)) t376 t377 t378 t379 t380)) else (skifflaw7_ChooseOther.l0 k2 t383 (((a0.extract 0 ((rd y389 (Go.bits .and .i64 t383 1)) : Int).toNat) ++ a1) ++ (a0.extract ((ji27) : Int).toNat a0.size)) t393 (wrap64 (x13_2 + 1)) t376 t377 t378 t379 t380)) = some r := H
                 have A38 := Aside0.mk A380
                 clear A380
                 by_cases c39 : t398 = true
                 ·subst c39
                  have H1 : (if (!(((rd_T25 t393 x13_2).f0) == t376) || ((!(((rd_T25 t393 x13_2).f1.f0) == t377) || (!(((rd_T25 t393 x13_2).f1.f1) == t378) || (!(((rd_T25 t393 x13_2).f1.f2) == t379) || (!(((rd_T25 t393 x13_2).f1.f3) == t380))))))) = true then (if ((rd_T25 t393 x13_2).f1.f0) ≥ t377 then (some true) else (skifflaw7_ChooseOther.l0 k2 t383 (((a0.extract 0 ((rd y389 (Go.bits .and .i64 t383 1)) : Int).toNat) ++ a1) ++ (a0.extract ((ji27) : Int).toNat a0.size)) t393 (wrap64 (x13_2 + 1)) t376 t377 t378 t379 t380)) else (skifflaw7_ChooseOther.l0 k2 t383 (((a0.extract 0 ((rd y389 (Go.bits .and .i64 t383 1)) : Int).toNat) ++ a1) ++ (a0.extract ((ji27) : Int).toNat a0.size)) t393 (wrap64 (x13_2 + 1)) t376 t377 t378 t379 t380)) = some r := by rw [if_pos rfl] at H; exact H
                  clear H
                  have H := H1
                  clear H1
                  by_cases c40 : (!(((rd_T25 t393 x13_2).f0) == t376) || ((!(((rd_T25 t393 x13_2).f1.f0) == t377) || (!(((rd_T25 t393 x13_2).f1.f1) == t378) || (!(((rd_T25 t393 x13_2).f1.f2) == t379) || (!(((rd_T25 t393 x13_2).f1.f3) == t380))))))) = true
                  ·rw [if_pos c40] at H
                   have c40b0 : (!(((rd_T25 t393 x13_2).f0) == t376) || ((!(((rd_T25 t393 x13_2).f1.f0) == t377) || (!(((rd_T25 t393 x13_2).f1.f1) == t378) || (!(((rd_T25 t393 x13_2).f1.f2) == t379) || (!(((rd_T25 t393 x13_2).f1.f3) == t380))))))) = true := c40
                   clear c40
                   by_cases c41 : ((rd_T25 t393 x13_2).f1.f0) ≥ t377
                   ·rw [if_pos c41] at H
                    have c41b0 : decide (t377 ≤ ((rd_T25 t393 x13_2).f1.f0)) = true := decide_eq_true c41
                    clear c41
                    obtain rfl := Option.some.inj H
                    obtain ⟨Ao42, co42, eo42⟩ := Kd.R_slice HO_11.out
                    subst eo42
                    have p397 : 0 ≤ (x13_2 : Int) := of_decide_eq_true q13_
                    have q397 : x13_2 < (t393.length : Int) := of_decide_eq_true q13_
                    obtain ⟨ad397, e397, hx397_0, hx397_1, hx397_2, hx397_3, hx397_4⟩ := at_T25 (Kd.R_reads' HO_11.out).2.2 x13_2 p397 q397
                    cases e397
                    replace p397 := eq_true p397
                    replace q397 := eq_true q397
                    go_wp2_with (first | (go_at_call 16; (with_reducible refine (skiffref1_Good.calls k2 (((a0.extract 0 ((rd y389 (Go.bits .and .i64 t383 1)) : Int).toNat) ++ a1) ++ (a0.extract ((ji27) : Int).toNat a0.size)) ((rd_T25 t393 x13_2).f1.f0) ((rd_T25 t393 x13_2).f1.f1) ((rd_T25 t393 x13_2).f1.f2) ((rd_T25 t393 x13_2).f1.f3) true t399 _ A38.out).mono ?_); rintro e w43 ⟨rfl, hb⟩; have n0_ := Aside0.mk (Kd.R_below q37_ hb); have n1_ := Aside0.mk (blk_below (g := gb382) (o := .cells #[.int .i64 t376, .int .i64 t377, .int .i64 t378, .int .i64 t379, .int .i64 t380] 25 (0, 0)) (by (with_reducible repeat (first | refine blk_drewN ?_ _ | refine blk_drew ?_ | refine blk_alloc ?_ _)); exact BK382.out) hb); have n2_ := Aside0.mk (below_step (by repeat (first | (with_reducible first | exact HB.out | apply below_alloc | apply pw_below_drewN | apply below_drew1 | refine below_set ?_ GE382.out) | exact HB.out)) hb); clear HO_11; clear BK382; clear HB; have HO_11 := n0_; have BK382 := n1_; have HB := n2_; clear n0_ n1_ n2_; (try clear hb); (try clear hb2); (try clear hk); (try clear hi); have p400 : 0 ≤ (x13_2 : Int) := of_decide_eq_true q13_; have q400 : x13_2 < (t393.length : Int) := of_decide_eq_true q13_; obtain ⟨ad400, e400, hx400_0, hx400_1, hx400_2, hx400_3, hx400_4⟩ := at_T25 (Kd.R_reads' HO_11.out).2.2 x13_2 p400 q400; obtain rfl : ad397 = ad400 := (by injection e400); replace p400 := eq_true p400; replace q400 := eq_true q400; have hcz44_0 : w43.cell? ⟨gb382, 0, none⟩ = some (.int .i64 t376) := (blk_cell BK382.out 0).trans rfl; have hcz44_1 : w43.cell? ⟨gb382, 1, none⟩ = some (.int .i64 t377) := (blk_cell BK382.out 1).trans rfl; have hcz44_2 : w43.cell? ⟨gb382, 2, none⟩ = some (.int .i64 t378) := (blk_cell BK382.out 2).trans rfl; have hcz44_3 : w43.cell? ⟨gb382, 3, none⟩ = some (.int .i64 t379) := (blk_cell BK382.out 3).trans rfl; have hcz44_4 : w43.cell? ⟨gb382, 4, none⟩ = some (.int .i64 t380) := (blk_cell BK382.out 4).trans rfl; have hfz44_0 := blk_frozen BK382.out 0; have hfz44_1 := blk_frozen BK382.out 1; have hfz44_2 := blk_frozen BK382.out 2; have hfz44_3 := blk_frozen BK382.out 3; have hfz44_4 := blk_frozen BK382.out 4; have p401 : 0 ≤ (x13_2 : Int) := of_decide_eq_true q13_; have q401 : x13_2 < (t393.length : Int) := of_decide_eq_true q13_; obtain ⟨ad401, e401, hx401_0, hx401_1, hx401_2, hx401_3, hx401_4⟩ := at_T25 (Kd.R_reads' HO_11.out).2.2 x13_2 p401 q401; obtain rfl : ad397 = ad401 := (by injection e401); replace p401 := eq_true p401; replace q401 := eq_true q401))
                    repeat (go_quiet (first | (go_at_call 16; (with_reducible refine (skiffref1_Good.calls k2 (((a0.extract 0 ((rd y389 (Go.bits .and .i64 t383 1)) : Int).toNat) ++ a1) ++ (a0.extract ((ji27) : Int).toNat a0.size)) ((rd_T25 t393 x13_2).f1.f0) ((rd_T25 t393 x13_2).f1.f1) ((rd_T25 t393 x13_2).f1.f2) ((rd_T25 t393 x13_2).f1.f3) true t399 _ A38.out).mono ?_); rintro e w43 ⟨rfl, hb⟩; have n0_ := Aside0.mk (Kd.R_below q37_ hb); have n1_ := Aside0.mk (blk_below (g := gb382) (o := .cells #[.int .i64 t376, .int .i64 t377, .int .i64 t378, .int .i64 t379, .int .i64 t380] 25 (0, 0)) (by (with_reducible repeat (first | refine blk_drewN ?_ _ | refine blk_drew ?_ | refine blk_alloc ?_ _)); exact BK382.out) hb); have n2_ := Aside0.mk (below_step (by repeat (first | (with_reducible first | exact HB.out | apply below_alloc | apply pw_below_drewN | apply below_drew1 | refine below_set ?_ GE382.out) | exact HB.out)) hb); clear HO_11; clear BK382; clear HB; have HO_11 := n0_; have BK382 := n1_; have HB := n2_; clear n0_ n1_ n2_; (try clear hb); (try clear hb2); (try clear hk); (try clear hi); have p400 : 0 ≤ (x13_2 : Int) := of_decide_eq_true q13_; have q400 : x13_2 < (t393.length : Int) := of_decide_eq_true q13_; obtain ⟨ad400, e400, hx400_0, hx400_1, hx400_2, hx400_3, hx400_4⟩ := at_T25 (Kd.R_reads' HO_11.out).2.2 x13_2 p400 q400; obtain rfl : ad397 = ad400 := (by injection e400); replace p400 := eq_true p400; replace q400 := eq_true q400; have hcz44_0 : w43.cell? ⟨gb382, 0, none⟩ = some (.int .i64 t376) := (blk_cell BK382.out 0).trans rfl; have hcz44_1 : w43.cell? ⟨gb382, 1, none⟩ = some (.int .i64 t377) := (blk_cell BK382.out 1).trans rfl; have hcz44_2 : w43.cell? ⟨gb382, 2, none⟩ = some (.int .i64 t378) := (blk_cell BK382.out 2).trans rfl; have hcz44_3 : w43.cell? ⟨gb382, 3, none⟩ = some (.int .i64 t379) := (blk_cell BK382.out 3).trans rfl; have hcz44_4 : w43.cell? ⟨gb382, 4, none⟩ = some (.int .i64 t380) := (blk_cell BK382.out 4).trans rfl; have hfz44_0 := blk_frozen BK382.out 0; have hfz44_1 := blk_frozen BK382.out 1; have hfz44_2 := blk_frozen BK382.out 2; have hfz44_3 := blk_frozen BK382.out 3; have hfz44_4 := blk_frozen BK382.out 4; have p401 : 0 ≤ (x13_2 : Int) := of_decide_eq_true q13_; have q401 : x13_2 < (t393.length : Int) := of_decide_eq_true q13_; obtain ⟨ad401, e401, hx401_0, hx401_1, hx401_2, hx401_3, hx401_4⟩ := at_T25 (Kd.R_reads' HO_11.out).2.2 x13_2 p401 q401; obtain rfl : ad397 = ad401 := (by injection e401); replace p401 := eq_true p401; replace q401 := eq_true q401)); try go_wp2_with (first | (go_at_call 16; (with_reducible refine (skiffref1_Good.calls k2 (((a0.extract 0 ((rd y389 (Go.bits .and .i64 t383 1)) : Int).toNat) ++ a1) ++ (a0.extract ((ji27) : Int).toNat a0.size)) ((rd_T25 t393 x13_2).f1.f0) ((rd_T25 t393 x13_2).f1.f1) ((rd_T25 t393 x13_2).f1.f2) ((rd_T25 t393 x13_2).f1.f3) true t399 _ A38.out).mono ?_); rintro e w43 ⟨rfl, hb⟩; have n0_ := Aside0.mk (Kd.R_below q37_ hb); have n1_ := Aside0.mk (blk_below (g := gb382) (o := .cells #[.int .i64 t376, .int .i64 t377, .int .i64 t378, .int .i64 t379, .int .i64 t380] 25 (0, 0)) (by (with_reducible repeat (first | refine blk_drewN ?_ _ | refine blk_drew ?_ | refine blk_alloc ?_ _)); exact BK382.out) hb); have n2_ := Aside0.mk (below_step (by repeat (first | (with_reducible first | exact HB.out | apply below_alloc | apply pw_below_drewN | apply below_drew1 | refine below_set ?_ GE382.out) | exact HB.out)) hb); clear HO_11; clear BK382; clear HB; have HO_11 := n0_; have BK382 := n1_; have HB := n2_; clear n0_ n1_ n2_; (try clear hb); (try clear hb2); (try clear hk); (try clear hi); have p400 : 0 ≤ (x13_2 : Int) := of_decide_eq_true q13_; have q400 : x13_2 < (t393.length : Int) := of_decide_eq_true q13_; obtain ⟨ad400, e400, hx400_0, hx400_1, hx400_2, hx400_3, hx400_4⟩ := at_T25 (Kd.R_reads' HO_11.out).2.2 x13_2 p400 q400; obtain rfl : ad397 = ad400 := (by injection e400); replace p400 := eq_true p400; replace q400 := eq_true q400; have hcz44_0 : w43.cell? ⟨gb382, 0, none⟩ = some (.int .i64 t376) := (blk_cell BK382.out 0).trans rfl; have hcz44_1 : w43.cell? ⟨gb382, 1, none⟩ = some (.int .i64 t377) := (blk_cell BK382.out 1).trans rfl; have hcz44_2 : w43.cell? ⟨gb382, 2, none⟩ = some (.int .i64 t378) := (blk_cell BK382.out 2).trans rfl; have hcz44_3 : w43.cell? ⟨gb382, 3, none⟩ = some (.int .i64 t379) := (blk_cell BK382.out 3).trans rfl; have hcz44_4 : w43.cell? ⟨gb382, 4, none⟩ = some (.int .i64 t380) := (blk_cell BK382.out 4).trans rfl; have hfz44_0 := blk_frozen BK382.out 0; have hfz44_1 := blk_frozen BK382.out 1; have hfz44_2 := blk_frozen BK382.out 2; have hfz44_3 := blk_frozen BK382.out 3; have hfz44_4 := blk_frozen BK382.out 4; have p401 : 0 ≤ (x13_2 : Int) := of_decide_eq_true q13_; have q401 : x13_2 < (t393.length : Int) := of_decide_eq_true q13_; obtain ⟨ad401, e401, hx401_0, hx401_1, hx401_2, hx401_3, hx401_4⟩ := at_T25 (Kd.R_reads' HO_11.out).2.2 x13_2 p401 q401; obtain rfl : ad397 = ad401 := (by injection e401); replace p401 := eq_true p401; replace q401 := eq_true q401)))
                    go_ret
                    exact ⟨by first | rfl | (simp [errW_none, errW_some] <;> rfl) | (simp only [← hji27]; first | rfl | (simp [errW_none, errW_some] <;> rfl)) | (simp [*, errW_none, errW_some] <;> rfl), by repeat (first | (with_reducible first | exact HB.out | apply below_alloc | apply pw_below_drewN | apply below_drew1 | refine below_set ?_ GE382.out) | exact HB.out)⟩
                   ·rw [if_neg c41] at H
                    have c41b0 : decide (t377 ≤ ((rd_T25 t393 x13_2).f1.f0)) = false := decide_eq_false c41
                    clear c41
                    have H' := Aside0.mk H
                    clear H
                    obtain ⟨Ao45, co45, eo45⟩ := Kd.R_slice HO_11.out
                    subst eo45
                    have p397 : 0 ≤ (x13_2 : Int) := of_decide_eq_true q13_
                    have q397 : x13_2 < (t393.length : Int) := of_decide_eq_true q13_
                    obtain ⟨ad397, e397, hx397_0, hx397_1, hx397_2, hx397_3, hx397_4⟩ := at_T25 (Kd.R_reads' HO_11.out).2.2 x13_2 p397 q397
                    cases e397
                    replace p397 := eq_true p397
                    replace q397 := eq_true q397
                    go_wp2_with (first | (go_at_call 16; (with_reducible refine (skiffref1_Good.calls k2 (((a0.extract 0 ((rd y389 (Go.bits .and .i64 t383 1)) : Int).toNat) ++ a1) ++ (a0.extract ((ji27) : Int).toNat a0.size)) ((rd_T25 t393 x13_2).f1.f0) ((rd_T25 t393 x13_2).f1.f1) ((rd_T25 t393 x13_2).f1.f2) ((rd_T25 t393 x13_2).f1.f3) true t399 _ A38.out).mono ?_); rintro e w46 ⟨rfl, hb⟩; have n0_ := Aside0.mk (Kd.R_below q37_ hb); have n1_ := Aside0.mk (blk_below (g := gb382) (o := .cells #[.int .i64 t376, .int .i64 t377, .int .i64 t378, .int .i64 t379, .int .i64 t380] 25 (0, 0)) (by (with_reducible repeat (first | refine blk_drewN ?_ _ | refine blk_drew ?_ | refine blk_alloc ?_ _)); exact BK382.out) hb); have n2_ := Aside0.mk (below_step (by repeat (first | (with_reducible first | exact HB.out | apply below_alloc | apply pw_below_drewN | apply below_drew1 | refine below_set ?_ GE382.out) | exact HB.out)) hb); clear HO_11; clear BK382; clear HB; have HO_11 := n0_; have BK382 := n1_; have HB := n2_; clear n0_ n1_ n2_; (try clear hb); (try clear hb2); (try clear hk); (try clear hi); have p400 : 0 ≤ (x13_2 : Int) := of_decide_eq_true q13_; have q400 : x13_2 < (t393.length : Int) := of_decide_eq_true q13_; obtain ⟨ad400, e400, hx400_0, hx400_1, hx400_2, hx400_3, hx400_4⟩ := at_T25 (Kd.R_reads' HO_11.out).2.2 x13_2 p400 q400; obtain rfl : ad397 = ad400 := (by injection e400); replace p400 := eq_true p400; replace q400 := eq_true q400; have hcz47_0 : w46.cell? ⟨gb382, 0, none⟩ = some (.int .i64 t376) := (blk_cell BK382.out 0).trans rfl; have hcz47_1 : w46.cell? ⟨gb382, 1, none⟩ = some (.int .i64 t377) := (blk_cell BK382.out 1).trans rfl; have hcz47_2 : w46.cell? ⟨gb382, 2, none⟩ = some (.int .i64 t378) := (blk_cell BK382.out 2).trans rfl; have hcz47_3 : w46.cell? ⟨gb382, 3, none⟩ = some (.int .i64 t379) := (blk_cell BK382.out 3).trans rfl; have hcz47_4 : w46.cell? ⟨gb382, 4, none⟩ = some (.int .i64 t380) := (blk_cell BK382.out 4).trans rfl; have hfz47_0 := blk_frozen BK382.out 0; have hfz47_1 := blk_frozen BK382.out 1; have hfz47_2 := blk_frozen BK382.out 2; have hfz47_3 := blk_frozen BK382.out 3; have hfz47_4 := blk_frozen BK382.out 4; have p401 : 0 ≤ (x13_2 : Int) := of_decide_eq_true q13_; have q401 : x13_2 < (t393.length : Int) := of_decide_eq_true q13_; obtain ⟨ad401, e401, hx401_0, hx401_1, hx401_2, hx401_3, hx401_4⟩ := at_T25 (Kd.R_reads' HO_11.out).2.2 x13_2 p401 q401; obtain rfl : ad397 = ad401 := (by injection e401); replace p401 := eq_true p401; replace q401 := eq_true q401))
                    repeat (go_quiet (first | (go_at_call 16; (with_reducible refine (skiffref1_Good.calls k2 (((a0.extract 0 ((rd y389 (Go.bits .and .i64 t383 1)) : Int).toNat) ++ a1) ++ (a0.extract ((ji27) : Int).toNat a0.size)) ((rd_T25 t393 x13_2).f1.f0) ((rd_T25 t393 x13_2).f1.f1) ((rd_T25 t393 x13_2).f1.f2) ((rd_T25 t393 x13_2).f1.f3) true t399 _ A38.out).mono ?_); rintro e w46 ⟨rfl, hb⟩; have n0_ := Aside0.mk (Kd.R_below q37_ hb); have n1_ := Aside0.mk (blk_below (g := gb382) (o := .cells #[.int .i64 t376, .int .i64 t377, .int .i64 t378, .int .i64 t379, .int .i64 t380] 25 (0, 0)) (by (with_reducible repeat (first | refine blk_drewN ?_ _ | refine blk_drew ?_ | refine blk_alloc ?_ _)); exact BK382.out) hb); have n2_ := Aside0.mk (below_step (by repeat (first | (with_reducible first | exact HB.out | apply below_alloc | apply pw_below_drewN | apply below_drew1 | refine below_set ?_ GE382.out) | exact HB.out)) hb); clear HO_11; clear BK382; clear HB; have HO_11 := n0_; have BK382 := n1_; have HB := n2_; clear n0_ n1_ n2_; (try clear hb); (try clear hb2); (try clear hk); (try clear hi); have p400 : 0 ≤ (x13_2 : Int) := of_decide_eq_true q13_; have q400 : x13_2 < (t393.length : Int) := of_decide_eq_true q13_; obtain ⟨ad400, e400, hx400_0, hx400_1, hx400_2, hx400_3, hx400_4⟩ := at_T25 (Kd.R_reads' HO_11.out).2.2 x13_2 p400 q400; obtain rfl : ad397 = ad400 := (by injection e400); replace p400 := eq_true p400; replace q400 := eq_true q400; have hcz47_0 : w46.cell? ⟨gb382, 0, none⟩ = some (.int .i64 t376) := (blk_cell BK382.out 0).trans rfl; have hcz47_1 : w46.cell? ⟨gb382, 1, none⟩ = some (.int .i64 t377) := (blk_cell BK382.out 1).trans rfl; have hcz47_2 : w46.cell? ⟨gb382, 2, none⟩ = some (.int .i64 t378) := (blk_cell BK382.out 2).trans rfl; have hcz47_3 : w46.cell? ⟨gb382, 3, none⟩ = some (.int .i64 t379) := (blk_cell BK382.out 3).trans rfl; have hcz47_4 : w46.cell? ⟨gb382, 4, none⟩ = some (.int .i64 t380) := (blk_cell BK382.out 4).trans rfl; have hfz47_0 := blk_frozen BK382.out 0; have hfz47_1 := blk_frozen BK382.out 1; have hfz47_2 := blk_frozen BK382.out 2; have hfz47_3 := blk_frozen BK382.out 3; have hfz47_4 := blk_frozen BK382.out 4; have p401 : 0 ≤ (x13_2 : Int) := of_decide_eq_true q13_; have q401 : x13_2 < (t393.length : Int) := of_decide_eq_true q13_; obtain ⟨ad401, e401, hx401_0, hx401_1, hx401_2, hx401_3, hx401_4⟩ := at_T25 (Kd.R_reads' HO_11.out).2.2 x13_2 p401 q401; obtain rfl : ad397 = ad401 := (by injection e401); replace p401 := eq_true p401; replace q401 := eq_true q401)); try go_wp2_with (first | (go_at_call 16; (with_reducible refine (skiffref1_Good.calls k2 (((a0.extract 0 ((rd y389 (Go.bits .and .i64 t383 1)) : Int).toNat) ++ a1) ++ (a0.extract ((ji27) : Int).toNat a0.size)) ((rd_T25 t393 x13_2).f1.f0) ((rd_T25 t393 x13_2).f1.f1) ((rd_T25 t393 x13_2).f1.f2) ((rd_T25 t393 x13_2).f1.f3) true t399 _ A38.out).mono ?_); rintro e w46 ⟨rfl, hb⟩; have n0_ := Aside0.mk (Kd.R_below q37_ hb); have n1_ := Aside0.mk (blk_below (g := gb382) (o := .cells #[.int .i64 t376, .int .i64 t377, .int .i64 t378, .int .i64 t379, .int .i64 t380] 25 (0, 0)) (by (with_reducible repeat (first | refine blk_drewN ?_ _ | refine blk_drew ?_ | refine blk_alloc ?_ _)); exact BK382.out) hb); have n2_ := Aside0.mk (below_step (by repeat (first | (with_reducible first | exact HB.out | apply below_alloc | apply pw_below_drewN | apply below_drew1 | refine below_set ?_ GE382.out) | exact HB.out)) hb); clear HO_11; clear BK382; clear HB; have HO_11 := n0_; have BK382 := n1_; have HB := n2_; clear n0_ n1_ n2_; (try clear hb); (try clear hb2); (try clear hk); (try clear hi); have p400 : 0 ≤ (x13_2 : Int) := of_decide_eq_true q13_; have q400 : x13_2 < (t393.length : Int) := of_decide_eq_true q13_; obtain ⟨ad400, e400, hx400_0, hx400_1, hx400_2, hx400_3, hx400_4⟩ := at_T25 (Kd.R_reads' HO_11.out).2.2 x13_2 p400 q400; obtain rfl : ad397 = ad400 := (by injection e400); replace p400 := eq_true p400; replace q400 := eq_true q400; have hcz47_0 : w46.cell? ⟨gb382, 0, none⟩ = some (.int .i64 t376) := (blk_cell BK382.out 0).trans rfl; have hcz47_1 : w46.cell? ⟨gb382, 1, none⟩ = some (.int .i64 t377) := (blk_cell BK382.out 1).trans rfl; have hcz47_2 : w46.cell? ⟨gb382, 2, none⟩ = some (.int .i64 t378) := (blk_cell BK382.out 2).trans rfl; have hcz47_3 : w46.cell? ⟨gb382, 3, none⟩ = some (.int .i64 t379) := (blk_cell BK382.out 3).trans rfl; have hcz47_4 : w46.cell? ⟨gb382, 4, none⟩ = some (.int .i64 t380) := (blk_cell BK382.out 4).trans rfl; have hfz47_0 := blk_frozen BK382.out 0; have hfz47_1 := blk_frozen BK382.out 1; have hfz47_2 := blk_frozen BK382.out 2; have hfz47_3 := blk_frozen BK382.out 3; have hfz47_4 := blk_frozen BK382.out 4; have p401 : 0 ≤ (x13_2 : Int) := of_decide_eq_true q13_; have q401 : x13_2 < (t393.length : Int) := of_decide_eq_true q13_; obtain ⟨ad401, e401, hx401_0, hx401_1, hx401_2, hx401_3, hx401_4⟩ := at_T25 (Kd.R_reads' HO_11.out).2.2 x13_2 p401 q401; obtain rfl : ad397 = ad401 := (by injection e401); replace p401 := eq_true p401; replace q401 := eq_true q401)))
                    go_roundg k2
                    case measure => have := HJ6.out; have := HK2.out; omega
                    case rel => exact ⟨(wrap64 (x13_2 + 1)), q15_, H', ⟨by have := HJ6.out; have := HK2.out; omega⟩, ⟨by (with_reducible repeat (first | apply Kd.R_alloc | apply Kd.R_drewN | apply Kd.R_drew)); exact HO_11.out⟩, ⟨by (with_reducible repeat (first | refine blk_drewN ?_ _ | refine blk_drew ?_ | refine blk_alloc ?_ _)); exact BK382.out⟩, ⟨by repeat (first | (with_reducible first | exact HB.out | apply below_alloc | apply pw_below_drewN | apply below_drew1 | refine below_set ?_ GE382.out) | exact HB.out)⟩⟩
                  ·rw [if_neg c40] at H
                   have c40b0 : (!(((rd_T25 t393 x13_2).f0) == t376) || ((!(((rd_T25 t393 x13_2).f1.f0) == t377) || (!(((rd_T25 t393 x13_2).f1.f1) == t378) || (!(((rd_T25 t393 x13_2).f1.f2) == t379) || (!(((rd_T25 t393 x13_2).f1.f3) == t380))))))) = false := by simpa using c40
                   clear c40
                   have H' := Aside0.mk H
                   clear H
                   obtain ⟨Ao48, co48, eo48⟩ := Kd.R_slice HO_11.out
                   subst eo48
                   have p397 : 0 ≤ (x13_2 : Int) := of_decide_eq_true q13_
                   have q397 : x13_2 < (t393.length : Int) := of_decide_eq_true q13_
                   obtain ⟨ad397, e397, hx397_0, hx397_1, hx397_2, hx397_3, hx397_4⟩ := at_T25 (Kd.R_reads' HO_11.out).2.2 x13_2 p397 q397
                   cases e397
                   replace p397 := eq_true p397
                   replace q397 := eq_true q397
                   go_wp2_with (first | (go_at_call 16; (with_reducible refine (skiffref1_Good.calls k2 (((a0.extract 0 ((rd y389 (Go.bits .and .i64 t383 1)) : Int).toNat) ++ a1) ++ (a0.extract ((ji27) : Int).toNat a0.size)) ((rd_T25 t393 x13_2).f1.f0) ((rd_T25 t393 x13_2).f1.f1) ((rd_T25 t393 x13_2).f1.f2) ((rd_T25 t393 x13_2).f1.f3) true t399 _ A38.out).mono ?_); rintro e w49 ⟨rfl, hb⟩; have n0_ := Aside0.mk (Kd.R_below q37_ hb); have n1_ := Aside0.mk (blk_below (g := gb382) (o := .cells #[.int .i64 t376, .int .i64 t377, .int .i64 t378, .int .i64 t379, .int .i64 t380] 25 (0, 0)) (by (with_reducible repeat (first | refine blk_drewN ?_ _ | refine blk_drew ?_ | refine blk_alloc ?_ _)); exact BK382.out) hb); have n2_ := Aside0.mk (below_step (by repeat (first | (with_reducible first | exact HB.out | apply below_alloc | apply pw_below_drewN | apply below_drew1 | refine below_set ?_ GE382.out) | exact HB.out)) hb); clear HO_11; clear BK382; clear HB; have HO_11 := n0_; have BK382 := n1_; have HB := n2_; clear n0_ n1_ n2_; (try clear hb); (try clear hb2); (try clear hk); (try clear hi); have p400 : 0 ≤ (x13_2 : Int) := of_decide_eq_true q13_; have q400 : x13_2 < (t393.length : Int) := of_decide_eq_true q13_; obtain ⟨ad400, e400, hx400_0, hx400_1, hx400_2, hx400_3, hx400_4⟩ := at_T25 (Kd.R_reads' HO_11.out).2.2 x13_2 p400 q400; obtain rfl : ad397 = ad400 := (by injection e400); replace p400 := eq_true p400; replace q400 := eq_true q400; have hcz50_0 : w49.cell? ⟨gb382, 0, none⟩ = some (.int .i64 t376) := (blk_cell BK382.out 0).trans rfl; have hcz50_1 : w49.cell? ⟨gb382, 1, none⟩ = some (.int .i64 t377) := (blk_cell BK382.out 1).trans rfl; have hcz50_2 : w49.cell? ⟨gb382, 2, none⟩ = some (.int .i64 t378) := (blk_cell BK382.out 2).trans rfl; have hcz50_3 : w49.cell? ⟨gb382, 3, none⟩ = some (.int .i64 t379) := (blk_cell BK382.out 3).trans rfl; have hcz50_4 : w49.cell? ⟨gb382, 4, none⟩ = some (.int .i64 t380) := (blk_cell BK382.out 4).trans rfl; have hfz50_0 := blk_frozen BK382.out 0; have hfz50_1 := blk_frozen BK382.out 1; have hfz50_2 := blk_frozen BK382.out 2; have hfz50_3 := blk_frozen BK382.out 3; have hfz50_4 := blk_frozen BK382.out 4))
                   repeat (go_quiet (first | (go_at_call 16; (with_reducible refine (skiffref1_Good.calls k2 (((a0.extract 0 ((rd y389 (Go.bits .and .i64 t383 1)) : Int).toNat) ++ a1) ++ (a0.extract ((ji27) : Int).toNat a0.size)) ((rd_T25 t393 x13_2).f1.f0) ((rd_T25 t393 x13_2).f1.f1) ((rd_T25 t393 x13_2).f1.f2) ((rd_T25 t393 x13_2).f1.f3) true t399 _ A38.out).mono ?_); rintro e w49 ⟨rfl, hb⟩; have n0_ := Aside0.mk (Kd.R_below q37_ hb); have n1_ := Aside0.mk (blk_below (g := gb382) (o := .cells #[.int .i64 t376, .int .i64 t377, .int .i64 t378, .int .i64 t379, .int .i64 t380] 25 (0, 0)) (by (with_reducible repeat (first | refine blk_drewN ?_ _ | refine blk_drew ?_ | refine blk_alloc ?_ _)); exact BK382.out) hb); have n2_ := Aside0.mk (below_step (by repeat (first | (with_reducible first | exact HB.out | apply below_alloc | apply pw_below_drewN | apply below_drew1 | refine below_set ?_ GE382.out) | exact HB.out)) hb); clear HO_11; clear BK382; clear HB; have HO_11 := n0_; have BK382 := n1_; have HB := n2_; clear n0_ n1_ n2_; (try clear hb); (try clear hb2); (try clear hk); (try clear hi); have p400 : 0 ≤ (x13_2 : Int) := of_decide_eq_true q13_; have q400 : x13_2 < (t393.length : Int) := of_decide_eq_true q13_; obtain ⟨ad400, e400, hx400_0, hx400_1, hx400_2, hx400_3, hx400_4⟩ := at_T25 (Kd.R_reads' HO_11.out).2.2 x13_2 p400 q400; obtain rfl : ad397 = ad400 := (by injection e400); replace p400 := eq_true p400; replace q400 := eq_true q400; have hcz50_0 : w49.cell? ⟨gb382, 0, none⟩ = some (.int .i64 t376) := (blk_cell BK382.out 0).trans rfl; have hcz50_1 : w49.cell? ⟨gb382, 1, none⟩ = some (.int .i64 t377) := (blk_cell BK382.out 1).trans rfl; have hcz50_2 : w49.cell? ⟨gb382, 2, none⟩ = some (.int .i64 t378) := (blk_cell BK382.out 2).trans rfl; have hcz50_3 : w49.cell? ⟨gb382, 3, none⟩ = some (.int .i64 t379) := (blk_cell BK382.out 3).trans rfl; have hcz50_4 : w49.cell? ⟨gb382, 4, none⟩ = some (.int .i64 t380) := (blk_cell BK382.out 4).trans rfl; have hfz50_0 := blk_frozen BK382.out 0; have hfz50_1 := blk_frozen BK382.out 1; have hfz50_2 := blk_frozen BK382.out 2; have hfz50_3 := blk_frozen BK382.out 3; have hfz50_4 := blk_frozen BK382.out 4)); try go_wp2_with (first | (go_at_call 16; (with_reducible refine (skiffref1_Good.calls k2 (((a0.extract 0 ((rd y389 (Go.bits .and .i64 t383 1)) : Int).toNat) ++ a1) ++ (a0.extract ((ji27) : Int).toNat a0.size)) ((rd_T25 t393 x13_2).f1.f0) ((rd_T25 t393 x13_2).f1.f1) ((rd_T25 t393 x13_2).f1.f2) ((rd_T25 t393 x13_2).f1.f3) true t399 _ A38.out).mono ?_); rintro e w49 ⟨rfl, hb⟩; have n0_ := Aside0.mk (Kd.R_below q37_ hb); have n1_ := Aside0.mk (blk_below (g := gb382) (o := .cells #[.int .i64 t376, .int .i64 t377, .int .i64 t378, .int .i64 t379, .int .i64 t380] 25 (0, 0)) (by (with_reducible repeat (first | refine blk_drewN ?_ _ | refine blk_drew ?_ | refine blk_alloc ?_ _)); exact BK382.out) hb); have n2_ := Aside0.mk (below_step (by repeat (first | (with_reducible first | exact HB.out | apply below_alloc | apply pw_below_drewN | apply below_drew1 | refine below_set ?_ GE382.out) | exact HB.out)) hb); clear HO_11; clear BK382; clear HB; have HO_11 := n0_; have BK382 := n1_; have HB := n2_; clear n0_ n1_ n2_; (try clear hb); (try clear hb2); (try clear hk); (try clear hi); have p400 : 0 ≤ (x13_2 : Int) := of_decide_eq_true q13_; have q400 : x13_2 < (t393.length : Int) := of_decide_eq_true q13_; obtain ⟨ad400, e400, hx400_0, hx400_1, hx400_2, hx400_3, hx400_4⟩ := at_T25 (Kd.R_reads' HO_11.out).2.2 x13_2 p400 q400; obtain rfl : ad397 = ad400 := (by injection e400); replace p400 := eq_true p400; replace q400 := eq_true q400; have hcz50_0 : w49.cell? ⟨gb382, 0, none⟩ = some (.int .i64 t376) := (blk_cell BK382.out 0).trans rfl; have hcz50_1 : w49.cell? ⟨gb382, 1, none⟩ = some (.int .i64 t377) := (blk_cell BK382.out 1).trans rfl; have hcz50_2 : w49.cell? ⟨gb382, 2, none⟩ = some (.int .i64 t378) := (blk_cell BK382.out 2).trans rfl; have hcz50_3 : w49.cell? ⟨gb382, 3, none⟩ = some (.int .i64 t379) := (blk_cell BK382.out 3).trans rfl; have hcz50_4 : w49.cell? ⟨gb382, 4, none⟩ = some (.int .i64 t380) := (blk_cell BK382.out 4).trans rfl; have hfz50_0 := blk_frozen BK382.out 0; have hfz50_1 := blk_frozen BK382.out 1; have hfz50_2 := blk_frozen BK382.out 2; have hfz50_3 := blk_frozen BK382.out 3; have hfz50_4 := blk_frozen BK382.out 4)))
                   go_roundg k2
                   case measure => have := HJ6.out; have := HK2.out; omega
                   case rel => exact ⟨(wrap64 (x13_2 + 1)), q15_, H', ⟨by have := HJ6.out; have := HK2.out; omega⟩, ⟨by (with_reducible repeat (first | apply Kd.R_alloc | apply Kd.R_drewN | apply Kd.R_drew)); exact HO_11.out⟩, ⟨by (with_reducible repeat (first | refine blk_drewN ?_ _ | refine blk_drew ?_ | refine blk_alloc ?_ _)); exact BK382.out⟩, ⟨by repeat (first | (with_reducible first | exact HB.out | apply below_alloc | apply pw_below_drewN | apply below_drew1 | refine below_set ?_ GE382.out) | exact HB.out)⟩⟩
                 ·replace c39 := Bool.eq_false_iff.mpr c39
                  subst c39
                  have H1 : (skifflaw7_ChooseOther.l0 k2 t383 (((a0.extract 0 ((rd y389 (Go.bits .and .i64 t383 1)) : Int).toNat) ++ a1) ++ (a0.extract ((ji27) : Int).toNat a0.size)) t393 (wrap64 (x13_2 + 1)) t376 t377 t378 t379 t380) = some r := by rw [if_neg (show ¬ (false = true) by decide)] at H; exact H
                  clear H
                  have H := H1
                  clear H1
                  have H' := Aside0.mk H
                  clear H
                  obtain ⟨Ao51, co51, eo51⟩ := Kd.R_slice HO_11.out
                  subst eo51
                  have p397 : 0 ≤ (x13_2 : Int) := of_decide_eq_true q13_
                  have q397 : x13_2 < (t393.length : Int) := of_decide_eq_true q13_
                  obtain ⟨ad397, e397, hx397_0, hx397_1, hx397_2, hx397_3, hx397_4⟩ := at_T25 (Kd.R_reads' HO_11.out).2.2 x13_2 p397 q397
                  cases e397
                  replace p397 := eq_true p397
                  replace q397 := eq_true q397
                  go_wp2_with (first | (go_at_call 16; (with_reducible refine (skiffref1_Good.calls k2 (((a0.extract 0 ((rd y389 (Go.bits .and .i64 t383 1)) : Int).toNat) ++ a1) ++ (a0.extract ((ji27) : Int).toNat a0.size)) ((rd_T25 t393 x13_2).f1.f0) ((rd_T25 t393 x13_2).f1.f1) ((rd_T25 t393 x13_2).f1.f2) ((rd_T25 t393 x13_2).f1.f3) false t399 _ A38.out).mono ?_); rintro e w52 ⟨rfl, hb⟩; have n0_ := Aside0.mk (Kd.R_below q37_ hb); have n1_ := Aside0.mk (blk_below (g := gb382) (o := .cells #[.int .i64 t376, .int .i64 t377, .int .i64 t378, .int .i64 t379, .int .i64 t380] 25 (0, 0)) (by (with_reducible repeat (first | refine blk_drewN ?_ _ | refine blk_drew ?_ | refine blk_alloc ?_ _)); exact BK382.out) hb); have n2_ := Aside0.mk (below_step (by repeat (first | (with_reducible first | exact HB.out | apply below_alloc | apply pw_below_drewN | apply below_drew1 | refine below_set ?_ GE382.out) | exact HB.out)) hb); clear HO_11; clear BK382; clear HB; have HO_11 := n0_; have BK382 := n1_; have HB := n2_; clear n0_ n1_ n2_; (try clear hb); (try clear hb2); (try clear hk); (try clear hi)))
                  repeat (go_quiet (first | (go_at_call 16; (with_reducible refine (skiffref1_Good.calls k2 (((a0.extract 0 ((rd y389 (Go.bits .and .i64 t383 1)) : Int).toNat) ++ a1) ++ (a0.extract ((ji27) : Int).toNat a0.size)) ((rd_T25 t393 x13_2).f1.f0) ((rd_T25 t393 x13_2).f1.f1) ((rd_T25 t393 x13_2).f1.f2) ((rd_T25 t393 x13_2).f1.f3) false t399 _ A38.out).mono ?_); rintro e w52 ⟨rfl, hb⟩; have n0_ := Aside0.mk (Kd.R_below q37_ hb); have n1_ := Aside0.mk (blk_below (g := gb382) (o := .cells #[.int .i64 t376, .int .i64 t377, .int .i64 t378, .int .i64 t379, .int .i64 t380] 25 (0, 0)) (by (with_reducible repeat (first | refine blk_drewN ?_ _ | refine blk_drew ?_ | refine blk_alloc ?_ _)); exact BK382.out) hb); have n2_ := Aside0.mk (below_step (by repeat (first | (with_reducible first | exact HB.out | apply below_alloc | apply pw_below_drewN | apply below_drew1 | refine below_set ?_ GE382.out) | exact HB.out)) hb); clear HO_11; clear BK382; clear HB; have HO_11 := n0_; have BK382 := n1_; have HB := n2_; clear n0_ n1_ n2_; (try clear hb); (try clear hb2); (try clear hk); (try clear hi))); try go_wp2_with (first | (go_at_call 16; (with_reducible refine (skiffref1_Good.calls k2 (((a0.extract 0 ((rd y389 (Go.bits .and .i64 t383 1)) : Int).toNat) ++ a1) ++ (a0.extract ((ji27) : Int).toNat a0.size)) ((rd_T25 t393 x13_2).f1.f0) ((rd_T25 t393 x13_2).f1.f1) ((rd_T25 t393 x13_2).f1.f2) ((rd_T25 t393 x13_2).f1.f3) false t399 _ A38.out).mono ?_); rintro e w52 ⟨rfl, hb⟩; have n0_ := Aside0.mk (Kd.R_below q37_ hb); have n1_ := Aside0.mk (blk_below (g := gb382) (o := .cells #[.int .i64 t376, .int .i64 t377, .int .i64 t378, .int .i64 t379, .int .i64 t380] 25 (0, 0)) (by (with_reducible repeat (first | refine blk_drewN ?_ _ | refine blk_drew ?_ | refine blk_alloc ?_ _)); exact BK382.out) hb); have n2_ := Aside0.mk (below_step (by repeat (first | (with_reducible first | exact HB.out | apply below_alloc | apply pw_below_drewN | apply below_drew1 | refine below_set ?_ GE382.out) | exact HB.out)) hb); clear HO_11; clear BK382; clear HB; have HO_11 := n0_; have BK382 := n1_; have HB := n2_; clear n0_ n1_ n2_; (try clear hb); (try clear hb2); (try clear hk); (try clear hi))))
                  go_roundg k2
                  case measure => have := HJ6.out; have := HK2.out; omega
                  case rel => exact ⟨(wrap64 (x13_2 + 1)), q15_, H', ⟨by have := HJ6.out; have := HK2.out; omega⟩, ⟨by (with_reducible repeat (first | apply Kd.R_alloc | apply Kd.R_drewN | apply Kd.R_drew)); exact HO_11.out⟩, ⟨by (with_reducible repeat (first | refine blk_drewN ?_ _ | refine blk_drew ?_ | refine blk_alloc ?_ _)); exact BK382.out⟩, ⟨by repeat (first | (with_reducible first | exact HB.out | apply below_alloc | apply pw_below_drewN | apply below_drew1 | refine below_set ?_ GE382.out) | exact HB.out)⟩⟩
                ·rw [if_neg c37] at H
                 exact absurd H (by simp)
               ·rw [if_neg c36] at H
                have c36b0 : decide (x13_2 < (t393.length : Int)) = false := decide_eq_false c36
                clear c36
                replace H := Option.bind_eq_some_iff.mp H
                obtain ⟨⟨t402, t403, t404, t405, t406, t407⟩, A530, H⟩ := H
                replace H : ((skifflaw0_Num.f t407).bind fun t409 => (if t409 = 0 then (if (t402 == t376 && ((t403 == t377 && (t404 == t378 && (t405 == t379 && (t406 == t380)))))) = true then (some (t383 == (wrap64 (1 - t378)))) else (none)) else (none))) = some r := H
                have A53 := Aside0.mk A530
                clear A530
                replace H := Option.bind_eq_some_iff.mp H
                obtain ⟨t409, A540, H⟩ := H
                replace H : (if t409 = 0 then (if (t402 == t376 && ((t403 == t377 && (t404 == t378 && (t405 == t379 && (t406 == t380)))))) = true then (some (t383 == (wrap64 (1 - t378)))) else (none)) else (none)) = some r := H
                have A54 := Aside0.mk A540
                clear A540
                by_cases c55 : t409 = 0
                ·rw [if_pos c55] at H
                 have c55b0 : (t409 == 0) = true := beq_iff_eq.mpr c55
                 have c55b1 : (t409 != 0) = false := bne_eq_false_iff_eq.mpr c55
                 clear c55
                 by_cases c56 : (t402 == t376 && ((t403 == t377 && (t404 == t378 && (t405 == t379 && (t406 == t380)))))) = true
                 ·rw [if_pos c56] at H
                  have c56b0 : (t402 == t376 && ((t403 == t377 && (t404 == t378 && (t405 == t379 && (t406 == t380)))))) = true := c56
                  (try (have c56b1 : decide (t402 = t376 && ((t403 == t377 && (t404 == t378 && (t405 == t379 && (t406 == t380)))))) = true := by simpa using c56))
                  (try (have c56b2 : (t402 == t376 && ((t403 == t377 && (t404 == t378 && (t405 == t379 && (t406 == t380)))))) = true := by simpa using c56))
                  clear c56
                  obtain rfl := Option.some.inj H
                  obtain ⟨Ao57, co57, eo57⟩ := Kd.R_slice HO_11.out
                  subst eo57
                  go_wp2_with (first | (go_at_call 9; (with_reducible refine (Hand.choose_Active.calls k2 (((a0.extract 0 ((rd y389 (Go.bits .and .i64 t383 1)) : Int).toNat) ++ a1) ++ (a0.extract ((ji27) : Int).toNat a0.size)) t402 t403 t404 t405 t406 t407 _ A53.out).mono ?_); rintro e w58 ⟨rfl, hb⟩; have n0_ := Aside0.mk (Kd.R_below q37_ hb); have n1_ := Aside0.mk (blk_below (g := gb382) (o := .cells #[.int .i64 t376, .int .i64 t377, .int .i64 t378, .int .i64 t379, .int .i64 t380] 25 (0, 0)) (by (with_reducible repeat (first | refine blk_drewN ?_ _ | refine blk_drew ?_ | refine blk_alloc ?_ _)); exact BK382.out) hb); have n2_ := Aside0.mk (below_step (by repeat (first | (with_reducible first | exact HB.out | apply below_alloc | apply pw_below_drewN | apply below_drew1 | refine below_set ?_ GE382.out) | exact HB.out)) hb); clear HO_11; clear BK382; clear HB; have HO_11 := n0_; have BK382 := n1_; have HB := n2_; clear n0_ n1_ n2_; (try clear hb); (try clear hb2); (try clear hk); (try clear hi)) | ((with_reducible refine gate_dst (N := 16) rfl ?_); (try (refine gate_guard (by rfl) ?_; dsimp only)); refine box_event ?hg (N := 16) ?hd (cs := #[.int .i64 0, .int .i64 0, .int .i64 0, .int .i64 0, .int .i64 0]) (t := 25) ?hr ?_; (case hd => rfl); (case hg => rfl); (case hr => first | (go_simp; done) | (go_simp; rfl)); intro gb408 hg w59 hbox hb; have n0_ := Aside0.mk (Kd.R_below (Kd.R_elderB q37_ gb408 (Nat.le_of_eq hg.symm)) hb); have n1_ := Aside0.mk (blk_below (g := gb382) (o := .cells #[.int .i64 t376, .int .i64 t377, .int .i64 t378, .int .i64 t379, .int .i64 t380] 25 (0, 0)) (by (with_reducible repeat (first | refine blk_drewN ?_ _ | refine blk_drew ?_ | refine blk_alloc ?_ _)); exact BK382.out) hb); have n2_ := Aside0.mk (below_step (by repeat (first | (with_reducible first | exact HB.out | apply below_alloc | apply pw_below_drewN | apply below_drew1 | refine below_set ?_ GE382.out) | exact HB.out)) hb); have n3_ := Aside0.mk (hbox); have n4_ := Aside0.mk ((by rw [hg]; exact (below_size (by repeat (first | (with_reducible first | exact HB.out | apply below_alloc | apply pw_below_drewN | apply below_drew1 | refine below_set ?_ GE382.out) | exact HB.out))) : w.heap.size ≤ gb408)); have n5_ := Aside0.mk ((by rw [hg]; exact (below_size (by repeat (first | (with_reducible first | exact HB.out | apply below_alloc | apply pw_below_drewN | apply below_drew1 | refine below_set ?_ GE382.out) | exact HB.out))) : w.heap.size ≤ gb408)); have n6_ := Aside0.mk ((by rw [hg]; exact Nat.ne_of_lt (blk_lt (g := gb382) (o := .cells #[.int .i64 t376, .int .i64 t377, .int .i64 t378, .int .i64 t379, .int .i64 t380] 25 (0, 0)) (by (with_reducible repeat (first | refine blk_drewN ?_ _ | refine blk_drew ?_ | refine blk_alloc ?_ _)); exact BK382.out)) : gb382 ≠ gb408)); have n7_ := Aside0.mk ((by rw [hg]; exact Nat.ne_of_gt (blk_lt (g := gb382) (o := .cells #[.int .i64 t376, .int .i64 t377, .int .i64 t378, .int .i64 t379, .int .i64 t380] 25 (0, 0)) (by (with_reducible repeat (first | refine blk_drewN ?_ _ | refine blk_drew ?_ | refine blk_alloc ?_ _)); exact BK382.out)) : gb408 ≠ gb382)); clear HO_11; clear BK382; clear HB; have HO_11 := n0_; have BK382 := n1_; have HB := n2_; have BK408 := n3_; have GW408 := n4_; have GE408 := n5_; have NB382_408 := n6_; have NB408_382 := n7_; clear n0_ n1_ n2_ n3_ n4_ n5_ n6_ n7_; clear hb hbox hg; have hnb60 := NB408_382.out; have hnc60 := NB382_408.out; have hcz61_0 : w59.cell? ⟨gb408, 0, none⟩ = some (.int .i64 0) := (blk_cell BK408.out 0).trans rfl; have hcz61_1 : w59.cell? ⟨gb408, 1, none⟩ = some (.int .i64 0) := (blk_cell BK408.out 1).trans rfl; have hcz61_2 : w59.cell? ⟨gb408, 2, none⟩ = some (.int .i64 0) := (blk_cell BK408.out 2).trans rfl; have hcz61_3 : w59.cell? ⟨gb408, 3, none⟩ = some (.int .i64 0) := (blk_cell BK408.out 3).trans rfl; have hcz61_4 : w59.cell? ⟨gb408, 4, none⟩ = some (.int .i64 0) := (blk_cell BK408.out 4).trans rfl; have hfz61_0 := blk_frozen BK408.out 0; have hfz61_1 := blk_frozen BK408.out 1; have hfz61_2 := blk_frozen BK408.out 2; have hfz61_3 := blk_frozen BK408.out 3; have hfz61_4 := blk_frozen BK408.out 4) | (go_at_call 13; (with_reducible refine (skifflaw0_Num.calls t407 t409 _ A54.out).mono ?_); rintro e w' ⟨rfl, ⟨nd, rfl⟩⟩; (try first | exact ⟨rfl, _, World.drewN_drewN _ _ _⟩ | exact ⟨rfl, _, Eq.trans (World.drewN_drewN _ _ _) (congrArg (World.drewN _) (Nat.add_assoc _ _ _))⟩); have hcz62_0 : w59.cell? ⟨gb382, 0, none⟩ = some (.int .i64 t376) := (blk_cell BK382.out 0).trans rfl; have hcz62_1 : w59.cell? ⟨gb382, 1, none⟩ = some (.int .i64 t377) := (blk_cell BK382.out 1).trans rfl; have hcz62_2 : w59.cell? ⟨gb382, 2, none⟩ = some (.int .i64 t378) := (blk_cell BK382.out 2).trans rfl; have hcz62_3 : w59.cell? ⟨gb382, 3, none⟩ = some (.int .i64 t379) := (blk_cell BK382.out 3).trans rfl; have hcz62_4 : w59.cell? ⟨gb382, 4, none⟩ = some (.int .i64 t380) := (blk_cell BK382.out 4).trans rfl; have hfz62_0 := blk_frozen BK382.out 0; have hfz62_1 := blk_frozen BK382.out 1; have hfz62_2 := blk_frozen BK382.out 2; have hfz62_3 := blk_frozen BK382.out 3; have hfz62_4 := blk_frozen BK382.out 4))
                  repeat (go_quiet (first | (go_at_call 9; (with_reducible refine (Hand.choose_Active.calls k2 (((a0.extract 0 ((rd y389 (Go.bits .and .i64 t383 1)) : Int).toNat) ++ a1) ++ (a0.extract ((ji27) : Int).toNat a0.size)) t402 t403 t404 t405 t406 t407 _ A53.out).mono ?_); rintro e w58 ⟨rfl, hb⟩; have n0_ := Aside0.mk (Kd.R_below q37_ hb); have n1_ := Aside0.mk (blk_below (g := gb382) (o := .cells #[.int .i64 t376, .int .i64 t377, .int .i64 t378, .int .i64 t379, .int .i64 t380] 25 (0, 0)) (by (with_reducible repeat (first | refine blk_drewN ?_ _ | refine blk_drew ?_ | refine blk_alloc ?_ _)); exact BK382.out) hb); have n2_ := Aside0.mk (below_step (by repeat (first | (with_reducible first | exact HB.out | apply below_alloc | apply pw_below_drewN | apply below_drew1 | refine below_set ?_ GE382.out) | exact HB.out)) hb); clear HO_11; clear BK382; clear HB; have HO_11 := n0_; have BK382 := n1_; have HB := n2_; clear n0_ n1_ n2_; (try clear hb); (try clear hb2); (try clear hk); (try clear hi)) | ((with_reducible refine gate_dst (N := 16) rfl ?_); (try (refine gate_guard (by rfl) ?_; dsimp only)); refine box_event ?hg (N := 16) ?hd (cs := #[.int .i64 0, .int .i64 0, .int .i64 0, .int .i64 0, .int .i64 0]) (t := 25) ?hr ?_; (case hd => rfl); (case hg => rfl); (case hr => first | (go_simp; done) | (go_simp; rfl)); intro gb408 hg w59 hbox hb; have n0_ := Aside0.mk (Kd.R_below (Kd.R_elderB q37_ gb408 (Nat.le_of_eq hg.symm)) hb); have n1_ := Aside0.mk (blk_below (g := gb382) (o := .cells #[.int .i64 t376, .int .i64 t377, .int .i64 t378, .int .i64 t379, .int .i64 t380] 25 (0, 0)) (by (with_reducible repeat (first | refine blk_drewN ?_ _ | refine blk_drew ?_ | refine blk_alloc ?_ _)); exact BK382.out) hb); have n2_ := Aside0.mk (below_step (by repeat (first | (with_reducible first | exact HB.out | apply below_alloc | apply pw_below_drewN | apply below_drew1 | refine below_set ?_ GE382.out) | exact HB.out)) hb); have n3_ := Aside0.mk (hbox); have n4_ := Aside0.mk ((by rw [hg]; exact (below_size (by repeat (first | (with_reducible first | exact HB.out | apply below_alloc | apply pw_below_drewN | apply below_drew1 | refine below_set ?_ GE382.out) | exact HB.out))) : w.heap.size ≤ gb408)); have n5_ := Aside0.mk ((by rw [hg]; exact (below_size (by repeat (first | (with_reducible first | exact HB.out | apply below_alloc | apply pw_below_drewN | apply below_drew1 | refine below_set ?_ GE382.out) | exact HB.out))) : w.heap.size ≤ gb408)); have n6_ := Aside0.mk ((by rw [hg]; exact Nat.ne_of_lt (blk_lt (g := gb382) (o := .cells #[.int .i64 t376, .int .i64 t377, .int .i64 t378, .int .i64 t379, .int .i64 t380] 25 (0, 0)) (by (with_reducible repeat (first | refine blk_drewN ?_ _ | refine blk_drew ?_ | refine blk_alloc ?_ _)); exact BK382.out)) : gb382 ≠ gb408)); have n7_ := Aside0.mk ((by rw [hg]; exact Nat.ne_of_gt (blk_lt (g := gb382) (o := .cells #[.int .i64 t376, .int .i64 t377, .int .i64 t378, .int .i64 t379, .int .i64 t380] 25 (0, 0)) (by (with_reducible repeat (first | refine blk_drewN ?_ _ | refine blk_drew ?_ | refine blk_alloc ?_ _)); exact BK382.out)) : gb408 ≠ gb382)); clear HO_11; clear BK382; clear HB; have HO_11 := n0_; have BK382 := n1_; have HB := n2_; have BK408 := n3_; have GW408 := n4_; have GE408 := n5_; have NB382_408 := n6_; have NB408_382 := n7_; clear n0_ n1_ n2_ n3_ n4_ n5_ n6_ n7_; clear hb hbox hg; have hnb60 := NB408_382.out; have hnc60 := NB382_408.out; have hcz61_0 : w59.cell? ⟨gb408, 0, none⟩ = some (.int .i64 0) := (blk_cell BK408.out 0).trans rfl; have hcz61_1 : w59.cell? ⟨gb408, 1, none⟩ = some (.int .i64 0) := (blk_cell BK408.out 1).trans rfl; have hcz61_2 : w59.cell? ⟨gb408, 2, none⟩ = some (.int .i64 0) := (blk_cell BK408.out 2).trans rfl; have hcz61_3 : w59.cell? ⟨gb408, 3, none⟩ = some (.int .i64 0) := (blk_cell BK408.out 3).trans rfl; have hcz61_4 : w59.cell? ⟨gb408, 4, none⟩ = some (.int .i64 0) := (blk_cell BK408.out 4).trans rfl; have hfz61_0 := blk_frozen BK408.out 0; have hfz61_1 := blk_frozen BK408.out 1; have hfz61_2 := blk_frozen BK408.out 2; have hfz61_3 := blk_frozen BK408.out 3; have hfz61_4 := blk_frozen BK408.out 4) | (go_at_call 13; (with_reducible refine (skifflaw0_Num.calls t407 t409 _ A54.out).mono ?_); rintro e w' ⟨rfl, ⟨nd, rfl⟩⟩; (try first | exact ⟨rfl, _, World.drewN_drewN _ _ _⟩ | exact ⟨rfl, _, Eq.trans (World.drewN_drewN _ _ _) (congrArg (World.drewN _) (Nat.add_assoc _ _ _))⟩); have hcz62_0 : w59.cell? ⟨gb382, 0, none⟩ = some (.int .i64 t376) := (blk_cell BK382.out 0).trans rfl; have hcz62_1 : w59.cell? ⟨gb382, 1, none⟩ = some (.int .i64 t377) := (blk_cell BK382.out 1).trans rfl; have hcz62_2 : w59.cell? ⟨gb382, 2, none⟩ = some (.int .i64 t378) := (blk_cell BK382.out 2).trans rfl; have hcz62_3 : w59.cell? ⟨gb382, 3, none⟩ = some (.int .i64 t379) := (blk_cell BK382.out 3).trans rfl; have hcz62_4 : w59.cell? ⟨gb382, 4, none⟩ = some (.int .i64 t380) := (blk_cell BK382.out 4).trans rfl; have hfz62_0 := blk_frozen BK382.out 0; have hfz62_1 := blk_frozen BK382.out 1; have hfz62_2 := blk_frozen BK382.out 2; have hfz62_3 := blk_frozen BK382.out 3; have hfz62_4 := blk_frozen BK382.out 4)); try go_wp2_with (first | (go_at_call 9; (with_reducible refine (Hand.choose_Active.calls k2 (((a0.extract 0 ((rd y389 (Go.bits .and .i64 t383 1)) : Int).toNat) ++ a1) ++ (a0.extract ((ji27) : Int).toNat a0.size)) t402 t403 t404 t405 t406 t407 _ A53.out).mono ?_); rintro e w58 ⟨rfl, hb⟩; have n0_ := Aside0.mk (Kd.R_below q37_ hb); have n1_ := Aside0.mk (blk_below (g := gb382) (o := .cells #[.int .i64 t376, .int .i64 t377, .int .i64 t378, .int .i64 t379, .int .i64 t380] 25 (0, 0)) (by (with_reducible repeat (first | refine blk_drewN ?_ _ | refine blk_drew ?_ | refine blk_alloc ?_ _)); exact BK382.out) hb); have n2_ := Aside0.mk (below_step (by repeat (first | (with_reducible first | exact HB.out | apply below_alloc | apply pw_below_drewN | apply below_drew1 | refine below_set ?_ GE382.out) | exact HB.out)) hb); clear HO_11; clear BK382; clear HB; have HO_11 := n0_; have BK382 := n1_; have HB := n2_; clear n0_ n1_ n2_; (try clear hb); (try clear hb2); (try clear hk); (try clear hi)) | ((with_reducible refine gate_dst (N := 16) rfl ?_); (try (refine gate_guard (by rfl) ?_; dsimp only)); refine box_event ?hg (N := 16) ?hd (cs := #[.int .i64 0, .int .i64 0, .int .i64 0, .int .i64 0, .int .i64 0]) (t := 25) ?hr ?_; (case hd => rfl); (case hg => rfl); (case hr => first | (go_simp; done) | (go_simp; rfl)); intro gb408 hg w59 hbox hb; have n0_ := Aside0.mk (Kd.R_below (Kd.R_elderB q37_ gb408 (Nat.le_of_eq hg.symm)) hb); have n1_ := Aside0.mk (blk_below (g := gb382) (o := .cells #[.int .i64 t376, .int .i64 t377, .int .i64 t378, .int .i64 t379, .int .i64 t380] 25 (0, 0)) (by (with_reducible repeat (first | refine blk_drewN ?_ _ | refine blk_drew ?_ | refine blk_alloc ?_ _)); exact BK382.out) hb); have n2_ := Aside0.mk (below_step (by repeat (first | (with_reducible first | exact HB.out | apply below_alloc | apply pw_below_drewN | apply below_drew1 | refine below_set ?_ GE382.out) | exact HB.out)) hb); have n3_ := Aside0.mk (hbox); have n4_ := Aside0.mk ((by rw [hg]; exact (below_size (by repeat (first | (with_reducible first | exact HB.out | apply below_alloc | apply pw_below_drewN | apply below_drew1 | refine below_set ?_ GE382.out) | exact HB.out))) : w.heap.size ≤ gb408)); have n5_ := Aside0.mk ((by rw [hg]; exact (below_size (by repeat (first | (with_reducible first | exact HB.out | apply below_alloc | apply pw_below_drewN | apply below_drew1 | refine below_set ?_ GE382.out) | exact HB.out))) : w.heap.size ≤ gb408)); have n6_ := Aside0.mk ((by rw [hg]; exact Nat.ne_of_lt (blk_lt (g := gb382) (o := .cells #[.int .i64 t376, .int .i64 t377, .int .i64 t378, .int .i64 t379, .int .i64 t380] 25 (0, 0)) (by (with_reducible repeat (first | refine blk_drewN ?_ _ | refine blk_drew ?_ | refine blk_alloc ?_ _)); exact BK382.out)) : gb382 ≠ gb408)); have n7_ := Aside0.mk ((by rw [hg]; exact Nat.ne_of_gt (blk_lt (g := gb382) (o := .cells #[.int .i64 t376, .int .i64 t377, .int .i64 t378, .int .i64 t379, .int .i64 t380] 25 (0, 0)) (by (with_reducible repeat (first | refine blk_drewN ?_ _ | refine blk_drew ?_ | refine blk_alloc ?_ _)); exact BK382.out)) : gb408 ≠ gb382)); clear HO_11; clear BK382; clear HB; have HO_11 := n0_; have BK382 := n1_; have HB := n2_; have BK408 := n3_; have GW408 := n4_; have GE408 := n5_; have NB382_408 := n6_; have NB408_382 := n7_; clear n0_ n1_ n2_ n3_ n4_ n5_ n6_ n7_; clear hb hbox hg; have hnb60 := NB408_382.out; have hnc60 := NB382_408.out; have hcz61_0 : w59.cell? ⟨gb408, 0, none⟩ = some (.int .i64 0) := (blk_cell BK408.out 0).trans rfl; have hcz61_1 : w59.cell? ⟨gb408, 1, none⟩ = some (.int .i64 0) := (blk_cell BK408.out 1).trans rfl; have hcz61_2 : w59.cell? ⟨gb408, 2, none⟩ = some (.int .i64 0) := (blk_cell BK408.out 2).trans rfl; have hcz61_3 : w59.cell? ⟨gb408, 3, none⟩ = some (.int .i64 0) := (blk_cell BK408.out 3).trans rfl; have hcz61_4 : w59.cell? ⟨gb408, 4, none⟩ = some (.int .i64 0) := (blk_cell BK408.out 4).trans rfl; have hfz61_0 := blk_frozen BK408.out 0; have hfz61_1 := blk_frozen BK408.out 1; have hfz61_2 := blk_frozen BK408.out 2; have hfz61_3 := blk_frozen BK408.out 3; have hfz61_4 := blk_frozen BK408.out 4) | (go_at_call 13; (with_reducible refine (skifflaw0_Num.calls t407 t409 _ A54.out).mono ?_); rintro e w' ⟨rfl, ⟨nd, rfl⟩⟩; (try first | exact ⟨rfl, _, World.drewN_drewN _ _ _⟩ | exact ⟨rfl, _, Eq.trans (World.drewN_drewN _ _ _) (congrArg (World.drewN _) (Nat.add_assoc _ _ _))⟩); have hcz62_0 : w59.cell? ⟨gb382, 0, none⟩ = some (.int .i64 t376) := (blk_cell BK382.out 0).trans rfl; have hcz62_1 : w59.cell? ⟨gb382, 1, none⟩ = some (.int .i64 t377) := (blk_cell BK382.out 1).trans rfl; have hcz62_2 : w59.cell? ⟨gb382, 2, none⟩ = some (.int .i64 t378) := (blk_cell BK382.out 2).trans rfl; have hcz62_3 : w59.cell? ⟨gb382, 3, none⟩ = some (.int .i64 t379) := (blk_cell BK382.out 3).trans rfl; have hcz62_4 : w59.cell? ⟨gb382, 4, none⟩ = some (.int .i64 t380) := (blk_cell BK382.out 4).trans rfl; have hfz62_0 := blk_frozen BK382.out 0; have hfz62_1 := blk_frozen BK382.out 1; have hfz62_2 := blk_frozen BK382.out 2; have hfz62_3 := blk_frozen BK382.out 3; have hfz62_4 := blk_frozen BK382.out 4)))
                  go_ret
                  exact ⟨by first | rfl | (simp [errW_none, errW_some] <;> rfl) | (simp only [← hji27]; first | rfl | (simp [errW_none, errW_some] <;> rfl)) | (simp [*, errW_none, errW_some] <;> rfl), by repeat (first | (with_reducible first | exact HB.out | apply below_alloc | apply pw_below_drewN | apply below_drew1 | refine below_set ?_ GE382.out | refine below_set ?_ GE408.out) | exact HB.out)⟩
                 ·rw [if_neg c56] at H
                  exact absurd H (by simp)
                ·rw [if_neg c55] at H
                 exact absurd H (by simp)
            ·rw [if_neg c30] at H
             exact absurd H (by simp)
           ·rw [if_neg c29] at H
            exact absurd H (by simp)
          ·rw [if_neg c28] at H
           exact absurd H (by simp)
         ·rw [if_neg c26] at H
          exact absurd H (by simp)
        ·rw [if_neg c25] at H
         exact absurd H (by simp)
       ·rw [if_neg c24] at H
        exact absurd H (by simp)
      ·rw [if_neg c23] at H
       exact absurd H (by simp)
     ·rw [if_neg c22] at H
      exact absurd H (by simp)
 ·replace c4 := Bool.eq_false_iff.mpr c4
  subst c4
  have H1 : (none) = some r := by rw [if_neg (show ¬ (false = true) by decide)] at H; exact H
  clear H
  have H := H1
  clear H1
  exact absurd H (by simp)
/-- THE ONE PURE STATEMENT of skifflaw7_ChooseOther: yours. -/
def skifflaw7_ChooseOther.Pure : Prop := ∀ (a0 : ByteArray) (a1 : ByteArray), a0.size ≤ 140737488351232 → a1.size ≤ 140737488351232 → ∃ k, skifflaw7_ChooseOther.f k a0 a1 = some true
theorem skifflaw7_ChooseOther.walk (P : skifflaw7_ChooseOther.Pure) (a0 : ByteArray) (a1 : ByteArray) (w : World) (w0 : a0.size ≤ 140737488351232) (w1 : a1.size ≤ 140737488351232) :
  Calls Try.prog 6 #[.string a0, .string a1] w fun e w' => e = .returned (.bool true) ∧ Below w.heap.size w w' := by
 obtain ⟨k, h⟩ := P a0 a1 w0 w1
 refine (skifflaw7_ChooseOther.calls k a0 a1 true w h).mono ?_
 rintro e w' ⟨rfl, hd⟩
 exact ⟨rfl, hd⟩
end Go.Proofs.Ytjadcjkjpkkmkaa.PAll

/- Plain facts on bytes: what and, or, and-not of bytes are, bit by bit; no program in sight. -/
set_option linter.unnecessarySimpa false
set_option linter.unusedSimpArgs false
set_option linter.unusedVariables false
namespace Go.Proofs.Ytjadcjkjpkkmkaa.M
open Go.RowKit
abbrev B (x : Int) : BitVec 8 := BitVec.ofInt 8 x
theorem wrap8 (b : BitVec 8) : IntKind.u8.wrap (b.toNat : Int) = b.toNat := by
 rw [IntKind.wrap_u8]; have := b.isLt; omega
theorem bits_and_u8 (x y : Int) : Go.bits .and .u8 x y = ((B x &&& B y).toNat : Int) := wrap8 _
theorem bits_or_u8 (x y : Int) : Go.bits .or .u8 x y = ((B x ||| B y).toNat : Int) := wrap8 _
theorem bits_xor_u8 (x y : Int) : Go.bits .xor .u8 x y = ((B x ^^^ B y).toNat : Int) := wrap8 _
theorem bits_andNot_u8 (x y : Int) : Go.bits .andNot .u8 x y = ((B x &&& ~~~B y).toNat : Int) := wrap8 _
theorem B_toNat (b : BitVec 8) : B (b.toNat : Int) = b := by simp [B]
theorem toNat_B (x : Int) (h0 : 0 ≤ x) (h1 : x < 256) : ((B x).toNat : Int) = x := by
 obtain ⟨n, rfl⟩ := Int.eq_ofNat_of_zero_le h0
 simp [B]; omega
theorem B_pow (m : Nat) : B (2 ^ m % 256) = 1#8 <<< m := by
 apply BitVec.eq_of_toNat_eq
 have : ((2 : Int) ^ m % 256) = ((2 ^ m % 256 : Nat) : Int) := by simp
 simp only [B, this, BitVec.ofInt_natCast, BitVec.toNat_ofNat, BitVec.toNat_shiftLeft, Nat.shiftLeft_eq]
 simp
theorem B_mask (m : Nat) : B ((255 * 2 ^ m) % 256) = 255#8 <<< m := by
 apply BitVec.eq_of_toNat_eq
 have : ((255 : Int) * 2 ^ m % 256) = ((255 * 2 ^ m % 256 : Nat) : Int) := by simp
 simp only [B, this, BitVec.ofInt_natCast, BitVec.toNat_ofNat, BitVec.toNat_shiftLeft, Nat.shiftLeft_eq]
 simp
/-- Is bit m of x none? as the reference asks. -/
theorem zero_bit (x : Int) (h0 : 0 ≤ x) (h1 : x < 256) (m : Nat) (hm : m < 8) : (Go.bits .and .u8 (x / 2 ^ m) 1 == 0) = !(B x).getLsbD m := by
 obtain ⟨n, rfl⟩ := Int.eq_ofNat_of_zero_le h0
 have hn : n < 256 := by omega
 have e1 : ((n : Int) / 2 ^ m) = ((n / 2 ^ m : Nat) : Int) := by simp
 have hd : n / 2 ^ m < 256 := Nat.lt_of_le_of_lt (Nat.div_le_self _ _) hn
 rw [e1, bits_and_u8]
 have e2 : (B ((n / 2 ^ m : Nat) : Int) &&& B 1).toNat = n / 2 ^ m % 2 := by
  simp only [B, BitVec.ofInt_natCast, BitVec.toNat_and, BitVec.toNat_ofNat]
  rw [Nat.mod_eq_of_lt hd, show ((BitVec.ofInt 8 1).toNat) = 1 from rfl, Nat.and_one_is_mod]
 rw [e2]
 have e3 : (B (n : Int)).getLsbD m = n.testBit m := by
  show (BitVec.ofInt 8 (n : Int)).getLsbD m = _
  rw [BitVec.ofInt_natCast, BitVec.getLsbD_ofNat]; simp [hm]
 rw [e3, Nat.testBit_eq_decide_div_mod_eq]
 rcases Nat.mod_two_eq_zero_or_one (n / 2 ^ m) with h | h <;> simp [h]
/-- A byte of which the lowest n bits have been programmed, one by one, as the reference does it. -/
def clr (b w : Int) : Nat → Int
 | 0 => b
 | n + 1 => if (Go.bits .and .u8 (w / 2 ^ n) 1 == 0) = true then Go.bits .andNot .u8 (clr b w n) (2 ^ n % 256) else clr b w n
theorem clr_range (b w : Int) (h0 : 0 ≤ b) (h1 : b < 256) (n : Nat) : 0 ≤ clr b w n ∧ clr b w n < 256 := by
 induction n with
 | zero => exact ⟨h0, h1⟩
 | succ n ih =>
  rw [clr]
  split
  ·rw [bits_andNot_u8]; have := (B (clr b w n) &&& ~~~B (2 ^ n % 256)).isLt; omega
  ·exact ih
theorem clr_bit (b w : Int) (h0 : 0 ≤ w) (h1 : w < 256) (n : Nat) (hn : n ≤ 8) (i : Nat) (hi : i < 8) : (B (clr b w n)).getLsbD i = ((B b).getLsbD i && (decide (n ≤ i) || (B w).getLsbD i)) := by
 induction n with
 | zero => simp [clr]
 | succ n ih =>
  have ih := ih (by omega)
  rw [clr, zero_bit w h0 h1 n (by omega)]
  by_cases hw : (B w).getLsbD n = true
  ·rw [if_neg (by simp [hw]), ih]
   by_cases e : n = i
   ·subst e; simp [hw]
   ·have : decide (n ≤ i) = decide (n + 1 ≤ i) := by simp; omega
    rw [this]
  ·have hw' : (B w).getLsbD n = false := by simpa using hw
   rw [if_pos (by simp [hw']), bits_andNot_u8, B_toNat, B_pow]
   rw [BitVec.getLsbD_and, BitVec.getLsbD_not, ih]
   have e1 : (1#8 <<< n).getLsbD i = decide (n = i) := by
    rw [BitVec.getLsbD_shiftLeft]
    by_cases e : n = i
    ·subst e; simp [hi]
    ·by_cases h : i < n
     ·simp [h, e]
     ·have : 0 < i - n := by omega
      simp [hi, h, e, BitVec.getLsbD_one]
      omega
   rw [e1]
   by_cases e : n = i
   ·subst e; rw [hw']; simp
   ·have : decide (n ≤ i) = decide (n + 1 ≤ i) := by simp; omega
    simp [this, hi, e]
theorem mask_bit (b w : Int) (n i : Nat) (hi : i < 8) : (B (Go.bits .and .u8 b (Go.bits .or .u8 w ((255 * 2 ^ n) % 256)))).getLsbD i = ((B b).getLsbD i && (decide (n ≤ i) || (B w).getLsbD i)) := by
 rw [bits_or_u8, bits_and_u8, B_toNat, B_toNat, B_mask, BitVec.getLsbD_and, BitVec.getLsbD_or]
 have e1 : (255#8 <<< n).getLsbD i = decide (n ≤ i) := by
  rw [BitVec.getLsbD_shiftLeft]
  by_cases h : i < n
  ·simp [h]
  ·have h2 : n ≤ i := by omega
   have h3 : (255#8).getLsbD (i - n) = true := by
    have h4 : i - n < 8 := by omega
    have : ∀ j, j < 8 → (255#8).getLsbD j = true := by decide
    exact this _ h4
   simp [hi, h, h2, h3]
 rw [e1, Bool.or_comm (B w |>.getLsbD i)]
theorem mask_clr (b w : Int) (hb0 : 0 ≤ b) (hb1 : b < 256) (h0 : 0 ≤ w) (h1 : w < 256) (n : Nat) (hn : n ≤ 8) : Go.bits .and .u8 b (Go.bits .or .u8 w ((255 * 2 ^ n) % 256)) = clr b w n := by
 obtain ⟨c0, c1⟩ := clr_range b w hb0 hb1 n
 rw [← toNat_B (clr b w n) c0 c1]
 have hr : ∀ x, Go.bits .and .u8 b x = ((B (Go.bits .and .u8 b x)).toNat : Int) := by
  intro x
  rw [toNat_B]
  ·rw [bits_and_u8]; omega
  ·rw [bits_and_u8]; have := (B b &&& B x).isLt; omega
 rw [hr]
 congr 2
 apply BitVec.eq_of_getLsbD_eq
 intro i hi
 rw [mask_bit b w n i hi, clr_bit b w h0 h1 n hn i hi]
/-- On a byte 255 the word itself. -/
theorem clr_blank (w : Int) (h0 : 0 ≤ w) (h1 : w < 256) (N : Nat) (hN : N = 8) : clr 255 w N = w := by
 obtain ⟨e0, e1⟩ := clr_range 255 w (by omega) (by omega) N
 refine (toNat_B _ e0 e1).symm.trans (Eq.trans ?_ (toNat_B w h0 h1))
 congr 2
 apply BitVec.eq_of_getLsbD_eq
 intro i hi
 rw [clr_bit _ w h0 h1 N (by omega) i hi]
 have : (B 255).getLsbD i = true := by
  have h : ∀ j, j < 8 → (BitVec.ofInt 8 255).getLsbD j = true := by decide
  exact h i hi
 have h8 : decide (N ≤ i) = false := by simp; omega
 rw [this, h8]; rfl
end Go.Proofs.Ytjadcjkjpkkmkaa.M

/- Plain facts on flashes: texts spliced, words programmed, sectors erased, byte by byte; no memory in sight. -/
set_option linter.unnecessarySimpa false
set_option linter.unusedSimpArgs false
set_option linter.unusedVariables false
namespace Go.Proofs.Ytjadcjkjpkkmkaa.M
open Go.RowKit Go.Proofs.YtjadcjkjpkkmkaaW.PrintWords Go.Proofs.YtjadcjkjpkkmkaaW.PrintLast Go.Proofs.YtjadcjkjpkkmkaaW.PrintMore Go.Proofs.Ytjadcjkjpkkmkaa.Hand
theorem bt_lt (s : ByteArray) (i : Nat) (h : i < s.size) : bt s i = ((s[i]'h).toNat : Int) := bt_nat s i h
theorem bt_u8 (s : ByteArray) (i : Int) : 0 ≤ bt s i ∧ bt s i < 256 := by
 have := bt_range s i; omega
theorem bt_ext {a b : ByteArray} (h : a.size = b.size) (h2 : ∀ i : Nat, i < a.size → bt a i = bt b i) : a = b := by
 apply ByteArray.ext
 apply Array.ext h
 intro i h1 h3
 have := h2 i h1
 rw [bt_lt a i h1, bt_lt b i h3] at this
 have h4 : (a[i]'h1).toNat = (b[i]'h3).toNat := by exact_mod_cast this
 exact UInt8.toNat_inj.mp h4
theorem bt_data (s : ByteArray) (i : Nat) : bt s i = ((s.data.toList.getD i 0).toNat : Int) := by
 by_cases h : i < s.size
 ·rw [bt_lt s i h]
  have h' : i < s.data.toList.length := by rw [data_length]; exact h
  simp [List.getD_eq_getElem?_getD, List.getElem?_eq_getElem h']
  rfl
 ·have h' : ¬ i < s.data.toList.length := by rw [data_length]; exact h
  unfold bt
  rw [dif_neg (by simpa using h)]
  simp [List.getD_eq_getElem?_getD, List.getElem?_eq_none (Nat.le_of_not_lt h')]
theorem bt_append (a b : ByteArray) (i : Nat) : bt (a ++ b) i = if i < a.size then bt a i else bt b ((i - a.size : Nat) : Int) := by
 rw [bt_data, bt_data, bt_data]
 have hd : (a ++ b).data.toList = a.data.toList ++ b.data.toList := by simp
 rw [hd]
 have hl : a.data.toList.length = a.size := data_length a
 split
 ·rename_i h
  rw [List.getD_eq_getElem?_getD, List.getElem?_append_left (by omega), ← List.getD_eq_getElem?_getD]
 ·rename_i h
  rw [List.getD_eq_getElem?_getD, List.getElem?_append_right (by omega), ← List.getD_eq_getElem?_getD, hl]
theorem bt_extract (a : ByteArray) (s e i : Nat) (h : i < min e a.size - s) : bt (a.extract s e) i = bt a ((s + i : Nat) : Int) := by
 have h1 : i < (a.extract s e).size := by rw [ByteArray.size_extract]; exact h
 have h2 : s + i < a.size := by omega
 rw [bt_lt _ _ h1, bt_lt a (s + i) h2]
 simp [ByteArray.getElem_extract]
theorem bt_strOfNums (l : List Int) (i : Nat) (h : i < l.length) (h0 : 0 ≤ l.getD i 0) (h1 : l.getD i 0 < 256) : bt (strOfNums l) i = l.getD i 0 := by
 rw [bt_data]
 have e : (strOfNums l).data.toList = l.map fun n => UInt8.ofNat n.toNat := rfl
 rw [e]
 simp only [List.getD_eq_getElem?_getD, List.getElem?_map, List.getElem?_eq_getElem h, Option.map_some, Option.getD_some] at *
 simp
 omega
/-- A flash, some bytes of it others. -/
def sp (f : ByteArray) (at_ : Nat) (t : ByteArray) : ByteArray := (f.extract 0 at_ ++ t) ++ f.extract (at_ + t.size) f.size
theorem sp_size (f : ByteArray) (at_ : Nat) (t : ByteArray) (h : at_ + t.size ≤ f.size) : (sp f at_ t).size = f.size := by
 simp [sp, ByteArray.size_append, ByteArray.size_extract]; omega
theorem sp_bt (f : ByteArray) (at_ : Nat) (t : ByteArray) (h : at_ + t.size ≤ f.size) (i : Nat) (hi : i < f.size) :
  bt (sp f at_ t) i = if at_ ≤ i ∧ i < at_ + t.size then bt t ((i - at_ : Nat) : Int) else bt f i := by
 have s1 : (f.extract 0 at_).size = at_ := by rw [ByteArray.size_extract]; omega
 have s2 : (f.extract 0 at_ ++ t).size = at_ + t.size := by rw [ByteArray.size_append, s1]
 unfold sp
 rw [bt_append, s2]
 by_cases c1 : i < at_ + t.size
 ·rw [if_pos c1, bt_append, s1]
  by_cases c2 : i < at_
  ·rw [if_pos c2, if_neg (by omega), bt_extract _ _ _ _ (by omega), Nat.zero_add]
  ·rw [if_neg c2, if_pos ⟨by omega, c1⟩]
 ·rw [if_neg c1, if_neg (by omega), bt_extract _ _ _ _ (by omega)]
  congr 2; omega
/-- How many bits of byte j are programmed. -/
def tn (many : Int) (j : Nat) : Nat := (mn (mx (many - 8 * (j : Int)) 0) 8).toNat
theorem tn_eq (many : Int) (j : Nat) (h : 0 ≤ many) : tn many j = min (many.toNat - 8 * j) 8 := by
 unfold tn mn mx; split <;> split <;> omega
theorem tn_le (many : Int) (j : Nat) : tn many j ≤ 8 := by unfold tn mn mx; split <;> split <;> omega
theorem tornB_clr (f : ByteArray) (at_ : Nat) (x : ByteArray) (many : Int) (j : Nat) : tornB f at_ x many j = clr (bt f ((at_ + j : Nat) : Int)) (bt x j) (tn many j) := by
 unfold tornB maskV
 have h := mask_clr (bt f ((at_ + j : Nat) : Int)) (bt x j) (bt_u8 _ _).1 (bt_u8 _ _).2 (bt_u8 _ _).1 (bt_u8 _ _).2 (tn many j) (tn_le _ _)
 exact h
theorem tornF_size (f : ByteArray) (at_ : Nat) (x : ByteArray) (many : Int) (h : at_ + 4 ≤ f.size) : (tornF f at_ x many).size = f.size := by
 have : (strOfNums (tornL f at_ x many 4)).size = 4 := by rw [strOfNums_size', tornL_length]
 have h2 := sp_size f at_ (strOfNums (tornL f at_ x many 4)) (by omega)
 unfold sp at h2
 rw [this] at h2
 exact h2
theorem tornF_bt (f : ByteArray) (at_ : Nat) (x : ByteArray) (many : Int) (h : at_ + 4 ≤ f.size) (i : Nat) (hi : i < f.size) :
  bt (tornF f at_ x many) i = if at_ ≤ i ∧ i < at_ + 4 then clr (bt f i) (bt x ((i - at_ : Nat) : Int)) (tn many (i - at_)) else bt f i := by
 have hs : (strOfNums (tornL f at_ x many 4)).size = 4 := by rw [strOfNums_size', tornL_length]
 have h2 := sp_bt f at_ (strOfNums (tornL f at_ x many 4)) (by omega) i hi
 unfold sp at h2
 rw [hs] at h2
 unfold tornF
 rw [h2]
 by_cases c : at_ ≤ i ∧ i < at_ + 4
 ·rw [if_pos c, if_pos c]
  have hj : i - at_ < 4 := by omega
  have hg : (tornL f at_ x many 4).getD (i - at_) 0 = tornB f at_ x many (i - at_) := by simp [tornL, List.getD_eq_getElem?_getD, hj]
  have hc := tornB_clr f at_ x many (i - at_)
  rw [show at_ + (i - at_) = i by omega] at hc
  have hr := clr_range (bt f i) (bt x ((i - at_ : Nat) : Int)) (bt_u8 _ _).1 (bt_u8 _ _).2 (tn many (i - at_))
  rw [bt_strOfNums _ _ (by rw [tornL_length]; exact hj) (by rw [hg, hc]; exact hr.1) (by rw [hg, hc]; exact hr.2), hg, hc]
 ·rw [if_neg c, if_neg c]
theorem rL_at (f : ByteArray) (at_ : Nat) (x : ByteArray) (h : at_ + 4 ≤ f.size) (k : Nat) (hk : k ≤ 32) (j : Nat) (hj : j < 4) : (rL f at_ x k).getD j 0 = clr (bt f ((at_ + j : Nat) : Int)) (bt x j) (min (k - 8 * j) 8) := by
 induction k with
 | zero =>
  rw [rL, show min (0 - 8 * j) 8 = 0 by omega, clr]
  have hs : (f.extract at_ (at_ + 4)).size = 4 := by rw [ByteArray.size_extract]; omega
  have e1 := rd_bytesOf (f.extract at_ (at_ + 4)) (j : Int)
  have e2 : rd (bytesOf (f.extract at_ (at_ + 4))) (j : Int) = (bytesOf (f.extract at_ (at_ + 4))).getD j 0 := by unfold rd; simp
  rw [← e2, e1, bt_extract _ _ _ _ (by omega)]
 | succ k ih =>
  have ih := ih (by omega)
  have hlen := rL_length f at_ x k h
  rw [rL, rstep]
  by_cases e : k / 8 = j
  ·have e1 : min (k + 1 - 8 * j) 8 = k % 8 + 1 := by omega
   have e2 : min (k - 8 * j) 8 = k % 8 := by omega
   rw [e2] at ih
   rw [e1, clr, ← ih]
   unfold zeroBit
   rw [e]
   split
   ·simp [List.getD_eq_getElem?_getD, hlen, hj]
   ·rfl
  ·have e1 : min (k + 1 - 8 * j) 8 = min (k - 8 * j) 8 := by omega
   rw [e1, ← ih]
   split
   ·simp [List.getD_eq_getElem?_getD, e]
   ·rfl
theorem rtornF_eq (f : ByteArray) (at_ : Nat) (x : ByteArray) (many : Int) (h : at_ + 4 ≤ f.size) (h0 : 0 ≤ many) (h1 : many ≤ 32) : rtornF f at_ x many.toNat = tornF f at_ x many := by
 unfold rtornF tornF
 congr 3
 apply List.ext_getElem
 ·rw [rL_length _ _ _ _ h, tornL_length]
 ·intro j h2 h3
  rw [tornL_length] at h3
  have e1 := rL_at f at_ x h many.toNat (by omega) j h3
  have e2 : (tornL f at_ x many 4).getD j 0 = tornB f at_ x many j := by simp [tornL, List.getD_eq_getElem?_getD, h3]
  have e3 := tornB_clr f at_ x many j
  rw [tn_eq many j h0] at e3
  rw [List.getD_eq_getElem?_getD, List.getElem?_eq_getElem h2] at e1
  rw [List.getD_eq_getElem?_getD, List.getElem?_eq_getElem (by rw [tornL_length]; exact h3)] at e2
  simp only [Option.getD_some] at e1 e2
  rw [e1, e2, e3]
/-- n bytes 255. -/
def ff (n : Nat) : ByteArray := ⟨(List.replicate n 255).toArray⟩
theorem ff_size (n : Nat) : (ff n).size = n := by simp [ff, ByteArray.size]
theorem ff_bt (n i : Nat) (h : i < n) : bt (ff n) i = 255 := by
 rw [bt_data]
 simp [ff, List.getD_eq_getElem?_getD, h]
theorem ff_strOfNums (n : Nat) : strOfNums (List.replicate n 255) = ff n := by
 simp [strOfNums, ff]
/-- A flash, the first bytes of a sector erased. -/
def wornF (f : ByteArray) (s many : Nat) : ByteArray := sp f (s * 96) (ff many)
end Go.Proofs.Ytjadcjkjpkkmkaa.M

/- Plain facts: what the reference's PutEntry answers for every record, in closed form; no memory in sight. -/
set_option linter.unnecessarySimpa false
set_option linter.unusedSimpArgs false
set_option linter.unusedVariables false
namespace Go.Proofs.Ytjadcjkjpkkmkaa.M
open Go.RowKit Go.Proofs.YtjadcjkjpkkmkaaW.PrintWords Go.Proofs.YtjadcjkjpkkmkaaW.PrintLast Go.Proofs.YtjadcjkjpkkmkaaW.PrintMore Go.Proofs.Ytjadcjkjpkkmkaa.Hand
/-- Byte i of a number, the lowest first. -/
def lb (x : Int) (i : Nat) : Int := x / 2 ^ (8 * i) % 256
theorem lb_range (x : Int) (i : Nat) : 0 ≤ lb x i ∧ lb x i < 256 := by unfold lb; omega
theorem low1 (x : Int) : PBase.skiffref1_Low.f 6 x 1 = some (strOfNums [lb x 0]) := by
 simp [PBase.skiffref1_Low.f, PBase.skiffref1_Low.l0, wrap64, shr, lb, IntKind.bits]
theorem low2 (x : Int) : PBase.skiffref1_Low.f 6 x 2 = some (strOfNums [lb x 0, lb x 1]) := by
 simp [PBase.skiffref1_Low.f, PBase.skiffref1_Low.l0, wrap64, shr, lb, IntKind.bits]
theorem low4 (x : Int) : PBase.skiffref1_Low.f 6 x 4 = some (strOfNums [lb x 0, lb x 1, lb x 2, lb x 3]) := by
 simp [PBase.skiffref1_Low.f, PBase.skiffref1_Low.l0, wrap64, shr, lb, IntKind.bits]
/-- May a record be put? -/
def recMay (q sl sz sm : Int) : Bool := decide (1 ≤ q ∧ q ≤ 1048576 ∧ 0 ≤ sl ∧ sl ≤ 1 ∧ 1 ≤ sz ∧ sz ≤ 288 ∧ 0 ≤ sm ∧ sm ≤ 4294967295)
theorem upTo_eq' (a b c : Int) : PBase.skiffref1_upTo.f a b c = some (decide (b ≤ a ∧ a ≤ c)) := by
 unfold PBase.skiffref1_upTo.f
 by_cases h1 : a ≥ b
 ·simp [h1, show b ≤ a from h1]
 ·simp [h1, show ¬ b ≤ a from h1]
theorem RecordMay_eq (q sl sz sm : Int) : PBase.skiffref1_RecordMay.f q sl sz sm = some (recMay q sl sz sm) := by
 unfold PBase.skiffref1_RecordMay.f recMay
 simp only [upTo_eq', Option.bind_some]
 by_cases h1 : 1 ≤ q ∧ q ≤ 1048576
 ·by_cases h2 : 0 ≤ sl ∧ sl ≤ 1
  ·by_cases h3 : 1 ≤ sz ∧ sz ≤ 288
   ·simp [h1, h2, h3]
   ·rw [if_pos (by simpa using h1), if_pos (by simpa using h2), if_neg (by simpa using h3)]; congr 1; symm; rw [decide_eq_false_iff_not]; omega
  ·rw [if_pos (by simpa using h1), if_neg (by simpa using h2)]; congr 1; symm; rw [decide_eq_false_iff_not]; omega
 ·rw [if_neg (by simpa using h1)]; congr 1; symm; rw [decide_eq_false_iff_not]; omega
/-- The twelve bytes of a record. -/
def entL (q sl sz sm : Int) : List Int := [lb q 0, lb q 1, lb q 2, lb q 3, lb sl 0, 0, lb sz 0, lb sz 1, lb sm 0, lb sm 1, lb sm 2, lb sm 3]
/-- The bytes of a record: these, and their complements. -/
def ent (q sl sz sm : Int) : ByteArray := strOfNums (entL q sl sz sm ++ (entL q sl sz sm).map fun x => (255 - x) % 256)
theorem ent_size (q sl sz sm : Int) : (ent q sl sz sm).size = 24 := by rw [ent, strOfNums_size']; rfl
theorem bytesOf_strOfNums (l : List Int) (h : ∀ x ∈ l, 0 ≤ x ∧ x < 256) : bytesOf (strOfNums l) = l := by
 induction l with
 | nil => rfl
 | cons x xs ih =>
  have e : bytesOf (strOfNums (x :: xs)) = ((UInt8.ofNat x.toNat).toNat : Int) :: bytesOf (strOfNums xs) := by simp [bytesOf, strOfNums]
  rw [e, ih (fun y hy => h y (List.mem_cons_of_mem _ hy))]
  have := h x List.mem_cons_self
  congr 1
  rw [UInt8.toNat_ofNat']; omega
theorem strOfNums_append (a b : List Int) : strOfNums a ++ strOfNums b = strOfNums (a ++ b) := by
 simp [strOfNums, ByteArray.mk_append_mk]
theorem PutEntry_at (q sl sz sm : Int) (k : Nat) (hk : k = 6) : skiffref1_PutEntry.f k q sl sz sm = some (if recMay q sl sz sm = true then (ent q sl sz sm, 0) else (⟨#[]⟩, 400)) := by
 subst hk
 unfold skiffref1_PutEntry.f
 rw [RecordMay_eq, Option.bind_some]
 by_cases h : recMay q sl sz sm = true
 ·rw [if_pos h, if_pos h, low4, low1, low1, low2, low4]
  simp only [Option.bind_some, strOfNums_append, strOfNums_size']
  have z : strOfNums ([lb q 0, lb q 1, lb q 2, lb q 3] ++ [lb sl 0] ++ [lb 0 0] ++ [lb sz 0, lb sz 1] ++ [lb sm 0, lb sm 1, lb sm 2, lb sm 3]) = strOfNums (entL q sl sz sm) := rfl
  rw [z]
  unfold putFin
  rw [strOfNums_size', bytesOf_strOfNums]
  ·rfl
  ·intro x hx
   simp only [entL, List.mem_cons, List.mem_nil_iff, or_false] at hx
   rcases hx with rfl | rfl | rfl | rfl | rfl | rfl | rfl | rfl | rfl | rfl | rfl | rfl <;> first | exact lb_range _ _ | omega
 ·rw [if_neg h, if_neg h]
def putV (q sl sz sm : Int) : ByteArray × Int := if recMay q sl sz sm = true then (ent q sl sz sm, 0) else (⟨#[]⟩, 400)
theorem PutEntry_ev (q sl sz sm : Int) : Ev (fun k => skiffref1_PutEntry.f k q sl sz sm) (putV q sl sz sm) :=
 Ev.of (fun k => skiffref1_PutEntry.mono q sl sz sm k) (PutEntry_at q sl sz sm 6 rfl)
end Go.Proofs.Ytjadcjkjpkkmkaa.M

/- Plain facts: what the program's ops and the reference's answer for every flash, step and cut: the same; no memory in sight. -/
set_option linter.unnecessarySimpa false
set_option linter.unusedSimpArgs false
set_option linter.unusedVariables false
namespace Go.Proofs.Ytjadcjkjpkkmkaa.M
open Go.RowKit Go.Proofs.YtjadcjkjpkkmkaaW.PrintWords Go.Proofs.YtjadcjkjpkkmkaaW.PrintLast Go.Proofs.YtjadcjkjpkkmkaaW.PrintMore Go.Proofs.Ytjadcjkjpkkmkaa.Hand Go.Proofs.Ytjadcjkjpkkmkaa.PAll
/-- Evaluation that ends: one step of a function with rounds. -/
theorem Ev.one {α : Type} {g : Nat → Option α} {r : α} (h : ∀ k, g (k + 1) = some r) : Ev g r := ⟨1, fun k hk => by obtain ⟨m, rfl⟩ : ∃ m, k = m + 1 := ⟨k - 1, by omega⟩; exact h m⟩
theorem Ev.always {α : Type} {g : Nat → Option α} {r : α} (h : ∀ k, g k = some r) : Ev g r := ⟨0, fun k _ => h k⟩
abbrev I64 (x : Int) : Prop := -9223372036854775808 ≤ x ∧ x ≤ 9223372036854775807
theorem wrap_id {x : Int} (h : I64 x) : wrap64 x = x := by unfold wrap64; omega
/-- May a step be? -/
def opMay (e : Bool) (a : Int) (t : ByteArray) : Bool :=
 if e = true then decide (0 ≤ a ∧ a ≤ 672 ∧ a % 96 = 0 ∧ t.size = 0) else decide (0 ≤ a ∧ a ≤ 764 ∧ a % 4 = 0 ∧ t.size = 4)
theorem toList_nil (t : ByteArray) : (t.toList == ([] : List UInt8)) = decide (t.size = 0) := by
 rw [ByteArray.toList_eq]
 have h := data_length t
 cases hl : t.data.toList with
 | nil => rw [hl] at h; simp at h; exact (decide_eq_true h.symm).symm
 | cons a l => rw [hl] at h; simp at h; exact (decide_eq_false (by omega)).symm
theorem toList_inj {a b : ByteArray} : a.toList = b.toList ↔ a = b := by
 rw [ByteArray.toList_eq, ByteArray.toList_eq]
 exact ⟨fun h => Go.WideShapes.bytes_inj h, fun h => by rw [h]⟩
theorem upTo_eq (a b c : Int) : PBase.skiffref1_upTo.f a b c = some (decide (b ≤ a ∧ a ≤ c)) := by
 unfold PBase.skiffref1_upTo.f
 by_cases h : a ≥ b
 ·rw [if_pos h]; congr 1; simp; omega
 ·rw [if_neg h]; congr 1; symm; simp; omega
theorem ref_OpMay_eq (e : Bool) (a : Int) (t : ByteArray) : skiffref1_OpMay.f e a t = some (opMay e a t) := by
 unfold skiffref1_OpMay.f opMay
 cases e with
 | true =>
  rw [if_pos rfl, if_pos rfl, upTo_eq]
  simp only [Option.bind_some]
  by_cases h0 : 0 ≤ a ∧ a ≤ 672
  ·rw [if_pos (by simpa using h0), Int.tmod_eq_emod_of_nonneg h0.1]
   by_cases h1 : a % 96 = 0
   ·rw [if_pos h1, toList_nil]; congr 1; exact decide_eq_decide.mpr ⟨fun h => ⟨by omega, by omega, h1, h⟩, fun h => h.2.2.2⟩
   ·rw [if_neg h1]; congr 1; symm; simp; omega
  ·rw [if_neg (by simpa using h0)]; congr 1; symm; simp; omega
 | false =>
  rw [if_neg (by decide), if_neg (by decide)]
  unfold skiffref1_wordAt.f
  rw [upTo_eq]
  simp only [Option.bind_some]
  by_cases h0 : 0 ≤ a ∧ a ≤ 764
  ·rw [if_pos (by simpa using h0), Int.tmod_eq_emod_of_nonneg h0.1]
   simp only [Option.bind_some]
   by_cases h1 : a % 4 = 0
   ·rw [if_pos (by simpa using h1)]; congr 1; rw [Bool.eq_iff_iff]; simp; omega
   ·rw [if_neg (by simpa using h1)]; congr 1; symm; simp; omega
  ·rw [if_neg (by simpa using h0)]
   simp only [Option.bind_some]
   rw [if_neg (by decide)]; congr 1; symm; simp; omega
theorem full_go (n : Int) (hn : n ≤ 1000) (d : Nat) : ∀ (k : Nat) (i : Int), 0 ≤ i → i ≤ n → (n - i).toNat = d → d < k → skiffref1_full.l0 k n (List.replicate i.toNat 255 ++ List.replicate (n - i).toNat 0) i = some (ff n.toNat) := by
 induction d with
 | zero =>
  intro k i h0 h1 hd hk
  obtain ⟨k, rfl⟩ : ∃ m, k = m + 1 := ⟨k - 1, by omega⟩
  have hin : i = n := by omega
  subst hin
  simp only [skiffref1_full.l0]
  rw [if_neg (by omega)]
  simp [ff_strOfNums]
 | succ d ih =>
  intro k i h0 h1 hd hk
  obtain ⟨k, rfl⟩ : ∃ m, k = m + 1 := ⟨k - 1, by omega⟩
  simp only [skiffref1_full.l0]
  have hl : (List.replicate i.toNat (255 : Int) ++ List.replicate (n - i).toNat 0).length = n.toNat := by simp; omega
  rw [if_pos (by omega), if_pos h0, if_pos (by rw [hl]; omega), wrap_id (by omega)]
  have e : (List.replicate i.toNat (255 : Int) ++ List.replicate (n - i).toNat 0).set i.toNat 255 = List.replicate (i + 1).toNat 255 ++ List.replicate (n - (i + 1)).toNat 0 := by
   rw [show (n - i).toNat = (n - (i + 1)).toNat + 1 by omega, List.replicate_succ, show (i + 1).toNat = i.toNat + 1 by omega, List.replicate_succ']
   rw [List.set_append_right _ _ (by simp)]
   simp
  rw [e]
  exact ih k (i + 1) (by omega) (by omega) (by omega) (by omega)
theorem full_ev (n : Int) (h0 : 0 ≤ n) (hn : n ≤ 1000) : Ev (fun k => skiffref1_full.f k n) (ff n.toNat) := by
 refine Ev.of (fun k => skiffref1_full.mono _ _) (k := n.toNat + 1) ?_
 unfold skiffref1_full.f
 rw [if_pos h0, if_pos (by omega)]
 have := full_go n hn n.toNat (n.toNat + 1) 0 (by omega) h0 (by omega) (by omega)
 simpa using this
theorem ref_Worn_ev (f : ByteArray) (s m : Int) (hf : f.size = 768) (h0 : 0 ≤ s) (h1 : s < 8) (h2 : 0 ≤ m) (h3 : m ≤ 96) : Ev (fun k => skiffref1_Worn.f k f s m) (wornF f s.toNat m.toNat, 0) := by
 unfold skiffref1_Worn.f skiffref1_FlashMay.f
 simp only [Option.bind_some, hf, upTo_eq]
 have e1 : decide (0 ≤ s ∧ s ≤ 7) = true := by simp; omega
 have e2 : decide (0 ≤ m ∧ m ≤ 96) = true := by simp; omega
 have e3 : ((768 : Nat) : Int) == 768 := rfl
 simp only [e1, e2, e3, if_true]
 have w1 : wrap64 (s * 96) = s * 96 := wrap_id (by omega)
 have w2 : wrap64 (s * 96 + m) = s * 96 + m := wrap_id (by omega)
 simp only [w1, w2, if_pos (show 0 ≤ s * 96 by omega), if_pos (show s * 96 ≤ ((768 : Nat) : Int) by omega)]
 refine Ev.bind (full_ev m h2 (by omega)) ?_
 have s1 : (f.extract 0 (s * 96).toNat).size = (s * 96).toNat := by rw [ByteArray.size_extract]; omega
 have s2 : (f.extract (s * 96 + m).toNat 768).size = 768 - (s * 96 + m).toNat := by rw [ByteArray.size_extract]; omega
 refine Ev.always fun k => ?_
 rw [if_pos (by rw [s1, ff_size]; omega), if_pos (by omega), if_pos (by omega), if_pos (by rw [ByteArray.size_append, s1, s2, ff_size]; omega)]
 unfold wornF sp
 rw [ff_size, hf, show (s * 96).toNat = s.toNat * 96 by omega, show (s * 96 + m).toNat = s.toNat * 96 + m.toNat by omega]
end Go.Proofs.Ytjadcjkjpkkmkaa.M

