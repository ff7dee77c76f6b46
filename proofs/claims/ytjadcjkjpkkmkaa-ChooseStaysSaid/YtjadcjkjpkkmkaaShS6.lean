import Derived.Test.YtjadcjkjpkkmkaaShS5
-- Laid together from this session's own texts by its program wip/tools/shake.py.
-- Written by this session's own program (wip/tools/myprint.py), which runs the kit's print over functions proved by hand.
namespace Go.Proofs.Ytjadcjkjpkkmkaa.PAll
open Go.RowKit Go.Proofs.YtjadcjkjpkkmkaaW.PrintWords Go.Proofs.YtjadcjkjpkkmkaaW.PrintLast Go.Proofs.YtjadcjkjpkkmkaaW.PrintMore
attribute [local go_sem] max2_int min2_int max_two min_two max_three min_three max_four min_four   -- for this text's walks alone
set_option linter.unusedVariables false
set_option linter.unusedSimpArgs false
mutual
def skiffref1_FreePlace.j0 : Nat → ByteArray → Int → Bool → Option (Int × Bool × Int)
 | 0, _, _, _ => none
 | k + 1, x0, x1, x15 => if x15 = true then (some (0, false, 500)) else (skiffref1_FreePlace.l0 k x0 x1 (wrap64 (x1 * 96)))
def skiffref1_FreePlace.l0 : Nat → ByteArray → Int → Int → Option (Int × Bool × Int)
 | 0, _, _, _ => none
 | k + 1, x0, x1, x7 => if (wrap64 (x7 + 24)) ≤ (wrap64 ((wrap64 (x1 + 1)) * 96)) then (if 0 ≤ x7 then (if x7 ≤ (wrap64 (x7 + 24)) then (if (wrap64 (x7 + 24)) ≤ (x0.size : Int) then ((skiffref1_full.f k 24).bind fun t223 => (if (x0.extract (x7 : Int).toNat ((wrap64 (x7 + 24)) : Int).toNat).toList = t223.toList then (some (x7, true, 0)) else (skiffref1_FreePlace.l0 k x0 x1 (wrap64 (x7 + 24))))) else (none)) else (none)) else (none)) else (some (0, false, 0))
end
def skiffref1_FreePlace.f (k : Nat) (a0 : ByteArray) (a1 : Int) : Option (Int × Bool × Int) := (skiffref1_FlashMay.f a0).bind fun t221 => (if t221 = true then ((PBase.skiffref1_upTo.f a1 0 1).bind fun t222 => (skiffref1_FreePlace.j0 k a0 a1 (!t222))) else (skiffref1_FreePlace.j0 k a0 a1 true))
set_option maxHeartbeats 8000000 in
set_option maxRecDepth 100000 in
theorem skiffref1_FreePlace.calls (k : Nat) (a0 : ByteArray) (a1 : Int) (r1 : Int) (r2 : Bool) (r3 : Int) (w : World) (h : skiffref1_FreePlace.f k a0 a1 = some (r1, r2, r3)) :
  Calls Try.prog 69 #[.string a0, .int .i64 a1] w fun e w' => e = .returned (.tuple #[.int .i64 r1, .bool r2, .int .i64 r3]) ∧ Below w.heap.size w w' := by
 have HB := Aside0.mk (Below.refl w.heap.size w)
 have H : ((skiffref1_FlashMay.f a0).bind fun t221 => (if t221 = true then ((PBase.skiffref1_upTo.f a1 0 1).bind fun t222 => (skiffref1_FreePlace.j0 k a0 a1 (!t222))) else (skiffref1_FreePlace.j0 k a0 a1 true))) = some (r1, r2, r3) := h
 clear h
 have HC3 := Aside0.mk H
 clear H
 go_enter Try.func69, Try.ntmps69
 go_upto_region 1 with (fail)
 go_cut [15] (fun v15 wc => ∃ (kq : Nat) (x15_2 : Bool), v15 = .bool x15_2 ∧ Aside0 (skiffref1_FreePlace.j0 kq a0 a1 x15_2 = some (r1, r2, r3)) ∧ Aside0 (kq ≤ k) ∧ Aside0 (Below w.heap.size w wc))
 case first =>
  have H := HC3.out
  clear HC3
  replace H := Option.bind_eq_some_iff.mp H
  obtain ⟨t221, A40, H⟩ := H
  replace H : (if t221 = true then ((PBase.skiffref1_upTo.f a1 0 1).bind fun t222 => (skiffref1_FreePlace.j0 k a0 a1 (!t222))) else (skiffref1_FreePlace.j0 k a0 a1 true)) = some (r1, r2, r3) := H
  have A4 := Aside0.mk A40
  clear A40
  by_cases c5 : t221 = true
  ·subst c5
   have H1 : ((PBase.skiffref1_upTo.f a1 0 1).bind fun t222 => (skiffref1_FreePlace.j0 k a0 a1 (!t222))) = some (r1, r2, r3) := by rw [if_pos rfl] at H; exact H
   clear H
   have H := H1
   clear H1
   replace H := Option.bind_eq_some_iff.mp H
   obtain ⟨t222, A60, H⟩ := H
   replace H : (skiffref1_FreePlace.j0 k a0 a1 (!t222)) = some (r1, r2, r3) := H
   have A6 := Aside0.mk A60
   clear A60
   have H' := Aside0.mk H
   clear H
   go_wp2_with (first | ((with_reducible refine gate_callee (f := 34) rfl ?_); refine goesL_ (some 9) rfl rfl Try.func34 (by kernel_rfl) rfl #[.string a0] rfl q1_ ?_; (with_reducible refine (skiffref1_FlashMay.calls a0 true _ A4.out).mono ?_); rintro e w' ⟨rfl, ⟨nd, rfl⟩⟩; refine ⟨_, rfl, ?_⟩) | (go_at_call 40; (with_reducible refine (PBase.skiffref1_upTo.calls a1 0 1 t222 _ A6.out).mono ?_); rintro e w' ⟨rfl, ⟨nd, rfl⟩⟩))
   go_meet
   case rel => exact ⟨_, (!t222), q15_, H', ⟨by first | omega | exact Nat.le_refl _⟩, ⟨by repeat (first | (with_reducible first | exact HB.out | apply below_alloc | apply pw_below_drewN | apply below_drew1) | exact HB.out)⟩⟩
  ·replace c5 := Bool.eq_false_iff.mpr c5
   subst c5
   have H1 : (skiffref1_FreePlace.j0 k a0 a1 true) = some (r1, r2, r3) := by rw [if_neg (show ¬ (false = true) by decide)] at H; exact H
   clear H
   have H := H1
   clear H1
   have H' := Aside0.mk H
   clear H
   go_wp2_with (first | ((with_reducible refine gate_callee (f := 34) rfl ?_); refine goesL_ (some 9) rfl rfl Try.func34 (by kernel_rfl) rfl #[.string a0] rfl q1_ ?_; (with_reducible refine (skiffref1_FlashMay.calls a0 false _ A4.out).mono ?_); rintro e w' ⟨rfl, ⟨nd, rfl⟩⟩; refine ⟨_, rfl, ?_⟩))
   go_meet
   case rel => exact ⟨_, (true), q15_, H', ⟨by first | omega | exact Nat.le_refl _⟩, ⟨by repeat (first | (with_reducible first | exact HB.out | apply below_alloc | apply pw_below_drewN | apply below_drew1) | exact HB.out)⟩⟩
 case rest =>
  clear HC3
  try clear p2
  try clear c3
  try clear c5
  try clear c6
  obtain ⟨kq, x15_2, rfl, HA, HJ2, HB⟩ := hcut
  cases kq with
  | zero => exact absurd HA.out (by simp [skiffref1_FreePlace.j0])
  | succ kj2 =>
   have H := HA.out
   clear HA
   simp only [skiffref1_FreePlace.j0] at H
   by_cases c7 : x15_2 = true
   ·subst c7
    have H1 : (some (0, false, 500)) = some (r1, r2, r3) := by rw [if_pos rfl] at H; exact H
    clear H
    have H := H1
    clear H1
    simp only [Option.some.injEq, Prod.mk.injEq] at H
    obtain ⟨rfl, rfl, rfl⟩ := H
    go_wp2
    go_ret3
    exact ⟨by first | rfl | (simp [errW_none, errW_some] <;> rfl) | (simp [*, errW_none, errW_some] <;> rfl), by repeat (first | (with_reducible first | exact HB.out | apply below_alloc | apply pw_below_drewN | apply below_drew1) | exact HB.out)⟩
   ·replace c7 := Bool.eq_false_iff.mpr c7
    subst c7
    have H1 : (skiffref1_FreePlace.l0 kj2 a0 a1 (wrap64 (a1 * 96))) = some (r1, r2, r3) := by rw [if_neg (show ¬ (false = true) by decide)] at H; exact H
    clear H
    have H := H1
    clear H1
    have H' := Aside0.mk H
    clear H
    go_wp2
    go_loopg [7] kj2 (fun kq v7 w' => ∃ (x7_2 : Int), v7 = .int .i64 x7_2 ∧ Aside0 (skiffref1_FreePlace.l0 kq a0 a1 x7_2 = some (r1, r2, r3)) ∧ Aside0 (kq ≤ kj2) ∧ Aside0 (Below w.heap.size w w'))
    case atStart => exact ⟨(wrap64 (a1 * 96)), q15_, H', ⟨Nat.le_refl _⟩, ⟨by repeat (first | (with_reducible first | exact HB.out | apply below_alloc | apply pw_below_drewN | apply below_drew1) | exact HB.out)⟩⟩
    case round =>
     clear H'
     try clear p2
     try clear c3
     try clear c5
     try clear c6
     try clear p6
     try clear c7
     try clear p2
     obtain ⟨x7_2, rfl, HA, HK2, HB⟩ := hrel
     cases gk with
     | zero => exact absurd HA.out (by simp [skiffref1_FreePlace.l0])
     | succ k2 =>
      have H := HA.out
      clear HA
      simp only [skiffref1_FreePlace.l0] at H
      by_cases c8 : (wrap64 (x7_2 + 24)) ≤ (wrap64 ((wrap64 (a1 + 1)) * 96))
      ·rw [if_pos c8] at H
       have c8b0 : decide ((wrap64 (x7_2 + 24)) ≤ (wrap64 ((wrap64 (a1 + 1)) * 96))) = true := decide_eq_true c8
       clear c8
       by_cases c9 : 0 ≤ x7_2
       ·rw [if_pos c9] at H
        have c9b0 := eq_true c9
        have c9b1 : decide (0 ≤ x7_2) = true := decide_eq_true c9
        clear c9
        by_cases c10 : x7_2 ≤ (wrap64 (x7_2 + 24))
        ·rw [if_pos c10] at H
         have c10b0 := eq_true c10
         have c10b1 : decide (x7_2 ≤ (wrap64 (x7_2 + 24))) = true := decide_eq_true c10
         by_cases c11 : (wrap64 (x7_2 + 24)) ≤ (a0.size : Int)
         ·rw [if_pos c11] at H
          have c11b0 := eq_true c11
          have c11b1 : decide ((wrap64 (x7_2 + 24)) ≤ (a0.size : Int)) = true := decide_eq_true c11
          replace H := Option.bind_eq_some_iff.mp H
          obtain ⟨t223, A120, H⟩ := H
          replace H : (if (a0.extract (x7_2 : Int).toNat ((wrap64 (x7_2 + 24)) : Int).toNat).toList = t223.toList then (some (x7_2, true, 0)) else (skiffref1_FreePlace.l0 k2 a0 a1 (wrap64 (x7_2 + 24)))) = some (r1, r2, r3) := H
          have A12 := Aside0.mk A120
          clear A120
          by_cases c13 : (a0.extract (x7_2 : Int).toNat ((wrap64 (x7_2 + 24)) : Int).toNat).toList = t223.toList
          ·rw [if_pos c13] at H
           have c13b0 : ((a0.extract (x7_2 : Int).toNat ((wrap64 (x7_2 + 24)) : Int).toNat).toList == t223.toList) = true := beq_iff_eq.mpr c13
           have c13b1 : ((a0.extract (x7_2 : Int).toNat ((wrap64 (x7_2 + 24)) : Int).toNat).toList != t223.toList) = false := bne_eq_false_iff_eq.mpr c13
           clear c13
           simp only [Option.some.injEq, Prod.mk.injEq] at H
           obtain ⟨rfl, rfl, rfl⟩ := H
           try go_wp2
           have n0_ := Aside0.mk (below_drew1 HB.out)
           clear HB
           have HB := n0_
           clear n0_
           refine start_ (n := 7) (S := fun w' => True) (ds := []) #[false, false, false, false, false, false, false] (by kernel_rfl) rfl rfl trivial (fun hHeld => ?_)
           generalize wr.drew = w14 at HB hHeld ⊢
           refine pure_ (i := 0) (N := some 26) (v := ?_) (a' := ?_) #[true, false, false, false, false, false, false] rfl rfl (by kernel_rfl) (fun _ _ _ h => h) (Or.inl ⟨by rfl, ?_⟩) ?_ ?_
           rotate_left
           ·intro w'
            go_simp
            with_reducible rfl
           rotate_left
           ·simp only [Act.put, List.setIfInBounds_toArray, List.set_cons_zero, List.set_cons_succ, i64_w, i32_w]
            rfl
           refine pure_ (i := 1) (N := some 27) (v := ?_) (a' := ?_) #[true, true, false, false, false, false, false] rfl rfl (by kernel_rfl) (fun _ _ _ h => h) (Or.inl ⟨by rfl, ?_⟩) ?_ ?_
           rotate_left
           ·intro w'
            go_simp
            with_reducible rfl
           rotate_left
           ·simp only [Act.put, List.setIfInBounds_toArray, List.set_cons_zero, List.set_cons_succ, i64_w, i32_w]
            rfl
           refine pure_ (i := 2) (N := some 28) (v := ?_) (a' := ?_) #[true, true, true, false, false, false, false] rfl rfl (by kernel_rfl) (fun _ _ _ h => h) (Or.inl ⟨by rfl, ?_⟩) ?_ ?_
           rotate_left
           ·intro w'
            go_simp
            with_reducible rfl
           rotate_left
           ·simp only [Act.put, List.setIfInBounds_toArray, List.set_cons_zero, List.set_cons_succ, i64_w, i32_w]
            rfl
           refine pure_ (i := 3) (N := some 29) (v := ?_) (a' := ?_) #[true, true, true, true, false, false, false] rfl rfl (by kernel_rfl) (fun _ _ _ h => h) (Or.inl ⟨by rfl, ?_⟩) ?_ ?_
           rotate_left
           ·intro w'
            go_simp
            with_reducible rfl
           rotate_left
           ·simp only [Act.put, List.setIfInBounds_toArray, List.set_cons_zero, List.set_cons_succ, i64_w, i32_w]
            rfl
           refine pure_ (i := 4) (N := some 30) (v := ?_) (a' := ?_) #[true, true, true, true, true, false, false] rfl rfl (by kernel_rfl) (fun _ _ _ h => h) (Or.inl ⟨by rfl, ?_⟩) ?_ ?_
           rotate_left
           ·intro w'
            go_simp
            with_reducible rfl
           rotate_left
           ·simp only [Act.put, List.setIfInBounds_toArray, List.set_cons_zero, List.set_cons_succ, i64_w, i32_w]
            rfl
           refine one_ (i := 5) (N := some 31) #[true, true, true, true, true, true, false] rfl rfl (by kernel_rfl) (by decide) (fun K hK => ?_)
           refine goes_ Try.func37 (by kernel_rfl) rfl #[.int .i64 24] (by rfl) rfl rfl q1_ ?_
           with_reducible refine (skiffref1_full.calls k2 24 t223 _ A12.out).mono ?_
           rintro e w15 ⟨rfl, hb⟩
           refine ⟨_, rfl, ?_⟩
           have n0_ := Aside0.mk (below_step q2_ hb)
           clear HB
           have HB := n0_
           clear n0_
           (try clear hb)
           (try clear hb2)
           (try clear hk)
           (try clear hi)
           refine hK.out _ _ trivial (fun hHeld => ?_)
           clear hK K
           refine norm_ (a' := ?_) ?_ ?_
           rotate_left
           ·show Act.put _ (some 31) _ = _
            simp only [Act.put, List.setIfInBounds_toArray, List.set_cons_zero, List.set_cons_succ, i64_w, i32_w]
            rfl
           refine pure_ (i := 6) (N := some 32) (v := ?_) (a' := ?_) #[true, true, true, true, true, true, true] rfl rfl (by kernel_rfl) (fun _ _ _ h => h) (Or.inl ⟨by rfl, ?_⟩) ?_ ?_
           rotate_left
           ·intro w'
            go_simp
            with_reducible rfl
           rotate_left
           ·simp only [Act.put, List.setIfInBounds_toArray, List.set_cons_zero, List.set_cons_succ, i64_w, i32_w]
            rfl
           refine done_ (by kernel_rfl) ?_
           try go_wp2
           go_ret3
           exact ⟨by first | rfl | (simp [errW_none, errW_some] <;> rfl) | (simp [*, errW_none, errW_some] <;> rfl), by repeat (first | (with_reducible first | exact HB.out | apply below_alloc | apply pw_below_drewN | apply below_drew1) | exact HB.out)⟩
          ·rw [if_neg c13] at H
           have c13b0 : ((a0.extract (x7_2 : Int).toNat ((wrap64 (x7_2 + 24)) : Int).toNat).toList == t223.toList) = false := beq_eq_false_iff_ne.mpr c13
           have c13b1 : ((a0.extract (x7_2 : Int).toNat ((wrap64 (x7_2 + 24)) : Int).toNat).toList != t223.toList) = true := bne_iff_ne.mpr c13
           have H' := Aside0.mk H
           clear H
           try go_wp2
           have n0_ := Aside0.mk (below_drew1 HB.out)
           clear HB
           have HB := n0_
           clear n0_
           refine start_ (n := 7) (S := fun w' => True) (ds := []) #[false, false, false, false, false, false, false] (by kernel_rfl) rfl rfl trivial (fun hHeld => ?_)
           generalize wr.drew = w16 at HB hHeld ⊢
           refine pure_ (i := 0) (N := some 26) (v := ?_) (a' := ?_) #[true, false, false, false, false, false, false] rfl rfl (by kernel_rfl) (fun _ _ _ h => h) (Or.inl ⟨by rfl, ?_⟩) ?_ ?_
           rotate_left
           ·intro w'
            go_simp
            with_reducible rfl
           rotate_left
           ·simp only [Act.put, List.setIfInBounds_toArray, List.set_cons_zero, List.set_cons_succ, i64_w, i32_w]
            rfl
           refine pure_ (i := 1) (N := some 27) (v := ?_) (a' := ?_) #[true, true, false, false, false, false, false] rfl rfl (by kernel_rfl) (fun _ _ _ h => h) (Or.inl ⟨by rfl, ?_⟩) ?_ ?_
           rotate_left
           ·intro w'
            go_simp
            with_reducible rfl
           rotate_left
           ·simp only [Act.put, List.setIfInBounds_toArray, List.set_cons_zero, List.set_cons_succ, i64_w, i32_w]
            rfl
           refine pure_ (i := 2) (N := some 28) (v := ?_) (a' := ?_) #[true, true, true, false, false, false, false] rfl rfl (by kernel_rfl) (fun _ _ _ h => h) (Or.inl ⟨by rfl, ?_⟩) ?_ ?_
           rotate_left
           ·intro w'
            go_simp
            with_reducible rfl
           rotate_left
           ·simp only [Act.put, List.setIfInBounds_toArray, List.set_cons_zero, List.set_cons_succ, i64_w, i32_w]
            rfl
           refine pure_ (i := 3) (N := some 29) (v := ?_) (a' := ?_) #[true, true, true, true, false, false, false] rfl rfl (by kernel_rfl) (fun _ _ _ h => h) (Or.inl ⟨by rfl, ?_⟩) ?_ ?_
           rotate_left
           ·intro w'
            go_simp
            with_reducible rfl
           rotate_left
           ·simp only [Act.put, List.setIfInBounds_toArray, List.set_cons_zero, List.set_cons_succ, i64_w, i32_w]
            rfl
           refine pure_ (i := 4) (N := some 30) (v := ?_) (a' := ?_) #[true, true, true, true, true, false, false] rfl rfl (by kernel_rfl) (fun _ _ _ h => h) (Or.inl ⟨by rfl, ?_⟩) ?_ ?_
           rotate_left
           ·intro w'
            go_simp
            with_reducible rfl
           rotate_left
           ·simp only [Act.put, List.setIfInBounds_toArray, List.set_cons_zero, List.set_cons_succ, i64_w, i32_w]
            rfl
           refine one_ (i := 5) (N := some 31) #[true, true, true, true, true, true, false] rfl rfl (by kernel_rfl) (by decide) (fun K hK => ?_)
           refine goes_ Try.func37 (by kernel_rfl) rfl #[.int .i64 24] (by rfl) rfl rfl q1_ ?_
           with_reducible refine (skiffref1_full.calls k2 24 t223 _ A12.out).mono ?_
           rintro e w17 ⟨rfl, hb⟩
           refine ⟨_, rfl, ?_⟩
           have n0_ := Aside0.mk (below_step q2_ hb)
           clear HB
           have HB := n0_
           clear n0_
           (try clear hb)
           (try clear hb2)
           (try clear hk)
           (try clear hi)
           refine hK.out _ _ trivial (fun hHeld => ?_)
           clear hK K
           refine norm_ (a' := ?_) ?_ ?_
           rotate_left
           ·show Act.put _ (some 31) _ = _
            simp only [Act.put, List.setIfInBounds_toArray, List.set_cons_zero, List.set_cons_succ, i64_w, i32_w]
            rfl
           refine pure_ (i := 6) (N := some 32) (v := ?_) (a' := ?_) #[true, true, true, true, true, true, true] rfl rfl (by kernel_rfl) (fun _ _ _ h => h) (Or.inl ⟨by rfl, ?_⟩) ?_ ?_
           rotate_left
           ·intro w'
            go_simp
            with_reducible rfl
           rotate_left
           ·simp only [Act.put, List.setIfInBounds_toArray, List.set_cons_zero, List.set_cons_succ, i64_w, i32_w]
            rfl
           refine done_ (by kernel_rfl) ?_
           try go_wp2
           go_roundg k2
           case measure => have := HJ2.out; have := HK2.out; omega
           case rel => exact ⟨(wrap64 (x7_2 + 24)), q15_, H', ⟨by have := HJ2.out; have := HK2.out; omega⟩, ⟨by repeat (first | (with_reducible first | exact HB.out | apply below_alloc | apply pw_below_drewN | apply below_drew1) | exact HB.out)⟩⟩
         ·rw [if_neg c11] at H
          exact absurd H (by simp)
        ·rw [if_neg c10] at H
         exact absurd H (by simp)
       ·rw [if_neg c9] at H
        exact absurd H (by simp)
      ·rw [if_neg c8] at H
       have c8b0 : decide ((wrap64 (x7_2 + 24)) ≤ (wrap64 ((wrap64 (a1 + 1)) * 96))) = false := decide_eq_false c8
       clear c8
       simp only [Option.some.injEq, Prod.mk.injEq] at H
       obtain ⟨rfl, rfl, rfl⟩ := H
       go_wp2
       go_ret3
       exact ⟨by first | rfl | (simp [errW_none, errW_some] <;> rfl) | (simp [*, errW_none, errW_some] <;> rfl), by repeat (first | (with_reducible first | exact HB.out | apply below_alloc | apply pw_below_drewN | apply below_drew1) | exact HB.out)⟩
mutual
def skiffref1_Append.j0 : Nat → ByteArray → ByteArray → Bool → Option ((List (S87)) × Int)
 | 0, _, _, _ => none
 | k + 1, x0, x6, x27 => if x27 = true then (some (([] : List (S87)), 800)) else ((skiffref1_Active.f k x0).bind fun bt228 => (if bt228.2.2.2.2.2 = 0 then (skiffref1_Append.j1 k x0 x6 (wrap64 (Int.tdiv bt228.1 96))) else (skiffref1_Append.j1 k x0 x6 0)))
def skiffref1_Append.j1 : Nat → ByteArray → ByteArray → Int → Option ((List (S87)) × Int)
 | 0, _, _, _ => none
 | k + 1, x0, x6, x8 => (skiffref1_FreePlace.f k x0 x8).bind fun bt235 => (if bt235.2.1 = true then ((skiffref1_Words.f k bt235.1 x6).bind fun bt238 => (if ([] : List (S87)).length + bt238.1.length < 4398046511104 then (some ((([] : List (S87)) ++ bt238.1), 0)) else (none))) else (if ([] : List (S87)).length < 4398046511104 then ((some (([] : List (S87)) ++ [(⟨true, wrap64 ((wrap64 (1 - x8)) * 96), (⟨#[]⟩ : ByteArray)⟩ : S87)] : List (S87))).bind fun y245 => ((skiffref1_Words.f k (wrap64 ((wrap64 (1 - x8)) * 96)) x6).bind fun bt248 => (if y245.length + bt248.1.length < 4398046511104 then (some ((y245 ++ bt248.1), 0)) else (none)))) else (none)))
end
def skiffref1_Append.f (k : Nat) (a0 : ByteArray) (a1_0 : Int) (a1_1 : Int) (a1_2 : Int) (a1_3 : Int) : Option ((List (S87)) × Int) := (Hand.skiffref1_PutEntry.f k a1_0 a1_1 a1_2 a1_3).bind fun bt225 => ((skiffref1_FlashMay.f a0).bind fun t227 => (if t227 = true then (skiffref1_Append.j0 k a0 bt225.1 (bt225.2 != 0)) else (skiffref1_Append.j0 k a0 bt225.1 true)))
set_option maxHeartbeats 8000000 in
set_option maxRecDepth 100000 in
theorem skiffref1_Append.calls (k : Nat) (a0 : ByteArray) (a1_0 : Int) (a1_1 : Int) (a1_2 : Int) (a1_3 : Int) (r1 : List (S87)) (r2 : Int) (w : World) (h : skiffref1_Append.f k a0 a1_0 a1_1 a1_2 a1_3 = some (r1, r2)) :
  Calls Try.prog 45 #[.string a0, .agg #[.int .i64 a1_0, .int .i64 a1_1, .int .i64 a1_2, .int .i64 a1_3]] w fun e w' => ∃ v0_ : Value, e = .returned (.tuple #[v0_, .int .i64 r2]) ∧ Kd.R k87 87 w' w.heap.size (fun _ => True) v0_ r1 ∧ Below w.heap.size w w' := by
 have hu23 := Try.underlying23
 have hu25 := Try.underlying25
 have hu87 := Try.underlying87
 have HB := Aside0.mk (Below.refl w.heap.size w)
 have H : ((Hand.skiffref1_PutEntry.f k a1_0 a1_1 a1_2 a1_3).bind fun bt225 => ((skiffref1_FlashMay.f a0).bind fun t227 => (if t227 = true then (skiffref1_Append.j0 k a0 bt225.1 (bt225.2 != 0)) else (skiffref1_Append.j0 k a0 bt225.1 true)))) = some (r1, r2) := h
 clear h
 replace H := Option.bind_eq_some_iff.mp H
 obtain ⟨⟨t225, t226⟩, A30, H⟩ := H
 replace H : ((skiffref1_FlashMay.f a0).bind fun t227 => (if t227 = true then (skiffref1_Append.j0 k a0 t225 (t226 != 0)) else (skiffref1_Append.j0 k a0 t225 true))) = some (r1, r2) := H
 have A3 := Aside0.mk A30
 clear A30
 have HC4 := Aside0.mk H
 clear H
 go_enter Try.func45, Try.ntmps45
 go_upto_region 2 with (first | ((with_reducible refine gate_dst (N := 3) rfl ?_); refine box_event ?hg (N := 3) ?hd (cs := #[.int .i64 a1_0, .int .i64 a1_1, .int .i64 a1_2, .int .i64 a1_3]) (t := 23) ?hr ?_; (case hd => rfl); (case hg => rfl); (case hr => first | (go_simp; done) | (go_simp; rfl)); intro gb224 hg w5 hbox hb; have n0_ := Aside0.mk (below_step q2_ hb); have n1_ := Aside0.mk (hbox); have n2_ := Aside0.mk ((by rw [hg]; exact (below_size q2_) : w.heap.size ≤ gb224)); have n3_ := Aside0.mk ((by rw [hg]; exact (below_size q2_) : w.heap.size ≤ gb224)); clear HB; have HB := n0_; have BK224 := n1_; have GW224 := n2_; have GE224 := n3_; clear n0_ n1_ n2_ n3_; clear hb hbox hg; have hcz6_0 : w5.cell? ⟨gb224, 0, none⟩ = some (.int .i64 a1_0) := (blk_cell BK224.out 0).trans rfl; have hcz6_1 : w5.cell? ⟨gb224, 1, none⟩ = some (.int .i64 a1_1) := (blk_cell BK224.out 1).trans rfl; have hcz6_2 : w5.cell? ⟨gb224, 2, none⟩ = some (.int .i64 a1_2) := (blk_cell BK224.out 2).trans rfl; have hcz6_3 : w5.cell? ⟨gb224, 3, none⟩ = some (.int .i64 a1_3) := (blk_cell BK224.out 3).trans rfl; have hfz6_0 := blk_frozen BK224.out 0; have hfz6_1 := blk_frozen BK224.out 1; have hfz6_2 := blk_frozen BK224.out 2; have hfz6_3 := blk_frozen BK224.out 3) | ((with_reducible refine gate_callee (f := 19) rfl ?_); refine goesL_ (some 18) rfl rfl Try.func19 (by kernel_rfl) rfl #[.agg #[.int .i64 a1_0, .int .i64 a1_1, .int .i64 a1_2, .int .i64 a1_3]] rfl q1_ ?_; (with_reducible refine (Hand.skiffref1_PutEntry.calls k a1_0 a1_1 a1_2 a1_3 t225 t226 _ A3.out).mono ?_); rintro e w7 ⟨rfl, hb⟩; refine ⟨_, rfl, ?_⟩; have n0_ := Aside0.mk (blk_below (g := gb224) (o := .cells #[.int .i64 a1_0, .int .i64 a1_1, .int .i64 a1_2, .int .i64 a1_3] 23 (0, 0)) (by (with_reducible repeat (first | refine blk_drewN ?_ _ | refine blk_drew ?_ | refine blk_alloc ?_ _)); exact BK224.out) hb); have n1_ := Aside0.mk (below_step (by repeat (first | (with_reducible first | exact HB.out | apply below_alloc | apply pw_below_drewN | apply below_drew1 | refine below_set ?_ GE224.out) | exact HB.out)) hb); clear BK224; clear HB; have BK224 := n0_; have HB := n1_; clear n0_ n1_; (try clear hb); (try clear hb2); (try clear hk); (try clear hi)))
 (try simp only [Act.put, List.setIfInBounds_toArray, List.set_cons_zero, List.set_cons_succ])
 go_cut [27] (fun v27 wc => ∃ (kq : Nat) (x27_3 : Bool), v27 = .bool x27_3 ∧ Aside0 (skiffref1_Append.j0 kq a0 t225 x27_3 = some (r1, r2)) ∧ Aside0 (kq ≤ k) ∧ Aside0 (wc.heap[gb224]? = some (.cells #[.int .i64 a1_0, .int .i64 a1_1, .int .i64 a1_2, .int .i64 a1_3] 23 (0, 0))) ∧ Aside0 (Below w.heap.size w wc))
 case first =>
  have H := HC4.out
  clear HC4
  replace H := Option.bind_eq_some_iff.mp H
  obtain ⟨t227, A80, H⟩ := H
  replace H : (if t227 = true then (skiffref1_Append.j0 k a0 t225 (t226 != 0)) else (skiffref1_Append.j0 k a0 t225 true)) = some (r1, r2) := H
  have A8 := Aside0.mk A80
  clear A80
  by_cases c9 : t227 = true
  ·subst c9
   have H1 : (skiffref1_Append.j0 k a0 t225 (t226 != 0)) = some (r1, r2) := by rw [if_pos rfl] at H; exact H
   clear H
   have H := H1
   clear H1
   have H' := Aside0.mk H
   clear H
   go_wp2_with (first | ((with_reducible refine gate_callee (f := 34) rfl ?_); refine goesL_ (some 22) rfl rfl Try.func34 (by kernel_rfl) rfl #[.string a0] rfl q1_ ?_; (with_reducible refine (skiffref1_FlashMay.calls a0 true _ A8.out).mono ?_); rintro e w' ⟨rfl, ⟨nd, rfl⟩⟩; refine ⟨_, rfl, ?_⟩))
   go_meet
   case rel => exact ⟨_, ((t226 != 0)), q15_, H', ⟨by first | omega | exact Nat.le_refl _⟩, ⟨by (with_reducible repeat (first | refine blk_drewN ?_ _ | refine blk_drew ?_ | refine blk_alloc ?_ _)); exact BK224.out⟩, ⟨by repeat (first | (with_reducible first | exact HB.out | apply below_alloc | apply pw_below_drewN | apply below_drew1 | refine below_set ?_ GE224.out) | exact HB.out)⟩⟩
  ·replace c9 := Bool.eq_false_iff.mpr c9
   subst c9
   have H1 : (skiffref1_Append.j0 k a0 t225 true) = some (r1, r2) := by rw [if_neg (show ¬ (false = true) by decide)] at H; exact H
   clear H
   have H := H1
   clear H1
   have H' := Aside0.mk H
   clear H
   go_wp2_with (first | ((with_reducible refine gate_callee (f := 34) rfl ?_); refine goesL_ (some 22) rfl rfl Try.func34 (by kernel_rfl) rfl #[.string a0] rfl q1_ ?_; (with_reducible refine (skiffref1_FlashMay.calls a0 false _ A8.out).mono ?_); rintro e w' ⟨rfl, ⟨nd, rfl⟩⟩; refine ⟨_, rfl, ?_⟩))
   go_meet
   case rel => exact ⟨_, (true), q15_, H', ⟨by first | omega | exact Nat.le_refl _⟩, ⟨by (with_reducible repeat (first | refine blk_drewN ?_ _ | refine blk_drew ?_ | refine blk_alloc ?_ _)); exact BK224.out⟩, ⟨by repeat (first | (with_reducible first | exact HB.out | apply below_alloc | apply pw_below_drewN | apply below_drew1 | refine below_set ?_ GE224.out) | exact HB.out)⟩⟩
 case rest =>
  clear HC4
  try clear c1
  try clear p2
  try clear c3
  try clear c4
  try clear c9
  try clear hcz6_0
  try clear hcz6_1
  try clear hcz6_2
  try clear hcz6_3
  try clear hfz6_0
  try clear hfz6_1
  try clear hfz6_2
  try clear hfz6_3
  obtain ⟨kq, x27_3, rfl, HA, HJ3, BK224, HB⟩ := hcut
  cases kq with
  | zero => exact absurd HA.out (by simp [skiffref1_Append.j0])
  | succ kj3 =>
   have H := HA.out
   clear HA
   simp only [skiffref1_Append.j0] at H
   by_cases c10 : x27_3 = true
   ·subst c10
    have H1 : (some (([] : List (S87)), 800)) = some (r1, r2) := by rw [if_pos rfl] at H; exact H
    clear H
    have H := H1
    clear H1
    simp only [Option.some.injEq, Prod.mk.injEq] at H
    obtain ⟨rfl, rfl⟩ := H
    go_wp2
    go_ret2
    exact ⟨_, by first | rfl | (simp [errW_none, errW_some] <;> rfl) | (simp [*, errW_none, errW_some] <;> rfl), by first | exact Kd.R_nil _ _ _ _ _ | exact Kd.N_nil _ _ _ _ _ | exact Kd.V_nil _ _ _ _ _ | exact Kd.Q_nil _ _ _ _ _ | exact Kd.S_nil _ _ _ _ _, by repeat (first | (with_reducible first | exact HB.out | apply below_alloc | apply pw_below_drewN | apply below_drew1 | refine below_set ?_ GE224.out) | exact HB.out)⟩
   ·replace c10 := Bool.eq_false_iff.mpr c10
    subst c10
    have H1 : ((skiffref1_Active.f kj3 a0).bind fun bt228 => (if bt228.2.2.2.2.2 = 0 then (skiffref1_Append.j1 kj3 a0 t225 (wrap64 (Int.tdiv bt228.1 96))) else (skiffref1_Append.j1 kj3 a0 t225 0))) = some (r1, r2) := by rw [if_neg (show ¬ (false = true) by decide)] at H; exact H
    clear H
    have H := H1
    clear H1
    replace H := Option.bind_eq_some_iff.mp H
    obtain ⟨⟨t228, t229, t230, t231, t232, t233⟩, A110, H⟩ := H
    replace H : (if t233 = 0 then (skiffref1_Append.j1 kj3 a0 t225 (wrap64 (Int.tdiv t228 96))) else (skiffref1_Append.j1 kj3 a0 t225 0)) = some (r1, r2) := H
    have A11 := Aside0.mk A110
    clear A110
    have HC12 := Aside0.mk H
    clear H
    go_upto_if 34 with (first | ((with_reducible refine gate_callee (f := 10) rfl ?_); refine goesL_ (some 30) rfl rfl Try.func10 (by kernel_rfl) rfl #[.string a0] rfl q1_ ?_; (with_reducible refine (skiffref1_Active.calls kj3 a0 t228 t229 t230 t231 t232 t233 _ A11.out).mono ?_); rintro e w13 ⟨rfl, hb⟩; refine ⟨_, rfl, ?_⟩; have n0_ := Aside0.mk (blk_below (g := gb224) (o := .cells #[.int .i64 a1_0, .int .i64 a1_1, .int .i64 a1_2, .int .i64 a1_3] 23 (0, 0)) (by (with_reducible repeat (first | refine blk_drewN ?_ _ | refine blk_drew ?_ | refine blk_alloc ?_ _)); exact BK224.out) hb); have n1_ := Aside0.mk (below_step (by repeat (first | (with_reducible first | exact HB.out | apply below_alloc | apply pw_below_drewN | apply below_drew1 | refine below_set ?_ GE224.out) | exact HB.out)) hb); clear BK224; clear HB; have BK224 := n0_; have HB := n1_; clear n0_ n1_; (try clear hb); (try clear hb2); (try clear hk); (try clear hi)) | ((with_reducible refine gate_dst (N := 9) rfl ?_); refine box_event ?hg (N := 9) ?hd (cs := #[.int .i64 0, .int .i64 0, .int .i64 0, .int .i64 0, .int .i64 0]) (t := 25) ?hr ?_; (case hd => rfl); (case hg => rfl); (case hr => first | (go_simp; done) | (go_simp; rfl)); intro gb234 hg w14 hbox hb; have n0_ := Aside0.mk (blk_below (g := gb224) (o := .cells #[.int .i64 a1_0, .int .i64 a1_1, .int .i64 a1_2, .int .i64 a1_3] 23 (0, 0)) (by (with_reducible repeat (first | refine blk_drewN ?_ _ | refine blk_drew ?_ | refine blk_alloc ?_ _)); exact BK224.out) hb); have n1_ := Aside0.mk (below_step (by repeat (first | (with_reducible first | exact HB.out | apply below_alloc | apply pw_below_drewN | apply below_drew1 | refine below_set ?_ GE224.out) | exact HB.out)) hb); have n2_ := Aside0.mk (hbox); have n3_ := Aside0.mk ((by rw [hg]; exact (below_size (by repeat (first | (with_reducible first | exact HB.out | apply below_alloc | apply pw_below_drewN | apply below_drew1 | refine below_set ?_ GE224.out) | exact HB.out))) : w.heap.size ≤ gb234)); have n4_ := Aside0.mk ((by rw [hg]; exact (below_size (by repeat (first | (with_reducible first | exact HB.out | apply below_alloc | apply pw_below_drewN | apply below_drew1 | refine below_set ?_ GE224.out) | exact HB.out))) : w.heap.size ≤ gb234)); have n5_ := Aside0.mk ((by rw [hg]; exact Nat.ne_of_lt (blk_lt (g := gb224) (o := .cells #[.int .i64 a1_0, .int .i64 a1_1, .int .i64 a1_2, .int .i64 a1_3] 23 (0, 0)) (by (with_reducible repeat (first | refine blk_drewN ?_ _ | refine blk_drew ?_ | refine blk_alloc ?_ _)); exact BK224.out)) : gb224 ≠ gb234)); have n6_ := Aside0.mk ((by rw [hg]; exact Nat.ne_of_gt (blk_lt (g := gb224) (o := .cells #[.int .i64 a1_0, .int .i64 a1_1, .int .i64 a1_2, .int .i64 a1_3] 23 (0, 0)) (by (with_reducible repeat (first | refine blk_drewN ?_ _ | refine blk_drew ?_ | refine blk_alloc ?_ _)); exact BK224.out)) : gb234 ≠ gb224)); clear BK224; clear HB; have BK224 := n0_; have HB := n1_; have BK234 := n2_; have GW234 := n3_; have GE234 := n4_; have NB224_234 := n5_; have NB234_224 := n6_; clear n0_ n1_ n2_ n3_ n4_ n5_ n6_; clear hb hbox hg; have hnb15 := NB234_224.out; have hnc15 := NB224_234.out; have hcz16_0 : w14.cell? ⟨gb234, 0, none⟩ = some (.int .i64 0) := (blk_cell BK234.out 0).trans rfl; have hcz16_1 : w14.cell? ⟨gb234, 1, none⟩ = some (.int .i64 0) := (blk_cell BK234.out 1).trans rfl; have hcz16_2 : w14.cell? ⟨gb234, 2, none⟩ = some (.int .i64 0) := (blk_cell BK234.out 2).trans rfl; have hcz16_3 : w14.cell? ⟨gb234, 3, none⟩ = some (.int .i64 0) := (blk_cell BK234.out 3).trans rfl; have hcz16_4 : w14.cell? ⟨gb234, 4, none⟩ = some (.int .i64 0) := (blk_cell BK234.out 4).trans rfl; have hfz16_0 := blk_frozen BK234.out 0; have hfz16_1 := blk_frozen BK234.out 1; have hfz16_2 := blk_frozen BK234.out 2; have hfz16_3 := blk_frozen BK234.out 3; have hfz16_4 := blk_frozen BK234.out 4))
    (try simp only [Act.put, List.setIfInBounds_toArray, List.set_cons_zero, List.set_cons_succ])
    go_cut [8] (fun v8 wc => ∃ (kq : Nat) (x8_11 : Int), v8 = .int .i64 x8_11 ∧ Aside0 (skiffref1_Append.j1 kq a0 t225 x8_11 = some (r1, r2)) ∧ Aside0 (kq ≤ kj3) ∧ Aside0 (wc.heap[gb224]? = some (.cells #[.int .i64 a1_0, .int .i64 a1_1, .int .i64 a1_2, .int .i64 a1_3] 23 (0, 0))) ∧ Aside0 (wc.heap[gb234]? = some (.cells #[.int .i64 t228, .int .i64 t229, .int .i64 t230, .int .i64 t231, .int .i64 t232] 25 (0, 0))) ∧ Aside0 (Below w.heap.size w wc))
    case first =>
     have H := HC12.out
     clear HC12
     by_cases c17 : t233 = 0
     ·rw [if_pos c17] at H
      have c17b0 : (t233 == 0) = true := beq_iff_eq.mpr c17
      have c17b1 : (t233 != 0) = false := bne_eq_false_iff_eq.mpr c17
      clear c17
      (first | rw [c17b0] | (simp only [i64_w, i32_w]; rw [c17b0]) | skip)
      have H' := Aside0.mk H
      clear H
      have hnb18 := NB234_224.out
      have hnc18 := NB224_234.out
      have hcz19_0 : w14.cell? ⟨gb234, 0, none⟩ = some (.int .i64 0) := (blk_cell BK234.out 0).trans rfl
      have hcz19_1 : w14.cell? ⟨gb234, 1, none⟩ = some (.int .i64 0) := (blk_cell BK234.out 1).trans rfl
      have hcz19_2 : w14.cell? ⟨gb234, 2, none⟩ = some (.int .i64 0) := (blk_cell BK234.out 2).trans rfl
      have hcz19_3 : w14.cell? ⟨gb234, 3, none⟩ = some (.int .i64 0) := (blk_cell BK234.out 3).trans rfl
      have hcz19_4 : w14.cell? ⟨gb234, 4, none⟩ = some (.int .i64 0) := (blk_cell BK234.out 4).trans rfl
      have hfz19_0 := blk_frozen BK234.out 0
      have hfz19_1 := blk_frozen BK234.out 1
      have hfz19_2 := blk_frozen BK234.out 2
      have hfz19_3 := blk_frozen BK234.out 3
      have hfz19_4 := blk_frozen BK234.out 4
      go_wp2
      go_meet
      case rel => exact ⟨_, (wrap64 (Int.tdiv t228 96)), q15_, H', ⟨by have := HJ3.out; first | omega | exact Nat.le_refl _⟩, ⟨by (with_reducible repeat (first | refine blk_drewN ?_ _ | refine blk_drew ?_ | refine blk_alloc ?_ _)); refine blk_far ?_ NB224_234.out _; (with_reducible repeat (first | refine blk_drewN ?_ _ | refine blk_drew ?_ | refine blk_alloc ?_ _)); refine blk_far ?_ NB224_234.out _; (with_reducible repeat (first | refine blk_drewN ?_ _ | refine blk_drew ?_ | refine blk_alloc ?_ _)); refine blk_far ?_ NB224_234.out _; (with_reducible repeat (first | refine blk_drewN ?_ _ | refine blk_drew ?_ | refine blk_alloc ?_ _)); refine blk_far ?_ NB224_234.out _; (with_reducible repeat (first | refine blk_drewN ?_ _ | refine blk_drew ?_ | refine blk_alloc ?_ _)); refine blk_far ?_ NB224_234.out _; (with_reducible repeat (first | refine blk_drewN ?_ _ | refine blk_drew ?_ | refine blk_alloc ?_ _)); exact BK224.out⟩, ⟨by (with_reducible repeat (first | refine blk_drewN ?_ _ | refine blk_drew ?_ | refine blk_alloc ?_ _)); refine blk_put (cs := #[.int .i64 t228, .int .i64 t229, .int .i64 t230, .int .i64 t231, .int .i64 0]) ?_ 4 _ rfl; (with_reducible repeat (first | refine blk_drewN ?_ _ | refine blk_drew ?_ | refine blk_alloc ?_ _)); refine blk_put (cs := #[.int .i64 t228, .int .i64 t229, .int .i64 t230, .int .i64 0, .int .i64 0]) ?_ 3 _ rfl; (with_reducible repeat (first | refine blk_drewN ?_ _ | refine blk_drew ?_ | refine blk_alloc ?_ _)); refine blk_put (cs := #[.int .i64 t228, .int .i64 t229, .int .i64 0, .int .i64 0, .int .i64 0]) ?_ 2 _ rfl; (with_reducible repeat (first | refine blk_drewN ?_ _ | refine blk_drew ?_ | refine blk_alloc ?_ _)); refine blk_put (cs := #[.int .i64 t228, .int .i64 0, .int .i64 0, .int .i64 0, .int .i64 0]) ?_ 1 _ rfl; (with_reducible repeat (first | refine blk_drewN ?_ _ | refine blk_drew ?_ | refine blk_alloc ?_ _)); refine blk_put (cs := #[.int .i64 0, .int .i64 0, .int .i64 0, .int .i64 0, .int .i64 0]) ?_ 0 _ rfl; (with_reducible repeat (first | refine blk_drewN ?_ _ | refine blk_drew ?_ | refine blk_alloc ?_ _)); exact BK234.out⟩, ⟨by repeat (first | (with_reducible first | exact HB.out | apply below_alloc | apply pw_below_drewN | apply below_drew1 | refine below_set ?_ GE224.out | refine below_set ?_ GE234.out) | exact HB.out)⟩⟩
     ·rw [if_neg c17] at H
      have c17b0 : (t233 == 0) = false := beq_eq_false_iff_ne.mpr c17
      have c17b1 : (t233 != 0) = true := bne_iff_ne.mpr c17
      (first | rw [c17b0] | (simp only [i64_w, i32_w]; rw [c17b0]) | skip)
      have H' := Aside0.mk H
      clear H
      go_wp2
      go_meet
      case rel => exact ⟨_, (0), q15_, H', ⟨by have := HJ3.out; first | omega | exact Nat.le_refl _⟩, ⟨by (with_reducible repeat (first | refine blk_drewN ?_ _ | refine blk_drew ?_ | refine blk_alloc ?_ _)); refine blk_far ?_ NB224_234.out _; (with_reducible repeat (first | refine blk_drewN ?_ _ | refine blk_drew ?_ | refine blk_alloc ?_ _)); refine blk_far ?_ NB224_234.out _; (with_reducible repeat (first | refine blk_drewN ?_ _ | refine blk_drew ?_ | refine blk_alloc ?_ _)); refine blk_far ?_ NB224_234.out _; (with_reducible repeat (first | refine blk_drewN ?_ _ | refine blk_drew ?_ | refine blk_alloc ?_ _)); refine blk_far ?_ NB224_234.out _; (with_reducible repeat (first | refine blk_drewN ?_ _ | refine blk_drew ?_ | refine blk_alloc ?_ _)); refine blk_far ?_ NB224_234.out _; (with_reducible repeat (first | refine blk_drewN ?_ _ | refine blk_drew ?_ | refine blk_alloc ?_ _)); exact BK224.out⟩, ⟨by (with_reducible repeat (first | refine blk_drewN ?_ _ | refine blk_drew ?_ | refine blk_alloc ?_ _)); refine blk_put (cs := #[.int .i64 t228, .int .i64 t229, .int .i64 t230, .int .i64 t231, .int .i64 0]) ?_ 4 _ rfl; (with_reducible repeat (first | refine blk_drewN ?_ _ | refine blk_drew ?_ | refine blk_alloc ?_ _)); refine blk_put (cs := #[.int .i64 t228, .int .i64 t229, .int .i64 t230, .int .i64 0, .int .i64 0]) ?_ 3 _ rfl; (with_reducible repeat (first | refine blk_drewN ?_ _ | refine blk_drew ?_ | refine blk_alloc ?_ _)); refine blk_put (cs := #[.int .i64 t228, .int .i64 t229, .int .i64 0, .int .i64 0, .int .i64 0]) ?_ 2 _ rfl; (with_reducible repeat (first | refine blk_drewN ?_ _ | refine blk_drew ?_ | refine blk_alloc ?_ _)); refine blk_put (cs := #[.int .i64 t228, .int .i64 0, .int .i64 0, .int .i64 0, .int .i64 0]) ?_ 1 _ rfl; (with_reducible repeat (first | refine blk_drewN ?_ _ | refine blk_drew ?_ | refine blk_alloc ?_ _)); refine blk_put (cs := #[.int .i64 0, .int .i64 0, .int .i64 0, .int .i64 0, .int .i64 0]) ?_ 0 _ rfl; (with_reducible repeat (first | refine blk_drewN ?_ _ | refine blk_drew ?_ | refine blk_alloc ?_ _)); exact BK234.out⟩, ⟨by repeat (first | (with_reducible first | exact HB.out | apply below_alloc | apply pw_below_drewN | apply below_drew1 | refine below_set ?_ GE224.out | refine below_set ?_ GE234.out) | exact HB.out)⟩⟩
    case rest =>
     clear HC12
     try clear c1
     try clear p2
     try clear c3
     try clear c4
     try clear p6
     try clear c9
     try clear c10
     try clear c15
     try clear c17
     try clear c17b0
     try clear c17b1
     try clear c18
     try clear c19
     try clear hcz16_0
     try clear hcz16_1
     try clear hcz16_2
     try clear hcz16_3
     try clear hcz16_4
     try clear hcz19_0
     try clear hcz19_1
     try clear hcz19_2
     try clear hcz19_3
     try clear hcz19_4
     try clear hcz6_0
     try clear hcz6_1
     try clear hcz6_2
     try clear hcz6_3
     try clear hfz16_0
     try clear hfz16_1
     try clear hfz16_2
     try clear hfz16_3
     try clear hfz16_4
     try clear hfz19_0
     try clear hfz19_1
     try clear hfz19_2
     try clear hfz19_3
     try clear hfz19_4
     try clear hfz6_0
     try clear hfz6_1
     try clear hfz6_2
     try clear hfz6_3
     try clear p2
     obtain ⟨kq, x8_11, rfl, HA, HJ11, BK224, BK234, HB⟩ := hcut
     cases kq with
     | zero => exact absurd HA.out (by simp [skiffref1_Append.j1])
     | succ kj11 =>
      have H := HA.out
      clear HA
      simp only [skiffref1_Append.j1] at H
      replace H := Option.bind_eq_some_iff.mp H
      obtain ⟨⟨t235, t236, t237⟩, A200, H⟩ := H
      replace H : (if t236 = true then ((skiffref1_Words.f kj11 t235 t225).bind fun bt238 => (if ([] : List (S87)).length + bt238.1.length < 4398046511104 then (some ((([] : List (S87)) ++ bt238.1), 0)) else (none))) else (if ([] : List (S87)).length < 4398046511104 then ((some (([] : List (S87)) ++ [(⟨true, wrap64 ((wrap64 (1 - x8_11)) * 96), (⟨#[]⟩ : ByteArray)⟩ : S87)] : List (S87))).bind fun y245 => ((skiffref1_Words.f kj11 (wrap64 ((wrap64 (1 - x8_11)) * 96)) t225).bind fun bt248 => (if y245.length + bt248.1.length < 4398046511104 then (some ((y245 ++ bt248.1), 0)) else (none)))) else (none))) = some (r1, r2) := H
      have A20 := Aside0.mk A200
      clear A200
      by_cases c21 : t236 = true
      ·subst c21
       have H1 : ((skiffref1_Words.f kj11 t235 t225).bind fun bt238 => (if ([] : List (S87)).length + bt238.1.length < 4398046511104 then (some ((([] : List (S87)) ++ bt238.1), 0)) else (none))) = some (r1, r2) := by rw [if_pos rfl] at H; exact H
       clear H
       have H := H1
       clear H1
       replace H := Option.bind_eq_some_iff.mp H
       obtain ⟨⟨t238, t239⟩, A220, H⟩ := H
       replace H : (if ([] : List (S87)).length + t238.length < 4398046511104 then (some ((([] : List (S87)) ++ t238), 0)) else (none)) = some (r1, r2) := H
       have A22 := Aside0.mk A220
       clear A220
       by_cases c23 : ([] : List (S87)).length + t238.length < 4398046511104
       ·rw [if_pos c23] at H
        have LMc23 := Aside0.mk c23
        clear c23
        obtain ⟨y242, hy242⟩ : ∃ y_ : List (S87), y_ = (([] : List (S87)) ++ t238) := ⟨_, rfl⟩
        replace H : (some (y242, 0)) = some (r1, r2) := by first | (rw [hy242]; with_reducible exact H) | (have H2_ := (Option.bind_some _ _).symm.trans H; rw [hy242]; with_reducible exact H2_) | (have H2_ := (Option.bind_some _ _).symm.trans H; with_reducible exact H2_) | with_reducible exact H | (rw [hy242]; exact H) | exact H
        have Ny242 := Aside0.mk hy242
        clear hy242
        simp only [Option.some.injEq, Prod.mk.injEq] at H
        obtain ⟨rfl, rfl⟩ := H
        go_wp2_with (first | ((with_reducible refine gate_callee (f := 69) rfl ?_); refine goesL_ (some 41) rfl rfl Try.func69 (by kernel_rfl) rfl #[.string a0, .int .i64 x8_11] rfl q1_ ?_; (with_reducible refine (skiffref1_FreePlace.calls kj11 a0 x8_11 t235 true t237 _ A20.out).mono ?_); rintro e w24 ⟨rfl, hb⟩; refine ⟨_, rfl, ?_⟩; have n0_ := Aside0.mk (blk_below (g := gb224) (o := .cells #[.int .i64 a1_0, .int .i64 a1_1, .int .i64 a1_2, .int .i64 a1_3] 23 (0, 0)) (by (with_reducible repeat (first | refine blk_drewN ?_ _ | refine blk_drew ?_ | refine blk_alloc ?_ _)); exact BK224.out) hb); have n1_ := Aside0.mk (blk_below (g := gb234) (o := .cells #[.int .i64 t228, .int .i64 t229, .int .i64 t230, .int .i64 t231, .int .i64 t232] 25 (0, 0)) (by (with_reducible repeat (first | refine blk_drewN ?_ _ | refine blk_drew ?_ | refine blk_alloc ?_ _)); exact BK234.out) hb); have n2_ := Aside0.mk (below_step (by repeat (first | (with_reducible first | exact HB.out | apply below_alloc | apply pw_below_drewN | apply below_drew1 | refine below_set ?_ GE224.out | refine below_set ?_ GE234.out) | exact HB.out)) hb); clear BK224; clear BK234; clear HB; have BK224 := n0_; have BK234 := n1_; have HB := n2_; clear n0_ n1_ n2_; (try clear hb); (try clear hb2); (try clear hk); (try clear hi)) | ((with_reducible refine gate_callee (f := 42) rfl ?_); refine goesL_ (some 58) rfl rfl Try.func42 (by kernel_rfl) rfl #[.int .i64 t235, .string t225] rfl q1_ ?_; (with_reducible refine (skiffref1_Words.calls kj11 t235 t225 t238 t239 _ A22.out).mono ?_); rintro e w25 ⟨v240, rfl, ho0, hb⟩; refine ⟨_, rfl, ?_⟩; have n0_ := Aside0.mk (Kd.R_lower ho0 (below_size (by repeat (first | (with_reducible first | exact HB.out | apply below_alloc | apply pw_below_drewN | apply below_drew1 | refine below_set ?_ GE224.out | refine below_set ?_ GE234.out) | exact HB.out)))); have n1_ := Aside0.mk (blk_below (g := gb224) (o := .cells #[.int .i64 a1_0, .int .i64 a1_1, .int .i64 a1_2, .int .i64 a1_3] 23 (0, 0)) (by (with_reducible repeat (first | refine blk_drewN ?_ _ | refine blk_drew ?_ | refine blk_alloc ?_ _)); exact BK224.out) hb); have n2_ := Aside0.mk (blk_below (g := gb234) (o := .cells #[.int .i64 t228, .int .i64 t229, .int .i64 t230, .int .i64 t231, .int .i64 t232] 25 (0, 0)) (by (with_reducible repeat (first | refine blk_drewN ?_ _ | refine blk_drew ?_ | refine blk_alloc ?_ _)); exact BK234.out) hb); have n3_ := Aside0.mk (below_step (by repeat (first | (with_reducible first | exact HB.out | apply below_alloc | apply pw_below_drewN | apply below_drew1 | refine below_set ?_ GE224.out | refine below_set ?_ GE234.out) | exact HB.out)) hb); clear BK224; clear BK234; clear HB; have HO241 := n0_; have BK224 := n1_; have BK234 := n2_; have HB := n3_; clear n0_ n1_ n2_ n3_; (try clear hb); (try clear hb2); (try clear hk); (try clear hi); (try clear ho0); obtain ⟨Ao27, co27, eo27⟩ := Kd.R_slice HO241.out; subst eo27) | ((with_reducible refine gate_builtin (b := .append) (xs := #[.tmp 61, .tmp 62]) rfl ?_); at_builtin; refine Kd.R_append_rows k87 (w0 := w) w.heap.size rfl (.tmp 61) (.tmp 62) 54 87 (.agg #[(.bool false), (.int .i64 0), (.string ⟨#[]⟩)]) 32 rfl Try.underlying54 info87 rfl (by decide) (by omega) (.slice none 0 0) ([] : List (S87)) t238 _ _ _ (fun k_ => some k_ ≠ (.slice Ao27 t238.length co27 : Value).ownBlock) (fun _ => False) rfl rfl ?aO ?aR (fun _ _ h => h) (fun _ h => h.elim) ?aF ?aB ?aS ?aL ?_; (case aR => repeat (first | exact (Kd.R_reads' HO241.out).2.2 | (with_reducible refine Kd.C_alloc ?_ _) | (with_reducible refine Kd.C_drewN ?_ _) | (with_reducible refine Kd.C_drew ?_))); (case aB => exact (by repeat (first | (with_reducible first | exact HB.out | apply below_alloc | apply pw_below_drewN | apply below_drew1 | refine below_set ?_ GE224.out | refine below_set ?_ GE234.out) | exact HB.out))); (case aF => exact (fun k_ hk => Kd.fresh' (Kd.R_lt (by (with_reducible repeat (first | apply Kd.R_alloc | apply Kd.R_drewN | apply Kd.R_drew)); exact HO241.out)) k_ hk)); (case aO => exact ((Kd.R_nil _ _ _ _ (fun k_ => some k_ ≠ (.slice Ao27 t238.length co27 : Value).ownBlock)))); (case aS => exact (below_size (by repeat (first | (with_reducible first | exact HB.out | apply below_alloc | apply pw_below_drewN | apply below_drew1 | refine below_set ?_ GE224.out | refine below_set ?_ GE234.out) | exact HB.out)))); (case aL => have := LMc23.out; omega); intro v243 w26 ho hb hg hat; rw [← Ny242.out] at ho; have n0_ := Aside0.mk (blk_grown (g := gb224) (o := .cells #[.int .i64 a1_0, .int .i64 a1_1, .int .i64 a1_2, .int .i64 a1_3] 23 (0, 0)) (by (with_reducible repeat (first | refine blk_drewN ?_ _ | refine blk_drew ?_ | refine blk_alloc ?_ _)); exact BK224.out) hg (by simp [Value.ownBlock])); have n1_ := Aside0.mk (blk_grown (g := gb234) (o := .cells #[.int .i64 t228, .int .i64 t229, .int .i64 t230, .int .i64 t231, .int .i64 t232] 25 (0, 0)) (by (with_reducible repeat (first | refine blk_drewN ?_ _ | refine blk_drew ?_ | refine blk_alloc ?_ _)); exact BK234.out) hg (by simp [Value.ownBlock])); have n2_ := Aside0.mk (Kd.R_after (Kd.R_apart_nil (by (with_reducible repeat (first | apply Kd.R_alloc | apply Kd.R_drewN | apply Kd.R_drew)); exact HO241.out)) hg hat); have n3_ := Aside0.mk (hb); have n4_ := Aside0.mk (ho); clear BK224; clear BK234; clear HO241; clear HB; have BK224 := n0_; have BK234 := n1_; have HO241 := n2_; have HB := n3_; have HO244 := n4_; clear n0_ n1_ n2_ n3_ n4_; clear ho hb hg hat))
        go_ret2
        exact ⟨_, by first | rfl | (simp [errW_none, errW_some] <;> rfl) | (simp [*, errW_none, errW_some] <;> rfl), by (with_reducible repeat (first | apply Kd.R_alloc | apply Kd.R_drewN | apply Kd.R_drew)); exact Kd.R_mono HO244.out (fun _ hk => trivial), by repeat (first | (with_reducible first | exact HB.out | apply below_alloc | apply pw_below_drewN | apply below_drew1 | refine below_set ?_ GE224.out | refine below_set ?_ GE234.out) | exact HB.out)⟩
       ·rw [if_neg c23] at H
        exact absurd H (by simp)
      ·replace c21 := Bool.eq_false_iff.mpr c21
       subst c21
       have H1 : (if ([] : List (S87)).length < 4398046511104 then ((some (([] : List (S87)) ++ [(⟨true, wrap64 ((wrap64 (1 - x8_11)) * 96), (⟨#[]⟩ : ByteArray)⟩ : S87)] : List (S87))).bind fun y245 => ((skiffref1_Words.f kj11 (wrap64 ((wrap64 (1 - x8_11)) * 96)) t225).bind fun bt248 => (if y245.length + bt248.1.length < 4398046511104 then (some ((y245 ++ bt248.1), 0)) else (none)))) else (none)) = some (r1, r2) := by rw [if_neg (show ¬ (false = true) by decide)] at H; exact H
       clear H
       have H := H1
       clear H1
       by_cases c28 : ([] : List (S87)).length < 4398046511104
       ·rw [if_pos c28] at H
        have LMc28 := Aside0.mk c28
        clear c28
        obtain ⟨y245, hy245⟩ : ∃ y_ : List (S87), y_ = (([] : List (S87)) ++ [(⟨true, wrap64 ((wrap64 (1 - x8_11)) * 96), (⟨#[]⟩ : ByteArray)⟩ : S87)]) := ⟨_, rfl⟩
        replace H : ((skiffref1_Words.f kj11 (wrap64 ((wrap64 (1 - x8_11)) * 96)) t225).bind fun bt248 => (if y245.length + bt248.1.length < 4398046511104 then (some ((y245 ++ bt248.1), 0)) else (none))) = some (r1, r2) := by first | (rw [hy245]; with_reducible exact H) | (have H2_ := (Option.bind_some _ _).symm.trans H; rw [hy245]; with_reducible exact H2_) | (have H2_ := (Option.bind_some _ _).symm.trans H; with_reducible exact H2_) | with_reducible exact H | (rw [hy245]; exact H) | exact H
        have Ny245 := Aside0.mk hy245
        clear hy245
        replace H := Option.bind_eq_some_iff.mp H
        obtain ⟨⟨t248, t249⟩, A290, H⟩ := H
        replace H : (if y245.length + t248.length < 4398046511104 then (some ((y245 ++ t248), 0)) else (none)) = some (r1, r2) := H
        have A29 := Aside0.mk A290
        clear A290
        by_cases c30 : y245.length + t248.length < 4398046511104
        ·rw [if_pos c30] at H
         have LMc30 := Aside0.mk c30
         clear c30
         obtain ⟨y252, hy252⟩ : ∃ y_ : List (S87), y_ = (y245 ++ t248) := ⟨_, rfl⟩
         replace H : (some (y252, 0)) = some (r1, r2) := by first | (rw [hy252]; with_reducible exact H) | (have H2_ := (Option.bind_some _ _).symm.trans H; rw [hy252]; with_reducible exact H2_) | (have H2_ := (Option.bind_some _ _).symm.trans H; with_reducible exact H2_) | with_reducible exact H | (rw [hy252]; exact H) | exact H
         have Ny252 := Aside0.mk hy252
         clear hy252
         simp only [Option.some.injEq, Prod.mk.injEq] at H
         obtain ⟨rfl, rfl⟩ := H
         go_wp2_with (first | ((with_reducible refine gate_callee (f := 69) rfl ?_); refine goesL_ (some 41) rfl rfl Try.func69 (by kernel_rfl) rfl #[.string a0, .int .i64 x8_11] rfl q1_ ?_; (with_reducible refine (skiffref1_FreePlace.calls kj11 a0 x8_11 t235 false t237 _ A20.out).mono ?_); rintro e w31 ⟨rfl, hb⟩; refine ⟨_, rfl, ?_⟩; have n0_ := Aside0.mk (blk_below (g := gb224) (o := .cells #[.int .i64 a1_0, .int .i64 a1_1, .int .i64 a1_2, .int .i64 a1_3] 23 (0, 0)) (by (with_reducible repeat (first | refine blk_drewN ?_ _ | refine blk_drew ?_ | refine blk_alloc ?_ _)); exact BK224.out) hb); have n1_ := Aside0.mk (blk_below (g := gb234) (o := .cells #[.int .i64 t228, .int .i64 t229, .int .i64 t230, .int .i64 t231, .int .i64 t232] 25 (0, 0)) (by (with_reducible repeat (first | refine blk_drewN ?_ _ | refine blk_drew ?_ | refine blk_alloc ?_ _)); exact BK234.out) hb); have n2_ := Aside0.mk (below_step (by repeat (first | (with_reducible first | exact HB.out | apply below_alloc | apply pw_below_drewN | apply below_drew1 | refine below_set ?_ GE224.out | refine below_set ?_ GE234.out) | exact HB.out)) hb); clear BK224; clear BK234; clear HB; have BK224 := n0_; have BK234 := n1_; have HB := n2_; clear n0_ n1_ n2_; (try clear hb); (try clear hb2); (try clear hk); (try clear hi)) | ((with_reducible refine gate_builtin (b := .append) (xs := #[.tmp 50, .tmp 53]) rfl ?_); at_builtin; refine Kd.R_append k87 (w0 := w) w.heap.size rfl (.tmp 50) (.tmp 53) 54 87 (.agg #[(.bool false), (.int .i64 0), (.string ⟨#[]⟩)]) 32 rfl Try.underlying54 info87 rfl (by decide) (by omega) (.slice none 0 0) ([] : List (S87)) (⟨true, wrap64 ((wrap64 (1 - x8_11)) * 96), (⟨#[]⟩ : ByteArray)⟩ : S87) [.bool true, .int .i64 (wrap64 ((wrap64 (1 - x8_11)) * 96)), .string (⟨#[]⟩ : ByteArray)] (fun _ => True) (fun _ => False) rfl rfl ?aP (fun _ hk => hk.elim) ?aF ?aO ?aB ?aS ?aL ?_; (case aP => exact k87_mkM _ _ _ (⟨true, wrap64 ((wrap64 (1 - x8_11)) * 96), (⟨#[]⟩ : ByteArray)⟩ : S87)); (case aB => exact (by repeat (first | (with_reducible first | exact HB.out | apply below_alloc | apply pw_below_drewN | apply below_drew1 | refine below_set ?_ GE224.out | refine below_set ?_ GE234.out) | exact HB.out))); (case aF => exact (fun _ _ => trivial)); (case aO => exact ((Kd.R_nil _ _ _ _ (fun _ => True)))); (case aS => exact (below_size (by repeat (first | (with_reducible first | exact HB.out | apply below_alloc | apply pw_below_drewN | apply below_drew1 | refine below_set ?_ GE224.out | refine below_set ?_ GE234.out) | exact HB.out)))); (case aL => have := LMc28.out; omega); intro v246 w32 ho hb hg hat; rw [← Ny245.out] at ho; have n0_ := Aside0.mk (blk_grown (g := gb224) (o := .cells #[.int .i64 a1_0, .int .i64 a1_1, .int .i64 a1_2, .int .i64 a1_3] 23 (0, 0)) (by (with_reducible repeat (first | refine blk_drewN ?_ _ | refine blk_drew ?_ | refine blk_alloc ?_ _)); exact BK224.out) hg (by simp [Value.ownBlock])); have n1_ := Aside0.mk (blk_grown (g := gb234) (o := .cells #[.int .i64 t228, .int .i64 t229, .int .i64 t230, .int .i64 t231, .int .i64 t232] 25 (0, 0)) (by (with_reducible repeat (first | refine blk_drewN ?_ _ | refine blk_drew ?_ | refine blk_alloc ?_ _)); exact BK234.out) hg (by simp [Value.ownBlock])); have n2_ := Aside0.mk (hb); have n3_ := Aside0.mk (ho); clear BK224; clear BK234; clear HB; have BK224 := n0_; have BK234 := n1_; have HB := n2_; have HO247 := n3_; clear n0_ n1_ n2_ n3_; clear ho hb hg hat) | ((with_reducible refine gate_callee (f := 42) rfl ?_); refine goesL_ (some 58) rfl rfl Try.func42 (by kernel_rfl) rfl #[.int .i64 (wrap64 ((wrap64 (1 - x8_11)) * 96)), .string t225] rfl q1_ ?_; (with_reducible refine (skiffref1_Words.calls kj11 (wrap64 ((wrap64 (1 - x8_11)) * 96)) t225 t248 t249 _ A29.out).mono ?_); rintro e w33 ⟨v250, rfl, ho0, hb⟩; refine ⟨_, rfl, ?_⟩; have n0_ := Aside0.mk (Kd.R_elder' (by (with_reducible repeat (first | apply Kd.R_alloc | apply Kd.R_drewN | apply Kd.R_drew)); exact HO247.out) (Kd.R_base ho0) hb); have n1_ := Aside0.mk (Kd.R_lower (Kd.R_new' ho0 (Kd.R_lt (by (with_reducible repeat (first | apply Kd.R_alloc | apply Kd.R_drewN | apply Kd.R_drew)); exact HO247.out))) (below_size (by repeat (first | (with_reducible first | exact HB.out | apply below_alloc | apply pw_below_drewN | apply below_drew1 | refine below_set ?_ GE224.out | refine below_set ?_ GE234.out) | exact HB.out)))); have n2_ := Aside0.mk (blk_below (g := gb224) (o := .cells #[.int .i64 a1_0, .int .i64 a1_1, .int .i64 a1_2, .int .i64 a1_3] 23 (0, 0)) (by (with_reducible repeat (first | refine blk_drewN ?_ _ | refine blk_drew ?_ | refine blk_alloc ?_ _)); exact BK224.out) hb); have n3_ := Aside0.mk (blk_below (g := gb234) (o := .cells #[.int .i64 t228, .int .i64 t229, .int .i64 t230, .int .i64 t231, .int .i64 t232] 25 (0, 0)) (by (with_reducible repeat (first | refine blk_drewN ?_ _ | refine blk_drew ?_ | refine blk_alloc ?_ _)); exact BK234.out) hb); have n4_ := Aside0.mk (below_step (by repeat (first | (with_reducible first | exact HB.out | apply below_alloc | apply pw_below_drewN | apply below_drew1 | refine below_set ?_ GE224.out | refine below_set ?_ GE234.out) | exact HB.out)) hb); clear HO247; clear BK224; clear BK234; clear HB; have HO247 := n0_; have HO251 := n1_; have BK224 := n2_; have BK234 := n3_; have HB := n4_; clear n0_ n1_ n2_ n3_ n4_; (try clear hb); (try clear hb2); (try clear hk); (try clear hi); (try clear ho0); obtain ⟨Ao35, co35, eo35⟩ := Kd.R_slice HO251.out; subst eo35) | ((with_reducible refine gate_builtin (b := .append) (xs := #[.tmp 61, .tmp 62]) rfl ?_); at_builtin; refine Kd.R_append_rows k87 (w0 := w) w.heap.size rfl (.tmp 61) (.tmp 62) 54 87 (.agg #[(.bool false), (.int .i64 0), (.string ⟨#[]⟩)]) 32 rfl Try.underlying54 info87 rfl (by decide) (by omega) v246 y245 t248 _ _ _ (fun k_ => some k_ ≠ (.slice Ao35 t248.length co35 : Value).ownBlock) (fun _ => False) rfl rfl ?aO ?aR (fun _ _ h => h) (fun _ h => h.elim) ?aF ?aB ?aS ?aL ?_; (case aR => repeat (first | exact (Kd.R_reads' HO251.out).2.2 | (with_reducible refine Kd.C_alloc ?_ _) | (with_reducible refine Kd.C_drewN ?_ _) | (with_reducible refine Kd.C_drew ?_))); (case aB => exact (by repeat (first | (with_reducible first | exact HB.out | apply below_alloc | apply pw_below_drewN | apply below_drew1 | refine below_set ?_ GE224.out | refine below_set ?_ GE234.out) | exact HB.out))); (case aF => exact (fun k_ hk => Kd.fresh' (Kd.R_lt (by (with_reducible repeat (first | apply Kd.R_alloc | apply Kd.R_drewN | apply Kd.R_drew)); exact HO251.out)) k_ hk)); (case aO => exact (by (with_reducible repeat (first | apply Kd.R_alloc | apply Kd.R_drewN | apply Kd.R_drew)); exact Kd.R_mono HO247.out (fun _ hk => hk.2))); (case aS => exact (below_size (by repeat (first | (with_reducible first | exact HB.out | apply below_alloc | apply pw_below_drewN | apply below_drew1 | refine below_set ?_ GE224.out | refine below_set ?_ GE234.out) | exact HB.out)))); (case aL => have := LMc30.out; omega); intro v253 w34 ho hb hg hat; rw [← Ny252.out] at ho; have n0_ := Aside0.mk (blk_grown (g := gb224) (o := .cells #[.int .i64 a1_0, .int .i64 a1_1, .int .i64 a1_2, .int .i64 a1_3] 23 (0, 0)) (by (with_reducible repeat (first | refine blk_drewN ?_ _ | refine blk_drew ?_ | refine blk_alloc ?_ _)); exact BK224.out) hg (Kd.R_ne HO247.out BK224.out (by decide))); have n1_ := Aside0.mk (blk_grown (g := gb234) (o := .cells #[.int .i64 t228, .int .i64 t229, .int .i64 t230, .int .i64 t231, .int .i64 t232] 25 (0, 0)) (by (with_reducible repeat (first | refine blk_drewN ?_ _ | refine blk_drew ?_ | refine blk_alloc ?_ _)); exact BK234.out) hg (Kd.R_ne HO247.out BK234.out (by decide))); have n2_ := Aside0.mk (Kd.R_after (ok := (fun _ => True)) (by (with_reducible repeat (first | apply Kd.R_alloc | apply Kd.R_drewN | apply Kd.R_drew)); exact HO251.out) hg hat); have n3_ := Aside0.mk (hb); have n4_ := Aside0.mk (ho); clear BK224; clear BK234; clear HO251; clear HB; clear HO247; have BK224 := n0_; have BK234 := n1_; have HO251 := n2_; have HB := n3_; have HO254 := n4_; clear n0_ n1_ n2_ n3_ n4_; clear ho hb hg hat))
         go_ret2
         exact ⟨_, by first | rfl | (simp [errW_none, errW_some] <;> rfl) | (simp [*, errW_none, errW_some] <;> rfl), by (with_reducible repeat (first | apply Kd.R_alloc | apply Kd.R_drewN | apply Kd.R_drew)); exact Kd.R_mono HO254.out (fun _ hk => trivial), by repeat (first | (with_reducible first | exact HB.out | apply below_alloc | apply pw_below_drewN | apply below_drew1 | refine below_set ?_ GE224.out | refine below_set ?_ GE234.out) | exact HB.out)⟩
        ·rw [if_neg c30] at H
         exact absurd H (by simp)
       ·rw [if_neg c28] at H
        exact absurd H (by simp)
end Go.Proofs.Ytjadcjkjpkkmkaa.PAll

-- Written by this session's own program (wip/tools/myprint.py), which runs the kit's print over functions proved by hand.
namespace Go.Proofs.Ytjadcjkjpkkmkaa.PAll
open Go.RowKit Go.Proofs.YtjadcjkjpkkmkaaW.PrintWords Go.Proofs.YtjadcjkjpkkmkaaW.PrintLast Go.Proofs.YtjadcjkjpkkmkaaW.PrintMore
attribute [local go_sem] max2_int min2_int max_two min_two max_three min_three max_four min_four   -- for this text's walks alone
set_option linter.unusedVariables false
set_option linter.unusedSimpArgs false
attribute [local go_sem high] eqA25
mutual
def skifflaw7_held.l0 : Nat → ByteArray → List (S87) → Int → Option (ByteArray)
 | 0, _, _, _ => none
 | k + 1, x1, x2, x4 => if x4 < (x2.length : Int) then (if 0 ≤ x4 then ((skiffref1_Do.f k x1 ((rd_T87 x2 x4).f0) ((rd_T87 x2 x4).f1) ((rd_T87 x2 x4).f2)).bind fun bt261 => (skifflaw7_held.l0 k bt261.1 x2 (wrap64 (x4 + 1)))) else (none)) else ((skiffref1_RecordOf.f k x1 0 12).bind fun bt263 => ((skiffref1_Append.f k x1 bt263.1 bt263.2.1 bt263.2.2.1 bt263.2.2.2.1).bind fun bt269 => (skifflaw7_held.l1 k x1 bt269.1 0)))
def skifflaw7_held.l1 : Nat → ByteArray → List (S87) → Int → Option (ByteArray)
 | 0, _, _, _ => none
 | k + 1, x1, x2, x7 => if x7 < (x2.length : Int) then (if 0 ≤ x7 then ((skiffref1_Do.f k x1 ((rd_T87 x2 x7).f0) ((rd_T87 x2 x7).f1) ((rd_T87 x2 x7).f2)).bind fun bt274 => (skifflaw7_held.l1 k bt274.1 x2 (wrap64 (x7 + 1)))) else (none)) else (some x1)
end
def skifflaw7_held.f (k : Nat)  : Option (ByteArray) := (skiffref1_Blank.f k).bind fun t255 => ((skiffref1_Words.f k 192 (⟨#[97, 98, 97, 98, 97, 98, 97, 98, 97, 98, 97, 98]⟩ : ByteArray)).bind fun bt256 => (skifflaw7_held.l0 k t255 bt256.1 0))
set_option maxHeartbeats 8000000 in
set_option maxRecDepth 100000 in
theorem skifflaw7_held.calls (k : Nat)  (r : ByteArray) (w : World) (h : skifflaw7_held.f k  = some r) :
  Calls Try.prog 22 #[] w fun e w' => e = .returned (.string r) ∧ Below w.heap.size w w' := by
 have hu87 := Try.underlying87
 have hu23 := Try.underlying23
 have HB := Aside0.mk (Below.refl w.heap.size w)
 have H : ((skiffref1_Blank.f k).bind fun t255 => ((skiffref1_Words.f k 192 (⟨#[97, 98, 97, 98, 97, 98, 97, 98, 97, 98, 97, 98]⟩ : ByteArray)).bind fun bt256 => (skifflaw7_held.l0 k t255 bt256.1 0))) = some r := h
 clear h
 replace H := Option.bind_eq_some_iff.mp H
 obtain ⟨t255, A10, H⟩ := H
 replace H : ((skiffref1_Words.f k 192 (⟨#[97, 98, 97, 98, 97, 98, 97, 98, 97, 98, 97, 98]⟩ : ByteArray)).bind fun bt256 => (skifflaw7_held.l0 k t255 bt256.1 0)) = some r := H
 have A1 := Aside0.mk A10
 clear A10
 replace H := Option.bind_eq_some_iff.mp H
 obtain ⟨⟨t256, t257⟩, A20, H⟩ := H
 replace H : (skifflaw7_held.l0 k t255 t256 0) = some r := H
 have A2 := Aside0.mk A20
 clear A20
 have H' := Aside0.mk H
 clear H
 go_enter Try.func22, Try.ntmps22
 go_wp2_with (first | ((with_reducible refine gate_callee (f := 17) rfl ?_); refine goesL_ (some 8) rfl rfl Try.func17 (by kernel_rfl) rfl #[] rfl q1_ ?_; (with_reducible refine (skiffref1_Blank.calls k  t255 _ A1.out).mono ?_); rintro e w3 ⟨rfl, hb⟩; refine ⟨_, rfl, ?_⟩; have n0_ := Aside0.mk (below_step q2_ hb); clear HB; have HB := n0_; clear n0_; (try clear hb); (try clear hb2); (try clear hk); (try clear hi)) | ((with_reducible refine gate_callee (f := 42) rfl ?_); refine goesL_ (some 10) rfl rfl Try.func42 (by kernel_rfl) rfl #[.int .i64 192, .string (⟨#[97, 98, 97, 98, 97, 98, 97, 98, 97, 98, 97, 98]⟩ : ByteArray)] rfl q1_ ?_; (with_reducible refine (skiffref1_Words.calls k 192 (⟨#[97, 98, 97, 98, 97, 98, 97, 98, 97, 98, 97, 98]⟩ : ByteArray) t256 t257 _ A2.out).mono ?_); rintro e w4 ⟨v258, rfl, ho0, hb⟩; refine ⟨_, rfl, ?_⟩; have n0_ := Aside0.mk (Kd.R_lower ho0 (below_size q2_)); have n1_ := Aside0.mk (below_step q2_ hb); clear HB; have HO259 := n0_; have HB := n1_; clear n0_ n1_; (try clear hb); (try clear hb2); (try clear hk); (try clear hi); (try clear ho0)))
 go_loopg [1, 4] k (fun kq v1 v4 w' => ∃ (x1_1 : ByteArray) (x4_1 : Int), v1 = .string x1_1 ∧ v4 = .int .i64 x4_1 ∧ Aside0 (skifflaw7_held.l0 kq x1_1 t256 x4_1 = some r) ∧ Aside0 (kq ≤ k) ∧ Aside0 (Kd.R k87 87 w' w.heap.size (fun _ => True) v258 t256) ∧ Aside0 (Below w.heap.size w w'))
 case atStart => exact ⟨(t255), (0), q15_, q15_, H', ⟨Nat.le_refl _⟩, ⟨by (with_reducible repeat (first | apply Kd.R_alloc | apply Kd.R_drewN | apply Kd.R_drew)); exact HO259.out⟩, ⟨by repeat (first | (with_reducible first | exact HB.out | apply below_alloc | apply pw_below_drewN | apply below_drew1) | exact HB.out)⟩⟩
 case round =>
  clear H'
  try clear c1
  try clear c2
  try clear p2
  try clear c4
  obtain ⟨x1_1, x4_1, rfl, rfl, HA, HK1, HO_2, HB⟩ := hrel
  cases gk with
  | zero => exact absurd HA.out (by simp [skifflaw7_held.l0])
  | succ k1 =>
   have H := HA.out
   clear HA
   simp only [skifflaw7_held.l0] at H
   by_cases c5 : x4_1 < (t256.length : Int)
   ·rw [if_pos c5] at H
    have c5b0 : decide (x4_1 < (t256.length : Int)) = true := decide_eq_true c5
    clear c5
    by_cases c6 : 0 ≤ x4_1
    ·rw [if_pos c6] at H
     have c6b0 : decide (0 ≤ x4_1) = true := decide_eq_true c6
     clear c6
     replace H := Option.bind_eq_some_iff.mp H
     obtain ⟨⟨t261, t262⟩, A70, H⟩ := H
     replace H : (skifflaw7_held.l0 k1 t261 t256 (wrap64 (x4_1 + 1))) = some r := H
     have A7 := Aside0.mk A70
     clear A70
     have H' := Aside0.mk H
     clear H
     obtain ⟨Ao8, co8, eo8⟩ := Kd.R_slice HO_2.out
     subst eo8
     have p260 : 0 ≤ (x4_1 : Int) := of_decide_eq_true q14_
     have q260 : x4_1 < (t256.length : Int) := of_decide_eq_true q14_
     obtain ⟨ad260, e260, hx260_0, hx260_1, hx260_2⟩ := at_T87 (Kd.R_reads' HO_2.out).2.2 x4_1 p260 q260
     cases e260
     replace p260 := eq_true p260
     replace q260 := eq_true q260
     go_wp2_with (first | ((with_reducible refine gate_callee (f := 43) rfl ?_); refine goesL_ (some 25) rfl rfl Try.func43 (by kernel_rfl) rfl #[.string x1_1, .agg #[.bool ((rd_T87 t256 x4_1).f0), .int .i64 ((rd_T87 t256 x4_1).f1), .string ((rd_T87 t256 x4_1).f2)]] rfl q1_ ?_; (with_reducible refine (skiffref1_Do.calls k1 x1_1 ((rd_T87 t256 x4_1).f0) ((rd_T87 t256 x4_1).f1) ((rd_T87 t256 x4_1).f2) t261 t262 _ A7.out).mono ?_); rintro e w9 ⟨rfl, hb⟩; refine ⟨_, rfl, ?_⟩; have n0_ := Aside0.mk (Kd.R_below (by (with_reducible repeat (first | apply Kd.R_alloc | apply Kd.R_drewN | apply Kd.R_drew)); exact HO_2.out) hb); have n1_ := Aside0.mk (below_step q2_ hb); clear HO_2; clear HB; have HO_2 := n0_; have HB := n1_; clear n0_ n1_; (try clear hb); (try clear hb2); (try clear hk); (try clear hi)))
     go_roundg k1
     case measure => have := HK1.out; omega
     case rel => exact ⟨(t261), (wrap64 (x4_1 + 1)), q15_, q15_, H', ⟨by have := HK1.out; omega⟩, ⟨by (with_reducible repeat (first | apply Kd.R_alloc | apply Kd.R_drewN | apply Kd.R_drew)); exact HO_2.out⟩, ⟨by repeat (first | (with_reducible first | exact HB.out | apply below_alloc | apply pw_below_drewN | apply below_drew1) | exact HB.out)⟩⟩
    ·rw [if_neg c6] at H
     exact absurd H (by simp)
   ·rw [if_neg c5] at H
    have c5b0 : decide (x4_1 < (t256.length : Int)) = false := decide_eq_false c5
    clear c5
    replace H := Option.bind_eq_some_iff.mp H
    obtain ⟨⟨t263, t264, t265, t266, t267⟩, A100, H⟩ := H
    replace H : ((skiffref1_Append.f k1 x1_1 t263 t264 t265 t266).bind fun bt269 => (skifflaw7_held.l1 k1 x1_1 bt269.1 0)) = some r := H
    have A10 := Aside0.mk A100
    clear A100
    replace H := Option.bind_eq_some_iff.mp H
    obtain ⟨⟨t269, t272⟩, A110, H⟩ := H
    replace H : (skifflaw7_held.l1 k1 x1_1 t269 0) = some r := H
    have A11 := Aside0.mk A110
    clear A110
    have H' := Aside0.mk H
    clear H
    obtain ⟨Ao12, co12, eo12⟩ := Kd.R_slice HO_2.out
    subst eo12
    go_wp2_with (first | ((with_reducible refine gate_callee (f := 44) rfl ?_); refine goesL_ (some 30) rfl rfl Try.func44 (by kernel_rfl) rfl #[.string x1_1, .int .i64 0, .int .i64 12] rfl q1_ ?_; (with_reducible refine (skiffref1_RecordOf.calls k1 x1_1 0 12 t263 t264 t265 t266 t267 _ A10.out).mono ?_); rintro e w13 ⟨rfl, hb⟩; refine ⟨_, rfl, ?_⟩; have n0_ := Aside0.mk (Kd.R_below (by (with_reducible repeat (first | apply Kd.R_alloc | apply Kd.R_drewN | apply Kd.R_drew)); exact HO_2.out) hb); have n1_ := Aside0.mk (below_step q2_ hb); clear HO_2; clear HB; have HO_2 := n0_; have HB := n1_; clear n0_ n1_; (try clear hb); (try clear hb2); (try clear hk); (try clear hi)) | ((with_reducible refine gate_dst (N := 5) rfl ?_); refine box_event ?hg (N := 5) ?hd (cs := #[.int .i64 0, .int .i64 0, .int .i64 0, .int .i64 0]) (t := 23) ?hr ?_; (case hd => rfl); (case hg => rfl); (case hr => first | (go_simp; done) | (go_simp; rfl)); intro gb268 hg w14 hbox hb; have n0_ := Aside0.mk (Kd.R_below (by (with_reducible repeat (first | apply Kd.R_alloc | apply Kd.R_drewN | apply Kd.R_drew)); exact HO_2.out) hb); have n1_ := Aside0.mk (below_step q2_ hb); have n2_ := Aside0.mk (hbox); have n3_ := Aside0.mk ((by rw [hg]; exact (below_size q2_) : w.heap.size ≤ gb268)); have n4_ := Aside0.mk ((by rw [hg]; exact (below_size q2_) : w.heap.size ≤ gb268)); clear HO_2; clear HB; have HO_2 := n0_; have HB := n1_; have BK268 := n2_; have GW268 := n3_; have GE268 := n4_; clear n0_ n1_ n2_ n3_ n4_; clear hb hbox hg; have hcz15_0 : w14.cell? ⟨gb268, 0, none⟩ = some (.int .i64 0) := (blk_cell BK268.out 0).trans rfl; have hcz15_1 : w14.cell? ⟨gb268, 1, none⟩ = some (.int .i64 0) := (blk_cell BK268.out 1).trans rfl; have hcz15_2 : w14.cell? ⟨gb268, 2, none⟩ = some (.int .i64 0) := (blk_cell BK268.out 2).trans rfl; have hcz15_3 : w14.cell? ⟨gb268, 3, none⟩ = some (.int .i64 0) := (blk_cell BK268.out 3).trans rfl; have hfz15_0 := blk_frozen BK268.out 0; have hfz15_1 := blk_frozen BK268.out 1; have hfz15_2 := blk_frozen BK268.out 2; have hfz15_3 := blk_frozen BK268.out 3) | ((with_reducible refine gate_callee (f := 45) rfl ?_); refine goesL_ (some 36) rfl rfl Try.func45 (by kernel_rfl) rfl #[.string x1_1, .agg #[.int .i64 t263, .int .i64 t264, .int .i64 t265, .int .i64 t266]] rfl q1_ ?_; (with_reducible refine (skiffref1_Append.calls k1 x1_1 t263 t264 t265 t266 t269 t272 _ A11.out).mono ?_); rintro e w16 ⟨v270, rfl, ho0, hb⟩; refine ⟨_, rfl, ?_⟩; have n0_ := Aside0.mk (Kd.R_elder' (by (with_reducible repeat (first | apply Kd.R_alloc | apply Kd.R_drewN | apply Kd.R_drew)); exact (Kd.R_mono (Kd.R_far (p := ⟨gb268, 3, none⟩) (Kd.R_far (p := ⟨gb268, 2, none⟩) (Kd.R_far (p := ⟨gb268, 1, none⟩) (Kd.R_far (p := ⟨gb268, 0, none⟩) (Kd.R_types HO_2.out BK268.out (by decide)) (fun _ hk => hk.2) (.int .i64 t263)) (fun _ hk => hk.2) (.int .i64 t264)) (fun _ hk => hk.2) (.int .i64 t265)) (fun _ hk => hk.2) (.int .i64 t266)) (fun _ h_ => h_.1))) (Kd.R_base ho0) hb); have n1_ := Aside0.mk (Kd.R_lower (Kd.R_new' ho0 (Kd.R_lt (by (with_reducible repeat (first | apply Kd.R_alloc | apply Kd.R_drewN | apply Kd.R_drew)); exact (Kd.R_mono (Kd.R_far (p := ⟨gb268, 3, none⟩) (Kd.R_far (p := ⟨gb268, 2, none⟩) (Kd.R_far (p := ⟨gb268, 1, none⟩) (Kd.R_far (p := ⟨gb268, 0, none⟩) (Kd.R_types HO_2.out BK268.out (by decide)) (fun _ hk => hk.2) (.int .i64 t263)) (fun _ hk => hk.2) (.int .i64 t264)) (fun _ hk => hk.2) (.int .i64 t265)) (fun _ hk => hk.2) (.int .i64 t266)) (fun _ h_ => h_.1))))) (below_size (by repeat (first | (with_reducible first | exact HB.out | apply below_alloc | apply pw_below_drewN | apply below_drew1 | refine below_set ?_ GE268.out) | exact HB.out)))); have n2_ := Aside0.mk (blk_below (g := gb268) (o := .cells #[.int .i64 t263, .int .i64 t264, .int .i64 t265, .int .i64 t266] 23 (0, 0)) (by (with_reducible repeat (first | refine blk_drewN ?_ _ | refine blk_drew ?_ | refine blk_alloc ?_ _)); refine blk_put (cs := #[.int .i64 t263, .int .i64 t264, .int .i64 t265, .int .i64 0]) ?_ 3 _ rfl; (with_reducible repeat (first | refine blk_drewN ?_ _ | refine blk_drew ?_ | refine blk_alloc ?_ _)); refine blk_put (cs := #[.int .i64 t263, .int .i64 t264, .int .i64 0, .int .i64 0]) ?_ 2 _ rfl; (with_reducible repeat (first | refine blk_drewN ?_ _ | refine blk_drew ?_ | refine blk_alloc ?_ _)); refine blk_put (cs := #[.int .i64 t263, .int .i64 0, .int .i64 0, .int .i64 0]) ?_ 1 _ rfl; (with_reducible repeat (first | refine blk_drewN ?_ _ | refine blk_drew ?_ | refine blk_alloc ?_ _)); refine blk_put (cs := #[.int .i64 0, .int .i64 0, .int .i64 0, .int .i64 0]) ?_ 0 _ rfl; (with_reducible repeat (first | refine blk_drewN ?_ _ | refine blk_drew ?_ | refine blk_alloc ?_ _)); exact BK268.out) hb); have n3_ := Aside0.mk (below_step (by repeat (first | (with_reducible first | exact HB.out | apply below_alloc | apply pw_below_drewN | apply below_drew1 | refine below_set ?_ GE268.out) | exact HB.out)) hb); clear HO_2; clear BK268; clear HB; have HO_2 := n0_; have HO271 := n1_; have BK268 := n2_; have HB := n3_; clear n0_ n1_ n2_ n3_; (try clear hb); (try clear hb2); (try clear hk); (try clear hi); (try clear ho0)))
    go_loopg [1, 7] k1 (fun kq v1 v7 w' => ∃ (x1_2 : ByteArray) (x7_2 : Int), v1 = .string x1_2 ∧ v7 = .int .i64 x7_2 ∧ Aside0 (skifflaw7_held.l1 kq x1_2 t269 x7_2 = some r) ∧ Aside0 (kq ≤ k1) ∧ Aside0 (Kd.R k87 87 w' w.heap.size (fun _ => True) v270 t269) ∧ Aside0 (w'.heap[gb268]? = some (.cells #[.int .i64 t263, .int .i64 t264, .int .i64 t265, .int .i64 t266] 23 (0, 0))) ∧ Aside0 (Below w.heap.size w w'))
    case atStart => exact ⟨(x1_1), (0), q15_, q15_, H', ⟨Nat.le_refl _⟩, ⟨by (with_reducible repeat (first | apply Kd.R_alloc | apply Kd.R_drewN | apply Kd.R_drew)); exact Kd.R_mono HO271.out (fun _ hk => trivial)⟩, ⟨by (with_reducible repeat (first | refine blk_drewN ?_ _ | refine blk_drew ?_ | refine blk_alloc ?_ _)); exact BK268.out⟩, ⟨by repeat (first | (with_reducible first | exact HB.out | apply below_alloc | apply pw_below_drewN | apply below_drew1 | refine below_set ?_ GE268.out) | exact HB.out)⟩⟩
    case round =>
     clear H'
     try clear c1
     try clear c2
     try clear p2
     try clear q2
     try clear hx2
     try clear c4
     try clear c5
     try clear c5b0
     try clear c6
     try clear c6b0
     try clear p6
     try clear hcz15_0
     try clear hcz15_1
     try clear hcz15_2
     try clear hcz15_3
     try clear hfz15_0
     try clear hfz15_1
     try clear hfz15_2
     try clear hfz15_3
     try clear hx260_0
     try clear hx260_1
     try clear hx260_2
     try clear p2
     try clear p260
     try clear q260
     obtain ⟨x1_2, x7_2, rfl, rfl, HA, HK2, HO_2, BK268, HB⟩ := hrel
     cases gk with
     | zero => exact absurd HA.out (by simp [skifflaw7_held.l1])
     | succ k2 =>
      have H := HA.out
      clear HA
      simp only [skifflaw7_held.l1] at H
      by_cases c17 : x7_2 < (t269.length : Int)
      ·rw [if_pos c17] at H
       have c17b0 : decide (x7_2 < (t269.length : Int)) = true := decide_eq_true c17
       clear c17
       by_cases c18 : 0 ≤ x7_2
       ·rw [if_pos c18] at H
        have c18b0 : decide (0 ≤ x7_2) = true := decide_eq_true c18
        clear c18
        replace H := Option.bind_eq_some_iff.mp H
        obtain ⟨⟨t274, t275⟩, A190, H⟩ := H
        replace H : (skifflaw7_held.l1 k2 t274 t269 (wrap64 (x7_2 + 1))) = some r := H
        have A19 := Aside0.mk A190
        clear A190
        have H' := Aside0.mk H
        clear H
        obtain ⟨Ao20, co20, eo20⟩ := Kd.R_slice HO_2.out
        subst eo20
        have p273 : 0 ≤ (x7_2 : Int) := of_decide_eq_true q14_
        have q273 : x7_2 < (t269.length : Int) := of_decide_eq_true q14_
        obtain ⟨ad273, e273, hx273_0, hx273_1, hx273_2⟩ := at_T87 (Kd.R_reads' HO_2.out).2.2 x7_2 p273 q273
        cases e273
        replace p273 := eq_true p273
        replace q273 := eq_true q273
        go_wp2_with (first | ((with_reducible refine gate_callee (f := 43) rfl ?_); refine goesL_ (some 51) rfl rfl Try.func43 (by kernel_rfl) rfl #[.string x1_2, .agg #[.bool ((rd_T87 t269 x7_2).f0), .int .i64 ((rd_T87 t269 x7_2).f1), .string ((rd_T87 t269 x7_2).f2)]] rfl q1_ ?_; (with_reducible refine (skiffref1_Do.calls k2 x1_2 ((rd_T87 t269 x7_2).f0) ((rd_T87 t269 x7_2).f1) ((rd_T87 t269 x7_2).f2) t274 t275 _ A19.out).mono ?_); rintro e w21 ⟨rfl, hb⟩; refine ⟨_, rfl, ?_⟩; have n0_ := Aside0.mk (Kd.R_below (by (with_reducible repeat (first | apply Kd.R_alloc | apply Kd.R_drewN | apply Kd.R_drew)); exact HO_2.out) hb); have n1_ := Aside0.mk (blk_below (g := gb268) (o := .cells #[.int .i64 t263, .int .i64 t264, .int .i64 t265, .int .i64 t266] 23 (0, 0)) (by (with_reducible repeat (first | refine blk_drewN ?_ _ | refine blk_drew ?_ | refine blk_alloc ?_ _)); exact BK268.out) hb); have n2_ := Aside0.mk (below_step (by repeat (first | (with_reducible first | exact HB.out | apply below_alloc | apply pw_below_drewN | apply below_drew1 | refine below_set ?_ GE268.out) | exact HB.out)) hb); clear HO_2; clear BK268; clear HB; have HO_2 := n0_; have BK268 := n1_; have HB := n2_; clear n0_ n1_ n2_; (try clear hb); (try clear hb2); (try clear hk); (try clear hi)))
        go_roundg k2
        case measure => have := HK1.out; have := HK2.out; omega
        case rel => exact ⟨(t274), (wrap64 (x7_2 + 1)), q15_, q15_, H', ⟨by have := HK1.out; have := HK2.out; omega⟩, ⟨by (with_reducible repeat (first | apply Kd.R_alloc | apply Kd.R_drewN | apply Kd.R_drew)); exact HO_2.out⟩, ⟨by (with_reducible repeat (first | refine blk_drewN ?_ _ | refine blk_drew ?_ | refine blk_alloc ?_ _)); exact BK268.out⟩, ⟨by repeat (first | (with_reducible first | exact HB.out | apply below_alloc | apply pw_below_drewN | apply below_drew1 | refine below_set ?_ GE268.out) | exact HB.out)⟩⟩
       ·rw [if_neg c18] at H
        exact absurd H (by simp)
      ·rw [if_neg c17] at H
       have c17b0 : decide (x7_2 < (t269.length : Int)) = false := decide_eq_false c17
       clear c17
       obtain rfl := Option.some.inj H
       obtain ⟨Ao22, co22, eo22⟩ := Kd.R_slice HO_2.out
       subst eo22
       go_wp2
       go_ret
       exact ⟨by first | rfl | (simp [errW_none, errW_some] <;> rfl) | (simp [*, errW_none, errW_some] <;> rfl), by repeat (first | (with_reducible first | exact HB.out | apply below_alloc | apply pw_below_drewN | apply below_drew1 | refine below_set ?_ GE268.out) | exact HB.out)⟩
def skifflaw7_awake.f (k : Nat)  : Option (Bool) := (skifflaw7_held.f k).bind fun t276 => ((Hand.choose_Active.f k t276).bind fun bt277 => ((skifflaw7_held.f k).bind fun t284 => ((choose_Other.f k t284).bind fun bt285 => ((skiffref1_Blank.f k).bind fun t287 => ((Hand.choose_Active.f k t287).bind fun bt288 => ((skiffref1_Blank.f k).bind fun t295 => ((choose_Other.f k t295).bind fun bt296 => ((Hand.choose_Active.f k (⟨#[]⟩ : ByteArray)).bind fun bt298 => (if bt277.1 = 0 then (if bt277.2.1 = 1 then ((skifflaw0_Num.f bt277.2.2.2.2.2).bind fun t305 => (if t305 = 0 then (if bt285.1 = 1 then ((skifflaw0_Num.f bt285.2).bind fun t306 => (if t306 = 0 then ((skifflaw0_Num.f bt288.2.2.2.2.2).bind fun t307 => (if t307 = 701 then (if bt296.1 = 0 then ((skifflaw0_Num.f bt296.2).bind fun t308 => (if t308 = 0 then ((skifflaw0_Num.f bt298.2.2.2.2.2).bind fun t309 => (some (t309 == 700))) else (none))) else (none)) else (none))) else (none))) else (none)) else (none))) else (none)) else (none))))))))))
set_option maxHeartbeats 8000000 in
set_option maxRecDepth 100000 in
theorem skifflaw7_awake.calls (k : Nat)  (r : Bool) (w : World) (h : skifflaw7_awake.f k  = some r) :
  Calls Try.prog 14 #[] w fun e w' => e = .returned (.bool r) ∧ Below w.heap.size w w' := by
 have hu25 := Try.underlying25
 have HB := Aside0.mk (Below.refl w.heap.size w)
 have H : ((skifflaw7_held.f k).bind fun t276 => ((Hand.choose_Active.f k t276).bind fun bt277 => ((skifflaw7_held.f k).bind fun t284 => ((choose_Other.f k t284).bind fun bt285 => ((skiffref1_Blank.f k).bind fun t287 => ((Hand.choose_Active.f k t287).bind fun bt288 => ((skiffref1_Blank.f k).bind fun t295 => ((choose_Other.f k t295).bind fun bt296 => ((Hand.choose_Active.f k (⟨#[]⟩ : ByteArray)).bind fun bt298 => (if bt277.1 = 0 then (if bt277.2.1 = 1 then ((skifflaw0_Num.f bt277.2.2.2.2.2).bind fun t305 => (if t305 = 0 then (if bt285.1 = 1 then ((skifflaw0_Num.f bt285.2).bind fun t306 => (if t306 = 0 then ((skifflaw0_Num.f bt288.2.2.2.2.2).bind fun t307 => (if t307 = 701 then (if bt296.1 = 0 then ((skifflaw0_Num.f bt296.2).bind fun t308 => (if t308 = 0 then ((skifflaw0_Num.f bt298.2.2.2.2.2).bind fun t309 => (some (t309 == 700))) else (none))) else (none)) else (none))) else (none))) else (none)) else (none))) else (none)) else (none))))))))))) = some r := h
 clear h
 replace H := Option.bind_eq_some_iff.mp H
 obtain ⟨t276, A10, H⟩ := H
 replace H : ((Hand.choose_Active.f k t276).bind fun bt277 => ((skifflaw7_held.f k).bind fun t284 => ((choose_Other.f k t284).bind fun bt285 => ((skiffref1_Blank.f k).bind fun t287 => ((Hand.choose_Active.f k t287).bind fun bt288 => ((skiffref1_Blank.f k).bind fun t295 => ((choose_Other.f k t295).bind fun bt296 => ((Hand.choose_Active.f k (⟨#[]⟩ : ByteArray)).bind fun bt298 => (if bt277.1 = 0 then (if bt277.2.1 = 1 then ((skifflaw0_Num.f bt277.2.2.2.2.2).bind fun t305 => (if t305 = 0 then (if bt285.1 = 1 then ((skifflaw0_Num.f bt285.2).bind fun t306 => (if t306 = 0 then ((skifflaw0_Num.f bt288.2.2.2.2.2).bind fun t307 => (if t307 = 701 then (if bt296.1 = 0 then ((skifflaw0_Num.f bt296.2).bind fun t308 => (if t308 = 0 then ((skifflaw0_Num.f bt298.2.2.2.2.2).bind fun t309 => (some (t309 == 700))) else (none))) else (none)) else (none))) else (none))) else (none)) else (none))) else (none)) else (none)))))))))) = some r := H
 have A1 := Aside0.mk A10
 clear A10
 replace H := Option.bind_eq_some_iff.mp H
 obtain ⟨⟨t277, t278, t279, t280, t281, t282⟩, A20, H⟩ := H
 replace H : ((skifflaw7_held.f k).bind fun t284 => ((choose_Other.f k t284).bind fun bt285 => ((skiffref1_Blank.f k).bind fun t287 => ((Hand.choose_Active.f k t287).bind fun bt288 => ((skiffref1_Blank.f k).bind fun t295 => ((choose_Other.f k t295).bind fun bt296 => ((Hand.choose_Active.f k (⟨#[]⟩ : ByteArray)).bind fun bt298 => (if t277 = 0 then (if t278 = 1 then ((skifflaw0_Num.f t282).bind fun t305 => (if t305 = 0 then (if bt285.1 = 1 then ((skifflaw0_Num.f bt285.2).bind fun t306 => (if t306 = 0 then ((skifflaw0_Num.f bt288.2.2.2.2.2).bind fun t307 => (if t307 = 701 then (if bt296.1 = 0 then ((skifflaw0_Num.f bt296.2).bind fun t308 => (if t308 = 0 then ((skifflaw0_Num.f bt298.2.2.2.2.2).bind fun t309 => (some (t309 == 700))) else (none))) else (none)) else (none))) else (none))) else (none)) else (none))) else (none)) else (none))))))))) = some r := H
 have A2 := Aside0.mk A20
 clear A20
 replace H := Option.bind_eq_some_iff.mp H
 obtain ⟨t284, A30, H⟩ := H
 replace H : ((choose_Other.f k t284).bind fun bt285 => ((skiffref1_Blank.f k).bind fun t287 => ((Hand.choose_Active.f k t287).bind fun bt288 => ((skiffref1_Blank.f k).bind fun t295 => ((choose_Other.f k t295).bind fun bt296 => ((Hand.choose_Active.f k (⟨#[]⟩ : ByteArray)).bind fun bt298 => (if t277 = 0 then (if t278 = 1 then ((skifflaw0_Num.f t282).bind fun t305 => (if t305 = 0 then (if bt285.1 = 1 then ((skifflaw0_Num.f bt285.2).bind fun t306 => (if t306 = 0 then ((skifflaw0_Num.f bt288.2.2.2.2.2).bind fun t307 => (if t307 = 701 then (if bt296.1 = 0 then ((skifflaw0_Num.f bt296.2).bind fun t308 => (if t308 = 0 then ((skifflaw0_Num.f bt298.2.2.2.2.2).bind fun t309 => (some (t309 == 700))) else (none))) else (none)) else (none))) else (none))) else (none)) else (none))) else (none)) else (none)))))))) = some r := H
 have A3 := Aside0.mk A30
 clear A30
 replace H := Option.bind_eq_some_iff.mp H
 obtain ⟨⟨t285, t286⟩, A40, H⟩ := H
 replace H : ((skiffref1_Blank.f k).bind fun t287 => ((Hand.choose_Active.f k t287).bind fun bt288 => ((skiffref1_Blank.f k).bind fun t295 => ((choose_Other.f k t295).bind fun bt296 => ((Hand.choose_Active.f k (⟨#[]⟩ : ByteArray)).bind fun bt298 => (if t277 = 0 then (if t278 = 1 then ((skifflaw0_Num.f t282).bind fun t305 => (if t305 = 0 then (if t285 = 1 then ((skifflaw0_Num.f t286).bind fun t306 => (if t306 = 0 then ((skifflaw0_Num.f bt288.2.2.2.2.2).bind fun t307 => (if t307 = 701 then (if bt296.1 = 0 then ((skifflaw0_Num.f bt296.2).bind fun t308 => (if t308 = 0 then ((skifflaw0_Num.f bt298.2.2.2.2.2).bind fun t309 => (some (t309 == 700))) else (none))) else (none)) else (none))) else (none))) else (none)) else (none))) else (none)) else (none))))))) = some r := H
 have A4 := Aside0.mk A40
 clear A40
 replace H := Option.bind_eq_some_iff.mp H
 obtain ⟨t287, A50, H⟩ := H
 replace H : ((Hand.choose_Active.f k t287).bind fun bt288 => ((skiffref1_Blank.f k).bind fun t295 => ((choose_Other.f k t295).bind fun bt296 => ((Hand.choose_Active.f k (⟨#[]⟩ : ByteArray)).bind fun bt298 => (if t277 = 0 then (if t278 = 1 then ((skifflaw0_Num.f t282).bind fun t305 => (if t305 = 0 then (if t285 = 1 then ((skifflaw0_Num.f t286).bind fun t306 => (if t306 = 0 then ((skifflaw0_Num.f bt288.2.2.2.2.2).bind fun t307 => (if t307 = 701 then (if bt296.1 = 0 then ((skifflaw0_Num.f bt296.2).bind fun t308 => (if t308 = 0 then ((skifflaw0_Num.f bt298.2.2.2.2.2).bind fun t309 => (some (t309 == 700))) else (none))) else (none)) else (none))) else (none))) else (none)) else (none))) else (none)) else (none)))))) = some r := H
 have A5 := Aside0.mk A50
 clear A50
 replace H := Option.bind_eq_some_iff.mp H
 obtain ⟨⟨t288, t289, t290, t291, t292, t293⟩, A60, H⟩ := H
 replace H : ((skiffref1_Blank.f k).bind fun t295 => ((choose_Other.f k t295).bind fun bt296 => ((Hand.choose_Active.f k (⟨#[]⟩ : ByteArray)).bind fun bt298 => (if t277 = 0 then (if t278 = 1 then ((skifflaw0_Num.f t282).bind fun t305 => (if t305 = 0 then (if t285 = 1 then ((skifflaw0_Num.f t286).bind fun t306 => (if t306 = 0 then ((skifflaw0_Num.f t293).bind fun t307 => (if t307 = 701 then (if bt296.1 = 0 then ((skifflaw0_Num.f bt296.2).bind fun t308 => (if t308 = 0 then ((skifflaw0_Num.f bt298.2.2.2.2.2).bind fun t309 => (some (t309 == 700))) else (none))) else (none)) else (none))) else (none))) else (none)) else (none))) else (none)) else (none))))) = some r := H
 have A6 := Aside0.mk A60
 clear A60
 replace H := Option.bind_eq_some_iff.mp H
 obtain ⟨t295, A70, H⟩ := H
 replace H : ((choose_Other.f k t295).bind fun bt296 => ((Hand.choose_Active.f k (⟨#[]⟩ : ByteArray)).bind fun bt298 => (if t277 = 0 then (if t278 = 1 then ((skifflaw0_Num.f t282).bind fun t305 => (if t305 = 0 then (if t285 = 1 then ((skifflaw0_Num.f t286).bind fun t306 => (if t306 = 0 then ((skifflaw0_Num.f t293).bind fun t307 => (if t307 = 701 then (if bt296.1 = 0 then ((skifflaw0_Num.f bt296.2).bind fun t308 => (if t308 = 0 then ((skifflaw0_Num.f bt298.2.2.2.2.2).bind fun t309 => (some (t309 == 700))) else (none))) else (none)) else (none))) else (none))) else (none)) else (none))) else (none)) else (none)))) = some r := H
 have A7 := Aside0.mk A70
 clear A70
 replace H := Option.bind_eq_some_iff.mp H
 obtain ⟨⟨t296, t297⟩, A80, H⟩ := H
 replace H : ((Hand.choose_Active.f k (⟨#[]⟩ : ByteArray)).bind fun bt298 => (if t277 = 0 then (if t278 = 1 then ((skifflaw0_Num.f t282).bind fun t305 => (if t305 = 0 then (if t285 = 1 then ((skifflaw0_Num.f t286).bind fun t306 => (if t306 = 0 then ((skifflaw0_Num.f t293).bind fun t307 => (if t307 = 701 then (if t296 = 0 then ((skifflaw0_Num.f t297).bind fun t308 => (if t308 = 0 then ((skifflaw0_Num.f bt298.2.2.2.2.2).bind fun t309 => (some (t309 == 700))) else (none))) else (none)) else (none))) else (none))) else (none)) else (none))) else (none)) else (none))) = some r := H
 have A8 := Aside0.mk A80
 clear A80
 replace H := Option.bind_eq_some_iff.mp H
 obtain ⟨⟨t298, t299, t300, t301, t302, t303⟩, A90, H⟩ := H
 replace H : (if t277 = 0 then (if t278 = 1 then ((skifflaw0_Num.f t282).bind fun t305 => (if t305 = 0 then (if t285 = 1 then ((skifflaw0_Num.f t286).bind fun t306 => (if t306 = 0 then ((skifflaw0_Num.f t293).bind fun t307 => (if t307 = 701 then (if t296 = 0 then ((skifflaw0_Num.f t297).bind fun t308 => (if t308 = 0 then ((skifflaw0_Num.f t303).bind fun t309 => (some (t309 == 700))) else (none))) else (none)) else (none))) else (none))) else (none)) else (none))) else (none)) else (none)) = some r := H
 have A9 := Aside0.mk A90
 clear A90
 by_cases c10 : t277 = 0
 ·rw [if_pos c10] at H
  have c10b0 : (t277 == 0) = true := beq_iff_eq.mpr c10
  have c10b1 : (t277 != 0) = false := bne_eq_false_iff_eq.mpr c10
  clear c10
  by_cases c11 : t278 = 1
  ·rw [if_pos c11] at H
   have c11b0 : (t278 == 1) = true := beq_iff_eq.mpr c11
   have c11b1 : (t278 != 1) = false := bne_eq_false_iff_eq.mpr c11
   clear c11
   replace H := Option.bind_eq_some_iff.mp H
   obtain ⟨t305, A120, H⟩ := H
   replace H : (if t305 = 0 then (if t285 = 1 then ((skifflaw0_Num.f t286).bind fun t306 => (if t306 = 0 then ((skifflaw0_Num.f t293).bind fun t307 => (if t307 = 701 then (if t296 = 0 then ((skifflaw0_Num.f t297).bind fun t308 => (if t308 = 0 then ((skifflaw0_Num.f t303).bind fun t309 => (some (t309 == 700))) else (none))) else (none)) else (none))) else (none))) else (none)) else (none)) = some r := H
   have A12 := Aside0.mk A120
   clear A120
   by_cases c13 : t305 = 0
   ·rw [if_pos c13] at H
    have c13b0 : (t305 == 0) = true := beq_iff_eq.mpr c13
    have c13b1 : (t305 != 0) = false := bne_eq_false_iff_eq.mpr c13
    clear c13
    by_cases c14 : t285 = 1
    ·rw [if_pos c14] at H
     have c14b0 : (t285 == 1) = true := beq_iff_eq.mpr c14
     have c14b1 : (t285 != 1) = false := bne_eq_false_iff_eq.mpr c14
     clear c14
     replace H := Option.bind_eq_some_iff.mp H
     obtain ⟨t306, A150, H⟩ := H
     replace H : (if t306 = 0 then ((skifflaw0_Num.f t293).bind fun t307 => (if t307 = 701 then (if t296 = 0 then ((skifflaw0_Num.f t297).bind fun t308 => (if t308 = 0 then ((skifflaw0_Num.f t303).bind fun t309 => (some (t309 == 700))) else (none))) else (none)) else (none))) else (none)) = some r := H
     have A15 := Aside0.mk A150
     clear A150
     by_cases c16 : t306 = 0
     ·rw [if_pos c16] at H
      have c16b0 : (t306 == 0) = true := beq_iff_eq.mpr c16
      have c16b1 : (t306 != 0) = false := bne_eq_false_iff_eq.mpr c16
      clear c16
      replace H := Option.bind_eq_some_iff.mp H
      obtain ⟨t307, A170, H⟩ := H
      replace H : (if t307 = 701 then (if t296 = 0 then ((skifflaw0_Num.f t297).bind fun t308 => (if t308 = 0 then ((skifflaw0_Num.f t303).bind fun t309 => (some (t309 == 700))) else (none))) else (none)) else (none)) = some r := H
      have A17 := Aside0.mk A170
      clear A170
      by_cases c18 : t307 = 701
      ·rw [if_pos c18] at H
       have c18b0 : (t307 == 701) = true := beq_iff_eq.mpr c18
       have c18b1 : (t307 != 701) = false := bne_eq_false_iff_eq.mpr c18
       clear c18
       by_cases c19 : t296 = 0
       ·rw [if_pos c19] at H
        have c19b0 : (t296 == 0) = true := beq_iff_eq.mpr c19
        have c19b1 : (t296 != 0) = false := bne_eq_false_iff_eq.mpr c19
        clear c19
        replace H := Option.bind_eq_some_iff.mp H
        obtain ⟨t308, A200, H⟩ := H
        replace H : (if t308 = 0 then ((skifflaw0_Num.f t303).bind fun t309 => (some (t309 == 700))) else (none)) = some r := H
        have A20 := Aside0.mk A200
        clear A200
        by_cases c21 : t308 = 0
        ·rw [if_pos c21] at H
         have c21b0 : (t308 == 0) = true := beq_iff_eq.mpr c21
         have c21b1 : (t308 != 0) = false := bne_eq_false_iff_eq.mpr c21
         clear c21
         replace H := Option.bind_eq_some_iff.mp H
         obtain ⟨t309, A220, H⟩ := H
         replace H : (some (t309 == 700)) = some r := H
         have A22 := Aside0.mk A220
         clear A220
         obtain rfl := Option.some.inj H
         go_enter Try.func14, Try.ntmps14
         go_wp2_with (first | ((with_reducible refine gate_callee (f := 22) rfl ?_); refine goesL_ (some 12) rfl rfl Try.func22 (by kernel_rfl) rfl #[] rfl q1_ ?_; (with_reducible refine (skifflaw7_held.calls k  t276 _ A1.out).mono ?_); rintro e w23 ⟨rfl, hb⟩; refine ⟨_, rfl, ?_⟩; have n0_ := Aside0.mk (below_step q2_ hb); clear HB; have HB := n0_; clear n0_; (try clear hb); (try clear hb2); (try clear hk); (try clear hi)) | ((with_reducible refine gate_callee (f := 9) rfl ?_); refine goesL_ (some 13) rfl rfl Try.func9 (by kernel_rfl) rfl #[.string t276] rfl q1_ ?_; (with_reducible refine (Hand.choose_Active.calls k t276 t277 t278 t279 t280 t281 t282 _ A2.out).mono ?_); rintro e w24 ⟨rfl, hb⟩; refine ⟨_, rfl, ?_⟩; have n0_ := Aside0.mk (below_step q2_ hb); clear HB; have HB := n0_; clear n0_; (try clear hb); (try clear hb2); (try clear hk); (try clear hi)) | ((with_reducible refine gate_dst (N := 1) rfl ?_); refine box_event ?hg (N := 1) ?hd (cs := #[.int .i64 0, .int .i64 0, .int .i64 0, .int .i64 0, .int .i64 0]) (t := 25) ?hr ?_; (case hd => rfl); (case hg => rfl); (case hr => first | (go_simp; done) | (go_simp; rfl)); intro gb283 hg w25 hbox hb; have n0_ := Aside0.mk (below_step q2_ hb); have n1_ := Aside0.mk (hbox); have n2_ := Aside0.mk ((by rw [hg]; exact (below_size q2_) : w.heap.size ≤ gb283)); have n3_ := Aside0.mk ((by rw [hg]; exact (below_size q2_) : w.heap.size ≤ gb283)); clear HB; have HB := n0_; have BK283 := n1_; have GW283 := n2_; have GE283 := n3_; clear n0_ n1_ n2_ n3_; clear hb hbox hg; have hcz26_0 : w25.cell? ⟨gb283, 0, none⟩ = some (.int .i64 0) := (blk_cell BK283.out 0).trans rfl; have hcz26_1 : w25.cell? ⟨gb283, 1, none⟩ = some (.int .i64 0) := (blk_cell BK283.out 1).trans rfl; have hcz26_2 : w25.cell? ⟨gb283, 2, none⟩ = some (.int .i64 0) := (blk_cell BK283.out 2).trans rfl; have hcz26_3 : w25.cell? ⟨gb283, 3, none⟩ = some (.int .i64 0) := (blk_cell BK283.out 3).trans rfl; have hcz26_4 : w25.cell? ⟨gb283, 4, none⟩ = some (.int .i64 0) := (blk_cell BK283.out 4).trans rfl; have hfz26_0 := blk_frozen BK283.out 0; have hfz26_1 := blk_frozen BK283.out 1; have hfz26_2 := blk_frozen BK283.out 2; have hfz26_3 := blk_frozen BK283.out 3; have hfz26_4 := blk_frozen BK283.out 4) | ((with_reducible refine gate_callee (f := 22) rfl ?_); refine goesL_ (some 17) rfl rfl Try.func22 (by kernel_rfl) rfl #[] rfl q1_ ?_; (with_reducible refine (skifflaw7_held.calls k  t284 _ A3.out).mono ?_); rintro e w27 ⟨rfl, hb⟩; refine ⟨_, rfl, ?_⟩; have n0_ := Aside0.mk (blk_below (g := gb283) (o := .cells #[.int .i64 t277, .int .i64 t278, .int .i64 t279, .int .i64 t280, .int .i64 t281] 25 (0, 0)) (by (with_reducible repeat (first | refine blk_drewN ?_ _ | refine blk_drew ?_ | refine blk_alloc ?_ _)); refine blk_put (cs := #[.int .i64 t277, .int .i64 t278, .int .i64 t279, .int .i64 t280, .int .i64 0]) ?_ 4 _ rfl; (with_reducible repeat (first | refine blk_drewN ?_ _ | refine blk_drew ?_ | refine blk_alloc ?_ _)); refine blk_put (cs := #[.int .i64 t277, .int .i64 t278, .int .i64 t279, .int .i64 0, .int .i64 0]) ?_ 3 _ rfl; (with_reducible repeat (first | refine blk_drewN ?_ _ | refine blk_drew ?_ | refine blk_alloc ?_ _)); refine blk_put (cs := #[.int .i64 t277, .int .i64 t278, .int .i64 0, .int .i64 0, .int .i64 0]) ?_ 2 _ rfl; (with_reducible repeat (first | refine blk_drewN ?_ _ | refine blk_drew ?_ | refine blk_alloc ?_ _)); refine blk_put (cs := #[.int .i64 t277, .int .i64 0, .int .i64 0, .int .i64 0, .int .i64 0]) ?_ 1 _ rfl; (with_reducible repeat (first | refine blk_drewN ?_ _ | refine blk_drew ?_ | refine blk_alloc ?_ _)); refine blk_put (cs := #[.int .i64 0, .int .i64 0, .int .i64 0, .int .i64 0, .int .i64 0]) ?_ 0 _ rfl; (with_reducible repeat (first | refine blk_drewN ?_ _ | refine blk_drew ?_ | refine blk_alloc ?_ _)); exact BK283.out) hb); have n1_ := Aside0.mk (below_step (by repeat (first | (with_reducible first | exact HB.out | apply below_alloc | apply pw_below_drewN | apply below_drew1 | refine below_set ?_ GE283.out) | exact HB.out)) hb); clear BK283; clear HB; have BK283 := n0_; have HB := n1_; clear n0_ n1_; (try clear hb); (try clear hb2); (try clear hk); (try clear hi)) | ((with_reducible refine gate_callee (f := 11) rfl ?_); refine goesL_ (some 18) rfl rfl Try.func11 (by kernel_rfl) rfl #[.string t284] rfl q1_ ?_; (with_reducible refine (choose_Other.calls k t284 t285 t286 _ A4.out).mono ?_); rintro e w28 ⟨rfl, hb⟩; refine ⟨_, rfl, ?_⟩; have n0_ := Aside0.mk (blk_below (g := gb283) (o := .cells #[.int .i64 t277, .int .i64 t278, .int .i64 t279, .int .i64 t280, .int .i64 t281] 25 (0, 0)) (by (with_reducible repeat (first | refine blk_drewN ?_ _ | refine blk_drew ?_ | refine blk_alloc ?_ _)); exact BK283.out) hb); have n1_ := Aside0.mk (below_step (by repeat (first | (with_reducible first | exact HB.out | apply below_alloc | apply pw_below_drewN | apply below_drew1 | refine below_set ?_ GE283.out) | exact HB.out)) hb); clear BK283; clear HB; have BK283 := n0_; have HB := n1_; clear n0_ n1_; (try clear hb); (try clear hb2); (try clear hk); (try clear hi)) | ((with_reducible refine gate_callee (f := 17) rfl ?_); refine goesL_ (some 22) rfl rfl Try.func17 (by kernel_rfl) rfl #[] rfl q1_ ?_; (with_reducible refine (skiffref1_Blank.calls k  t287 _ A5.out).mono ?_); rintro e w29 ⟨rfl, hb⟩; refine ⟨_, rfl, ?_⟩; have n0_ := Aside0.mk (blk_below (g := gb283) (o := .cells #[.int .i64 t277, .int .i64 t278, .int .i64 t279, .int .i64 t280, .int .i64 t281] 25 (0, 0)) (by (with_reducible repeat (first | refine blk_drewN ?_ _ | refine blk_drew ?_ | refine blk_alloc ?_ _)); exact BK283.out) hb); have n1_ := Aside0.mk (below_step (by repeat (first | (with_reducible first | exact HB.out | apply below_alloc | apply pw_below_drewN | apply below_drew1 | refine below_set ?_ GE283.out) | exact HB.out)) hb); clear BK283; clear HB; have BK283 := n0_; have HB := n1_; clear n0_ n1_; (try clear hb); (try clear hb2); (try clear hk); (try clear hi)) | ((with_reducible refine gate_callee (f := 9) rfl ?_); refine goesL_ (some 23) rfl rfl Try.func9 (by kernel_rfl) rfl #[.string t287] rfl q1_ ?_; (with_reducible refine (Hand.choose_Active.calls k t287 t288 t289 t290 t291 t292 t293 _ A6.out).mono ?_); rintro e w30 ⟨rfl, hb⟩; refine ⟨_, rfl, ?_⟩; have n0_ := Aside0.mk (blk_below (g := gb283) (o := .cells #[.int .i64 t277, .int .i64 t278, .int .i64 t279, .int .i64 t280, .int .i64 t281] 25 (0, 0)) (by (with_reducible repeat (first | refine blk_drewN ?_ _ | refine blk_drew ?_ | refine blk_alloc ?_ _)); exact BK283.out) hb); have n1_ := Aside0.mk (below_step (by repeat (first | (with_reducible first | exact HB.out | apply below_alloc | apply pw_below_drewN | apply below_drew1 | refine below_set ?_ GE283.out) | exact HB.out)) hb); clear BK283; clear HB; have BK283 := n0_; have HB := n1_; clear n0_ n1_; (try clear hb); (try clear hb2); (try clear hk); (try clear hi)) | ((with_reducible refine gate_dst (N := 5) rfl ?_); refine box_event ?hg (N := 5) ?hd (cs := #[.int .i64 0, .int .i64 0, .int .i64 0, .int .i64 0, .int .i64 0]) (t := 25) ?hr ?_; (case hd => rfl); (case hg => rfl); (case hr => first | (go_simp; done) | (go_simp; rfl)); intro gb294 hg w31 hbox hb; have n0_ := Aside0.mk (blk_below (g := gb283) (o := .cells #[.int .i64 t277, .int .i64 t278, .int .i64 t279, .int .i64 t280, .int .i64 t281] 25 (0, 0)) (by (with_reducible repeat (first | refine blk_drewN ?_ _ | refine blk_drew ?_ | refine blk_alloc ?_ _)); exact BK283.out) hb); have n1_ := Aside0.mk (below_step (by repeat (first | (with_reducible first | exact HB.out | apply below_alloc | apply pw_below_drewN | apply below_drew1 | refine below_set ?_ GE283.out) | exact HB.out)) hb); have n2_ := Aside0.mk (hbox); have n3_ := Aside0.mk ((by rw [hg]; exact (below_size (by repeat (first | (with_reducible first | exact HB.out | apply below_alloc | apply pw_below_drewN | apply below_drew1 | refine below_set ?_ GE283.out) | exact HB.out))) : w.heap.size ≤ gb294)); have n4_ := Aside0.mk ((by rw [hg]; exact (below_size (by repeat (first | (with_reducible first | exact HB.out | apply below_alloc | apply pw_below_drewN | apply below_drew1 | refine below_set ?_ GE283.out) | exact HB.out))) : w.heap.size ≤ gb294)); have n5_ := Aside0.mk ((by rw [hg]; exact Nat.ne_of_lt (blk_lt (g := gb283) (o := .cells #[.int .i64 t277, .int .i64 t278, .int .i64 t279, .int .i64 t280, .int .i64 t281] 25 (0, 0)) (by (with_reducible repeat (first | refine blk_drewN ?_ _ | refine blk_drew ?_ | refine blk_alloc ?_ _)); exact BK283.out)) : gb283 ≠ gb294)); have n6_ := Aside0.mk ((by rw [hg]; exact Nat.ne_of_gt (blk_lt (g := gb283) (o := .cells #[.int .i64 t277, .int .i64 t278, .int .i64 t279, .int .i64 t280, .int .i64 t281] 25 (0, 0)) (by (with_reducible repeat (first | refine blk_drewN ?_ _ | refine blk_drew ?_ | refine blk_alloc ?_ _)); exact BK283.out)) : gb294 ≠ gb283)); clear BK283; clear HB; have BK283 := n0_; have HB := n1_; have BK294 := n2_; have GW294 := n3_; have GE294 := n4_; have NB283_294 := n5_; have NB294_283 := n6_; clear n0_ n1_ n2_ n3_ n4_ n5_ n6_; clear hb hbox hg; have hnb32 := NB294_283.out; have hnc32 := NB283_294.out; have hcz33_0 : w31.cell? ⟨gb294, 0, none⟩ = some (.int .i64 0) := (blk_cell BK294.out 0).trans rfl; have hcz33_1 : w31.cell? ⟨gb294, 1, none⟩ = some (.int .i64 0) := (blk_cell BK294.out 1).trans rfl; have hcz33_2 : w31.cell? ⟨gb294, 2, none⟩ = some (.int .i64 0) := (blk_cell BK294.out 2).trans rfl; have hcz33_3 : w31.cell? ⟨gb294, 3, none⟩ = some (.int .i64 0) := (blk_cell BK294.out 3).trans rfl; have hcz33_4 : w31.cell? ⟨gb294, 4, none⟩ = some (.int .i64 0) := (blk_cell BK294.out 4).trans rfl; have hfz33_0 := blk_frozen BK294.out 0; have hfz33_1 := blk_frozen BK294.out 1; have hfz33_2 := blk_frozen BK294.out 2; have hfz33_3 := blk_frozen BK294.out 3; have hfz33_4 := blk_frozen BK294.out 4) | ((with_reducible refine gate_callee (f := 17) rfl ?_); refine goesL_ (some 27) rfl rfl Try.func17 (by kernel_rfl) rfl #[] rfl q1_ ?_; (with_reducible refine (skiffref1_Blank.calls k  t295 _ A7.out).mono ?_); rintro e w34 ⟨rfl, hb⟩; refine ⟨_, rfl, ?_⟩; have n0_ := Aside0.mk (blk_below (g := gb283) (o := .cells #[.int .i64 t277, .int .i64 t278, .int .i64 t279, .int .i64 t280, .int .i64 t281] 25 (0, 0)) (by (with_reducible repeat (first | refine blk_drewN ?_ _ | refine blk_drew ?_ | refine blk_alloc ?_ _)); refine blk_far ?_ NB283_294.out _; (with_reducible repeat (first | refine blk_drewN ?_ _ | refine blk_drew ?_ | refine blk_alloc ?_ _)); refine blk_far ?_ NB283_294.out _; (with_reducible repeat (first | refine blk_drewN ?_ _ | refine blk_drew ?_ | refine blk_alloc ?_ _)); refine blk_far ?_ NB283_294.out _; (with_reducible repeat (first | refine blk_drewN ?_ _ | refine blk_drew ?_ | refine blk_alloc ?_ _)); refine blk_far ?_ NB283_294.out _; (with_reducible repeat (first | refine blk_drewN ?_ _ | refine blk_drew ?_ | refine blk_alloc ?_ _)); refine blk_far ?_ NB283_294.out _; (with_reducible repeat (first | refine blk_drewN ?_ _ | refine blk_drew ?_ | refine blk_alloc ?_ _)); exact BK283.out) hb); have n1_ := Aside0.mk (blk_below (g := gb294) (o := .cells #[.int .i64 t288, .int .i64 t289, .int .i64 t290, .int .i64 t291, .int .i64 t292] 25 (0, 0)) (by (with_reducible repeat (first | refine blk_drewN ?_ _ | refine blk_drew ?_ | refine blk_alloc ?_ _)); refine blk_put (cs := #[.int .i64 t288, .int .i64 t289, .int .i64 t290, .int .i64 t291, .int .i64 0]) ?_ 4 _ rfl; (with_reducible repeat (first | refine blk_drewN ?_ _ | refine blk_drew ?_ | refine blk_alloc ?_ _)); refine blk_put (cs := #[.int .i64 t288, .int .i64 t289, .int .i64 t290, .int .i64 0, .int .i64 0]) ?_ 3 _ rfl; (with_reducible repeat (first | refine blk_drewN ?_ _ | refine blk_drew ?_ | refine blk_alloc ?_ _)); refine blk_put (cs := #[.int .i64 t288, .int .i64 t289, .int .i64 0, .int .i64 0, .int .i64 0]) ?_ 2 _ rfl; (with_reducible repeat (first | refine blk_drewN ?_ _ | refine blk_drew ?_ | refine blk_alloc ?_ _)); refine blk_put (cs := #[.int .i64 t288, .int .i64 0, .int .i64 0, .int .i64 0, .int .i64 0]) ?_ 1 _ rfl; (with_reducible repeat (first | refine blk_drewN ?_ _ | refine blk_drew ?_ | refine blk_alloc ?_ _)); refine blk_put (cs := #[.int .i64 0, .int .i64 0, .int .i64 0, .int .i64 0, .int .i64 0]) ?_ 0 _ rfl; (with_reducible repeat (first | refine blk_drewN ?_ _ | refine blk_drew ?_ | refine blk_alloc ?_ _)); exact BK294.out) hb); have n2_ := Aside0.mk (below_step (by repeat (first | (with_reducible first | exact HB.out | apply below_alloc | apply pw_below_drewN | apply below_drew1 | refine below_set ?_ GE283.out | refine below_set ?_ GE294.out) | exact HB.out)) hb); clear BK283; clear BK294; clear HB; have BK283 := n0_; have BK294 := n1_; have HB := n2_; clear n0_ n1_ n2_; (try clear hb); (try clear hb2); (try clear hk); (try clear hi)) | ((with_reducible refine gate_callee (f := 11) rfl ?_); refine goesL_ (some 28) rfl rfl Try.func11 (by kernel_rfl) rfl #[.string t295] rfl q1_ ?_; (with_reducible refine (choose_Other.calls k t295 t296 t297 _ A8.out).mono ?_); rintro e w35 ⟨rfl, hb⟩; refine ⟨_, rfl, ?_⟩; have n0_ := Aside0.mk (blk_below (g := gb283) (o := .cells #[.int .i64 t277, .int .i64 t278, .int .i64 t279, .int .i64 t280, .int .i64 t281] 25 (0, 0)) (by (with_reducible repeat (first | refine blk_drewN ?_ _ | refine blk_drew ?_ | refine blk_alloc ?_ _)); exact BK283.out) hb); have n1_ := Aside0.mk (blk_below (g := gb294) (o := .cells #[.int .i64 t288, .int .i64 t289, .int .i64 t290, .int .i64 t291, .int .i64 t292] 25 (0, 0)) (by (with_reducible repeat (first | refine blk_drewN ?_ _ | refine blk_drew ?_ | refine blk_alloc ?_ _)); exact BK294.out) hb); have n2_ := Aside0.mk (below_step (by repeat (first | (with_reducible first | exact HB.out | apply below_alloc | apply pw_below_drewN | apply below_drew1 | refine below_set ?_ GE283.out | refine below_set ?_ GE294.out) | exact HB.out)) hb); clear BK283; clear BK294; clear HB; have BK283 := n0_; have BK294 := n1_; have HB := n2_; clear n0_ n1_ n2_; (try clear hb); (try clear hb2); (try clear hk); (try clear hi)) | ((with_reducible refine gate_callee (f := 9) rfl ?_); refine goesL_ (some 32) rfl rfl Try.func9 (by kernel_rfl) rfl #[.string (⟨#[]⟩ : ByteArray)] rfl q1_ ?_; (with_reducible refine (Hand.choose_Active.calls k (⟨#[]⟩ : ByteArray) t298 t299 t300 t301 t302 t303 _ A9.out).mono ?_); rintro e w36 ⟨rfl, hb⟩; refine ⟨_, rfl, ?_⟩; have n0_ := Aside0.mk (blk_below (g := gb283) (o := .cells #[.int .i64 t277, .int .i64 t278, .int .i64 t279, .int .i64 t280, .int .i64 t281] 25 (0, 0)) (by (with_reducible repeat (first | refine blk_drewN ?_ _ | refine blk_drew ?_ | refine blk_alloc ?_ _)); exact BK283.out) hb); have n1_ := Aside0.mk (blk_below (g := gb294) (o := .cells #[.int .i64 t288, .int .i64 t289, .int .i64 t290, .int .i64 t291, .int .i64 t292] 25 (0, 0)) (by (with_reducible repeat (first | refine blk_drewN ?_ _ | refine blk_drew ?_ | refine blk_alloc ?_ _)); exact BK294.out) hb); have n2_ := Aside0.mk (below_step (by repeat (first | (with_reducible first | exact HB.out | apply below_alloc | apply pw_below_drewN | apply below_drew1 | refine below_set ?_ GE283.out | refine below_set ?_ GE294.out) | exact HB.out)) hb); clear BK283; clear BK294; clear HB; have BK283 := n0_; have BK294 := n1_; have HB := n2_; clear n0_ n1_ n2_; (try clear hb); (try clear hb2); (try clear hk); (try clear hi)) | ((with_reducible refine gate_dst (N := 9) rfl ?_); refine box_event ?hg (N := 9) ?hd (cs := #[.int .i64 0, .int .i64 0, .int .i64 0, .int .i64 0, .int .i64 0]) (t := 25) ?hr ?_; (case hd => rfl); (case hg => rfl); (case hr => first | (go_simp; done) | (go_simp; rfl)); intro gb304 hg w37 hbox hb; have n0_ := Aside0.mk (blk_below (g := gb283) (o := .cells #[.int .i64 t277, .int .i64 t278, .int .i64 t279, .int .i64 t280, .int .i64 t281] 25 (0, 0)) (by (with_reducible repeat (first | refine blk_drewN ?_ _ | refine blk_drew ?_ | refine blk_alloc ?_ _)); exact BK283.out) hb); have n1_ := Aside0.mk (blk_below (g := gb294) (o := .cells #[.int .i64 t288, .int .i64 t289, .int .i64 t290, .int .i64 t291, .int .i64 t292] 25 (0, 0)) (by (with_reducible repeat (first | refine blk_drewN ?_ _ | refine blk_drew ?_ | refine blk_alloc ?_ _)); exact BK294.out) hb); have n2_ := Aside0.mk (below_step (by repeat (first | (with_reducible first | exact HB.out | apply below_alloc | apply pw_below_drewN | apply below_drew1 | refine below_set ?_ GE283.out | refine below_set ?_ GE294.out) | exact HB.out)) hb); have n3_ := Aside0.mk (hbox); have n4_ := Aside0.mk ((by rw [hg]; exact (below_size (by repeat (first | (with_reducible first | exact HB.out | apply below_alloc | apply pw_below_drewN | apply below_drew1 | refine below_set ?_ GE283.out | refine below_set ?_ GE294.out) | exact HB.out))) : w.heap.size ≤ gb304)); have n5_ := Aside0.mk ((by rw [hg]; exact (below_size (by repeat (first | (with_reducible first | exact HB.out | apply below_alloc | apply pw_below_drewN | apply below_drew1 | refine below_set ?_ GE283.out | refine below_set ?_ GE294.out) | exact HB.out))) : w.heap.size ≤ gb304)); have n6_ := Aside0.mk ((by rw [hg]; exact Nat.ne_of_lt (blk_lt (g := gb283) (o := .cells #[.int .i64 t277, .int .i64 t278, .int .i64 t279, .int .i64 t280, .int .i64 t281] 25 (0, 0)) (by (with_reducible repeat (first | refine blk_drewN ?_ _ | refine blk_drew ?_ | refine blk_alloc ?_ _)); exact BK283.out)) : gb283 ≠ gb304)); have n7_ := Aside0.mk ((by rw [hg]; exact Nat.ne_of_gt (blk_lt (g := gb283) (o := .cells #[.int .i64 t277, .int .i64 t278, .int .i64 t279, .int .i64 t280, .int .i64 t281] 25 (0, 0)) (by (with_reducible repeat (first | refine blk_drewN ?_ _ | refine blk_drew ?_ | refine blk_alloc ?_ _)); exact BK283.out)) : gb304 ≠ gb283)); have n8_ := Aside0.mk ((by rw [hg]; exact Nat.ne_of_lt (blk_lt (g := gb294) (o := .cells #[.int .i64 t288, .int .i64 t289, .int .i64 t290, .int .i64 t291, .int .i64 t292] 25 (0, 0)) (by (with_reducible repeat (first | refine blk_drewN ?_ _ | refine blk_drew ?_ | refine blk_alloc ?_ _)); exact BK294.out)) : gb294 ≠ gb304)); have n9_ := Aside0.mk ((by rw [hg]; exact Nat.ne_of_gt (blk_lt (g := gb294) (o := .cells #[.int .i64 t288, .int .i64 t289, .int .i64 t290, .int .i64 t291, .int .i64 t292] 25 (0, 0)) (by (with_reducible repeat (first | refine blk_drewN ?_ _ | refine blk_drew ?_ | refine blk_alloc ?_ _)); exact BK294.out)) : gb304 ≠ gb294)); clear BK283; clear BK294; clear HB; have BK283 := n0_; have BK294 := n1_; have HB := n2_; have BK304 := n3_; have GW304 := n4_; have GE304 := n5_; have NB283_304 := n6_; have NB304_283 := n7_; have NB294_304 := n8_; have NB304_294 := n9_; clear n0_ n1_ n2_ n3_ n4_ n5_ n6_ n7_ n8_ n9_; clear hb hbox hg; have hnb38 := NB304_283.out; have hnc38 := NB283_304.out; have hnb39 := NB304_294.out; have hnc39 := NB294_304.out; have hcz40_0 : w37.cell? ⟨gb304, 0, none⟩ = some (.int .i64 0) := (blk_cell BK304.out 0).trans rfl; have hcz40_1 : w37.cell? ⟨gb304, 1, none⟩ = some (.int .i64 0) := (blk_cell BK304.out 1).trans rfl; have hcz40_2 : w37.cell? ⟨gb304, 2, none⟩ = some (.int .i64 0) := (blk_cell BK304.out 2).trans rfl; have hcz40_3 : w37.cell? ⟨gb304, 3, none⟩ = some (.int .i64 0) := (blk_cell BK304.out 3).trans rfl; have hcz40_4 : w37.cell? ⟨gb304, 4, none⟩ = some (.int .i64 0) := (blk_cell BK304.out 4).trans rfl; have hfz40_0 := blk_frozen BK304.out 0; have hfz40_1 := blk_frozen BK304.out 1; have hfz40_2 := blk_frozen BK304.out 2; have hfz40_3 := blk_frozen BK304.out 3; have hfz40_4 := blk_frozen BK304.out 4; have hcz41_0 : w37.cell? ⟨gb283, 0, none⟩ = some (.int .i64 t277) := (blk_cell BK283.out 0).trans rfl; have hcz41_1 : w37.cell? ⟨gb283, 1, none⟩ = some (.int .i64 t278) := (blk_cell BK283.out 1).trans rfl; have hcz41_2 : w37.cell? ⟨gb283, 2, none⟩ = some (.int .i64 t279) := (blk_cell BK283.out 2).trans rfl; have hcz41_3 : w37.cell? ⟨gb283, 3, none⟩ = some (.int .i64 t280) := (blk_cell BK283.out 3).trans rfl; have hcz41_4 : w37.cell? ⟨gb283, 4, none⟩ = some (.int .i64 t281) := (blk_cell BK283.out 4).trans rfl; have hfz41_0 := blk_frozen BK283.out 0; have hfz41_1 := blk_frozen BK283.out 1; have hfz41_2 := blk_frozen BK283.out 2; have hfz41_3 := blk_frozen BK283.out 3; have hfz41_4 := blk_frozen BK283.out 4) | (go_at_call 13; (with_reducible refine (skifflaw0_Num.calls t282 t305 _ A12.out).mono ?_); rintro e w' ⟨rfl, ⟨nd, rfl⟩⟩) | (go_at_call 13; (with_reducible refine (skifflaw0_Num.calls t286 t306 _ A15.out).mono ?_); rintro e w' ⟨rfl, ⟨nd, rfl⟩⟩) | (go_at_call 13; (with_reducible refine (skifflaw0_Num.calls t293 t307 _ A17.out).mono ?_); rintro e w' ⟨rfl, ⟨nd, rfl⟩⟩) | (go_at_call 13; (with_reducible refine (skifflaw0_Num.calls t297 t308 _ A20.out).mono ?_); rintro e w' ⟨rfl, ⟨nd, rfl⟩⟩) | (go_at_call 13; (with_reducible refine (skifflaw0_Num.calls t303 t309 _ A22.out).mono ?_); rintro e w' ⟨rfl, ⟨nd, rfl⟩⟩))
         go_ret
         exact ⟨by first | rfl | (simp [errW_none, errW_some] <;> rfl) | (simp [*, errW_none, errW_some] <;> rfl), by repeat (first | (with_reducible first | exact HB.out | apply below_alloc | apply pw_below_drewN | apply below_drew1 | refine below_set ?_ GE283.out | refine below_set ?_ GE294.out | refine below_set ?_ GE304.out) | exact HB.out)⟩
        ·rw [if_neg c21] at H
         exact absurd H (by simp)
       ·rw [if_neg c19] at H
        exact absurd H (by simp)
      ·rw [if_neg c18] at H
       exact absurd H (by simp)
     ·rw [if_neg c16] at H
      exact absurd H (by simp)
    ·rw [if_neg c14] at H
     exact absurd H (by simp)
   ·rw [if_neg c13] at H
    exact absurd H (by simp)
  ·rw [if_neg c11] at H
   exact absurd H (by simp)
 ·rw [if_neg c10] at H
  exact absurd H (by simp)
end Go.Proofs.Ytjadcjkjpkkmkaa.PAll

-- Written by this session's own program (wip/tools/myprint.py), which runs the kit's print over functions proved by hand.
namespace Go.Proofs.Ytjadcjkjpkkmkaa.PAll
open Go.RowKit Go.Proofs.YtjadcjkjpkkmkaaW.PrintWords Go.Proofs.YtjadcjkjpkkmkaaW.PrintLast Go.Proofs.YtjadcjkjpkkmkaaW.PrintMore
attribute [local go_sem] max2_int min2_int max_two min_two max_three min_three max_four min_four   -- for this text's walks alone
set_option linter.unusedVariables false
set_option linter.unusedSimpArgs false
attribute [local go_sem high] eqA25
mutual
def skifflaw7_ChooseStays.j0 : Nat → ByteArray → Int → ByteArray → Int → Int → Int → Bool → Int → Int → Int → Int → Int → Option (Bool)
 | 0, _, _, _, _, _, _, _, _, _, _, _, _ => none
 | k + 1, x0, x1, x2, x3, x10, x11, x43, x418000, x418001, x418002, x418003, x418004 => if x43 = true then ((skifflaw0_Num.f x10).bind fun t422 => (some (t422 != 0))) else ((skiffref1_Base.f x11).bind fun bt423 => ((Hand.skiffref1_Torn.f x0 (wrap64 (bt423.1 + (wrap64 (4 * (wrap64 (Int.tmod (IntKind.u64.wrap (x1)) 72)))))) x2 (wrap64 (Int.tmod (IntKind.u64.wrap (x3)) 33))).bind fun bt425 => (if bt423.2 = 0 then (skifflaw7_ChooseStays.j1 k x11 bt423.2 bt425.1 (bt425.2 != 0) x418000 x418001 x418002 x418003 x418004) else (skifflaw7_ChooseStays.j1 k x11 bt423.2 bt425.1 true x418000 x418001 x418002 x418003 x418004))))
def skifflaw7_ChooseStays.j1 : Nat → Int → Int → ByteArray → Bool → Int → Int → Int → Int → Int → Option (Bool)
 | 0, _, _, _, _, _, _, _, _, _ => none
 | k + 1, x11, x14, x15, x74, x418000, x418001, x418002, x418003, x418004 => if x74 = true then (some (x14 == 0)) else ((Hand.choose_Active.f k x15).bind fun bt427 => ((skiffref1_Scan.f k x15).bind fun bt434 => (skifflaw7_ChooseStays.l0 k x11 x15 bt427.2.2.2.2.2 bt434.1 0 x418000 x418001 x418002 x418003 x418004 bt427.1 bt427.2.1 bt427.2.2.1 bt427.2.2.2.1 bt427.2.2.2.2.1)))
def skifflaw7_ChooseStays.l0 : Nat → Int → ByteArray → Int → List (S25) → Int → Int → Int → Int → Int → Int → Int → Int → Int → Int → Int → Option (Bool)
 | 0, _, _, _, _, _, _, _, _, _, _, _, _, _, _, _ => none
 | k + 1, x11, x15, x18, x19, x21, x418000, x418001, x418002, x418003, x418004, x434000, x434001, x434002, x434003, x434004 => if x21 < (x19.length : Int) then (if 0 ≤ x21 then ((skiffref1_Good.f k x15 ((rd_T25 x19 x21).f1.f0) ((rd_T25 x19 x21).f1.f1) ((rd_T25 x19 x21).f1.f2) ((rd_T25 x19 x21).f1.f3)).bind fun bt441 => (if bt441.1 = true then (if ((rd_T25 x19 x21).f1.f1) = x11 then ((skifflaw0_Num.f x18).bind fun t444 => (some (t444 == 0))) else (skifflaw7_ChooseStays.l0 k x11 x15 x18 x19 (wrap64 (x21 + 1)) x418000 x418001 x418002 x418003 x418004 x434000 x434001 x434002 x434003 x434004)) else (skifflaw7_ChooseStays.l0 k x11 x15 x18 x19 (wrap64 (x21 + 1)) x418000 x418001 x418002 x418003 x418004 x434000 x434001 x434002 x434003 x434004))) else (none)) else ((skifflaw0_Num.f x18).bind fun t438 => (if t438 = 0 then (if (x434000 == x418000 && ((x434001 == x418001 && (x434002 == x418002 && (x434003 == x418003 && (x434004 == x418004)))))) = true then ((skifflaw7_held.f k).bind fun t439 => (some ((t439.size : Int) == 768))) else (none)) else (none)))
end
def skifflaw7_ChooseStays.f (k : Nat) (a0 : ByteArray) (a1 : Int) (a2 : ByteArray) (a3 : Int) : Option (Bool) := (skifflaw7_awake.f k).bind fun t410 => (if t410 = true then ((Hand.choose_Active.f k a0).bind fun bt411 => ((choose_Other.f k a0).bind fun bt418 => ((skifflaw0_Num.f bt411.2.2.2.2.2).bind fun t420 => (if t420 = 0 then ((skifflaw0_Num.f bt418.2).bind fun t421 => (skifflaw7_ChooseStays.j0 k a0 a1 a2 a3 bt411.2.2.2.2.2 bt418.1 (t421 != 0) bt411.1 bt411.2.1 bt411.2.2.1 bt411.2.2.2.1 bt411.2.2.2.2.1)) else (skifflaw7_ChooseStays.j0 k a0 a1 a2 a3 bt411.2.2.2.2.2 bt418.1 true bt411.1 bt411.2.1 bt411.2.2.1 bt411.2.2.2.1 bt411.2.2.2.2.1))))) else (none))
set_option maxHeartbeats 8000000 in
set_option maxRecDepth 100000 in
theorem skifflaw7_ChooseStays.calls (k : Nat) (a0 : ByteArray) (a1 : Int) (a2 : ByteArray) (a3 : Int) (r : Bool) (w : World) (h : skifflaw7_ChooseStays.f k a0 a1 a2 a3 = some r) :
  Calls Try.prog 7 #[.string a0, .int .i64 a1, .string a2, .int .i64 a3] w fun e w' => e = .returned (.bool r) ∧ Below w.heap.size w w' := by
 have hu25 := Try.underlying25
 have hu23 := Try.underlying23
 have HB := Aside0.mk (Below.refl w.heap.size w)
 have H : ((skifflaw7_awake.f k).bind fun t410 => (if t410 = true then ((Hand.choose_Active.f k a0).bind fun bt411 => ((choose_Other.f k a0).bind fun bt418 => ((skifflaw0_Num.f bt411.2.2.2.2.2).bind fun t420 => (if t420 = 0 then ((skifflaw0_Num.f bt418.2).bind fun t421 => (skifflaw7_ChooseStays.j0 k a0 a1 a2 a3 bt411.2.2.2.2.2 bt418.1 (t421 != 0) bt411.1 bt411.2.1 bt411.2.2.1 bt411.2.2.2.1 bt411.2.2.2.2.1)) else (skifflaw7_ChooseStays.j0 k a0 a1 a2 a3 bt411.2.2.2.2.2 bt418.1 true bt411.1 bt411.2.1 bt411.2.2.1 bt411.2.2.2.1 bt411.2.2.2.2.1))))) else (none))) = some r := h
 clear h
 replace H := Option.bind_eq_some_iff.mp H
 obtain ⟨t410, A50, H⟩ := H
 replace H : (if t410 = true then ((Hand.choose_Active.f k a0).bind fun bt411 => ((choose_Other.f k a0).bind fun bt418 => ((skifflaw0_Num.f bt411.2.2.2.2.2).bind fun t420 => (if t420 = 0 then ((skifflaw0_Num.f bt418.2).bind fun t421 => (skifflaw7_ChooseStays.j0 k a0 a1 a2 a3 bt411.2.2.2.2.2 bt418.1 (t421 != 0) bt411.1 bt411.2.1 bt411.2.2.1 bt411.2.2.2.1 bt411.2.2.2.2.1)) else (skifflaw7_ChooseStays.j0 k a0 a1 a2 a3 bt411.2.2.2.2.2 bt418.1 true bt411.1 bt411.2.1 bt411.2.2.1 bt411.2.2.2.1 bt411.2.2.2.2.1))))) else (none)) = some r := H
 have A5 := Aside0.mk A50
 clear A50
 by_cases c6 : t410 = true
 ·subst c6
  have H1 : ((Hand.choose_Active.f k a0).bind fun bt411 => ((choose_Other.f k a0).bind fun bt418 => ((skifflaw0_Num.f bt411.2.2.2.2.2).bind fun t420 => (if t420 = 0 then ((skifflaw0_Num.f bt418.2).bind fun t421 => (skifflaw7_ChooseStays.j0 k a0 a1 a2 a3 bt411.2.2.2.2.2 bt418.1 (t421 != 0) bt411.1 bt411.2.1 bt411.2.2.1 bt411.2.2.2.1 bt411.2.2.2.2.1)) else (skifflaw7_ChooseStays.j0 k a0 a1 a2 a3 bt411.2.2.2.2.2 bt418.1 true bt411.1 bt411.2.1 bt411.2.2.1 bt411.2.2.2.1 bt411.2.2.2.2.1))))) = some r := by rw [if_pos rfl] at H; exact H
  clear H
  have H := H1
  clear H1
  replace H := Option.bind_eq_some_iff.mp H
  obtain ⟨⟨t411, t412, t413, t414, t415, t416⟩, A70, H⟩ := H
  replace H : ((choose_Other.f k a0).bind fun bt418 => ((skifflaw0_Num.f t416).bind fun t420 => (if t420 = 0 then ((skifflaw0_Num.f bt418.2).bind fun t421 => (skifflaw7_ChooseStays.j0 k a0 a1 a2 a3 t416 bt418.1 (t421 != 0) t411 t412 t413 t414 t415)) else (skifflaw7_ChooseStays.j0 k a0 a1 a2 a3 t416 bt418.1 true t411 t412 t413 t414 t415)))) = some r := H
  have A7 := Aside0.mk A70
  clear A70
  replace H := Option.bind_eq_some_iff.mp H
  obtain ⟨⟨t418, t419⟩, A80, H⟩ := H
  replace H : ((skifflaw0_Num.f t416).bind fun t420 => (if t420 = 0 then ((skifflaw0_Num.f t419).bind fun t421 => (skifflaw7_ChooseStays.j0 k a0 a1 a2 a3 t416 t418 (t421 != 0) t411 t412 t413 t414 t415)) else (skifflaw7_ChooseStays.j0 k a0 a1 a2 a3 t416 t418 true t411 t412 t413 t414 t415))) = some r := H
  have A8 := Aside0.mk A80
  clear A80
  have HC9 := Aside0.mk H
  clear H
  go_enter Try.func7, Try.ntmps7
  go_upto_region 5 with (first | ((with_reducible refine gate_callee (f := 14) rfl ?_); refine goesL_ (some 24) rfl rfl Try.func14 (by kernel_rfl) rfl #[] rfl q1_ ?_; (with_reducible refine (skifflaw7_awake.calls k  true _ A5.out).mono ?_); rintro e w10 ⟨rfl, hb⟩; refine ⟨_, rfl, ?_⟩; have n0_ := Aside0.mk (below_step q2_ hb); clear HB; have HB := n0_; clear n0_; (try clear hb); (try clear hb2); (try clear hk); (try clear hi)) | ((with_reducible refine gate_callee (f := 9) rfl ?_); refine goesL_ (some 28) rfl rfl Try.func9 (by kernel_rfl) rfl #[.string a0] rfl q1_ ?_; (with_reducible refine (Hand.choose_Active.calls k a0 t411 t412 t413 t414 t415 t416 _ A7.out).mono ?_); rintro e w11 ⟨rfl, hb⟩; refine ⟨_, rfl, ?_⟩; have n0_ := Aside0.mk (below_step q2_ hb); clear HB; have HB := n0_; clear n0_; (try clear hb); (try clear hb2); (try clear hk); (try clear hi)) | ((with_reducible refine gate_dst (N := 9) rfl ?_); (try (refine gate_guard (by rfl) ?_; dsimp only)); refine box_event ?hg (N := 9) ?hd (cs := #[.int .i64 0, .int .i64 0, .int .i64 0, .int .i64 0, .int .i64 0]) (t := 25) ?hr ?_; (case hd => rfl); (case hg => rfl); (case hr => first | (go_simp; done) | (go_simp; rfl)); intro gb417 hg w12 hbox hb; have n0_ := Aside0.mk (below_step q2_ hb); have n1_ := Aside0.mk (hbox); have n2_ := Aside0.mk ((by rw [hg]; exact (below_size q2_) : w.heap.size ≤ gb417)); have n3_ := Aside0.mk ((by rw [hg]; exact (below_size q2_) : w.heap.size ≤ gb417)); clear HB; have HB := n0_; have BK417 := n1_; have GW417 := n2_; have GE417 := n3_; clear n0_ n1_ n2_ n3_; clear hb hbox hg; have hcz13_0 : w12.cell? ⟨gb417, 0, none⟩ = some (.int .i64 0) := (blk_cell BK417.out 0).trans rfl; have hcz13_1 : w12.cell? ⟨gb417, 1, none⟩ = some (.int .i64 0) := (blk_cell BK417.out 1).trans rfl; have hcz13_2 : w12.cell? ⟨gb417, 2, none⟩ = some (.int .i64 0) := (blk_cell BK417.out 2).trans rfl; have hcz13_3 : w12.cell? ⟨gb417, 3, none⟩ = some (.int .i64 0) := (blk_cell BK417.out 3).trans rfl; have hcz13_4 : w12.cell? ⟨gb417, 4, none⟩ = some (.int .i64 0) := (blk_cell BK417.out 4).trans rfl; have hfz13_0 := blk_frozen BK417.out 0; have hfz13_1 := blk_frozen BK417.out 1; have hfz13_2 := blk_frozen BK417.out 2; have hfz13_3 := blk_frozen BK417.out 3; have hfz13_4 := blk_frozen BK417.out 4) | ((with_reducible refine gate_callee (f := 11) rfl ?_); refine goesL_ (some 33) rfl rfl Try.func11 (by kernel_rfl) rfl #[.string a0] rfl q1_ ?_; (with_reducible refine (choose_Other.calls k a0 t418 t419 _ A8.out).mono ?_); rintro e w14 ⟨rfl, hb⟩; refine ⟨_, rfl, ?_⟩; have n0_ := Aside0.mk (blk_below (g := gb417) (o := .cells #[.int .i64 t411, .int .i64 t412, .int .i64 t413, .int .i64 t414, .int .i64 t415] 25 (0, 0)) (by (with_reducible repeat (first | refine blk_drewN ?_ _ | refine blk_drew ?_ | refine blk_alloc ?_ _)); refine blk_put (cs := #[.int .i64 t411, .int .i64 t412, .int .i64 t413, .int .i64 t414, .int .i64 0]) ?_ 4 _ rfl; (with_reducible repeat (first | refine blk_drewN ?_ _ | refine blk_drew ?_ | refine blk_alloc ?_ _)); refine blk_put (cs := #[.int .i64 t411, .int .i64 t412, .int .i64 t413, .int .i64 0, .int .i64 0]) ?_ 3 _ rfl; (with_reducible repeat (first | refine blk_drewN ?_ _ | refine blk_drew ?_ | refine blk_alloc ?_ _)); refine blk_put (cs := #[.int .i64 t411, .int .i64 t412, .int .i64 0, .int .i64 0, .int .i64 0]) ?_ 2 _ rfl; (with_reducible repeat (first | refine blk_drewN ?_ _ | refine blk_drew ?_ | refine blk_alloc ?_ _)); refine blk_put (cs := #[.int .i64 t411, .int .i64 0, .int .i64 0, .int .i64 0, .int .i64 0]) ?_ 1 _ rfl; (with_reducible repeat (first | refine blk_drewN ?_ _ | refine blk_drew ?_ | refine blk_alloc ?_ _)); refine blk_put (cs := #[.int .i64 0, .int .i64 0, .int .i64 0, .int .i64 0, .int .i64 0]) ?_ 0 _ rfl; (with_reducible repeat (first | refine blk_drewN ?_ _ | refine blk_drew ?_ | refine blk_alloc ?_ _)); exact BK417.out) hb); have n1_ := Aside0.mk (below_step (by repeat (first | (with_reducible first | exact HB.out | apply below_alloc | apply pw_below_drewN | apply below_drew1 | refine below_set ?_ GE417.out) | exact HB.out)) hb); clear BK417; clear HB; have BK417 := n0_; have HB := n1_; clear n0_ n1_; (try clear hb); (try clear hb2); (try clear hk); (try clear hi)))
  (try simp only [Act.put, List.setIfInBounds_toArray, List.set_cons_zero, List.set_cons_succ])
  go_cut [43] (fun v43 wc => ∃ (kq : Nat) (x43_8 : Bool), v43 = .bool x43_8 ∧ Aside0 (skifflaw7_ChooseStays.j0 kq a0 a1 a2 a3 t416 t418 x43_8 t411 t412 t413 t414 t415 = some r) ∧ Aside0 (kq ≤ k) ∧ Aside0 (wc.heap[gb417]? = some (.cells #[.int .i64 t411, .int .i64 t412, .int .i64 t413, .int .i64 t414, .int .i64 t415] 25 (0, 0))) ∧ Aside0 (Below w.heap.size w wc))
  case first =>
   have H := HC9.out
   clear HC9
   replace H := Option.bind_eq_some_iff.mp H
   obtain ⟨t420, A150, H⟩ := H
   replace H : (if t420 = 0 then ((skifflaw0_Num.f t419).bind fun t421 => (skifflaw7_ChooseStays.j0 k a0 a1 a2 a3 t416 t418 (t421 != 0) t411 t412 t413 t414 t415)) else (skifflaw7_ChooseStays.j0 k a0 a1 a2 a3 t416 t418 true t411 t412 t413 t414 t415)) = some r := H
   have A15 := Aside0.mk A150
   clear A150
   by_cases c16 : t420 = 0
   ·rw [if_pos c16] at H
    have c16b0 : (t420 == 0) = true := beq_iff_eq.mpr c16
    have c16b1 : (t420 != 0) = false := bne_eq_false_iff_eq.mpr c16
    clear c16
    (first | rw [c16b0] | (simp only [i64_w, i32_w]; rw [c16b0]) | skip)
    replace H := Option.bind_eq_some_iff.mp H
    obtain ⟨t421, A170, H⟩ := H
    replace H : (skifflaw7_ChooseStays.j0 k a0 a1 a2 a3 t416 t418 (t421 != 0) t411 t412 t413 t414 t415) = some r := H
    have A17 := Aside0.mk A170
    clear A170
    have H' := Aside0.mk H
    clear H
    go_wp2_with (first | ((with_reducible refine gate_callee (f := 13) rfl ?_); refine goesL_ (some 37) rfl rfl Try.func13 (by kernel_rfl) rfl #[.int .i64 t416] rfl q1_ ?_; (with_reducible refine (skifflaw0_Num.calls t416 t420 _ A15.out).mono ?_); rintro e w' ⟨rfl, ⟨nd, rfl⟩⟩; refine ⟨_, rfl, ?_⟩) | (go_at_call 13; (with_reducible refine (skifflaw0_Num.calls t419 t421 _ A17.out).mono ?_); rintro e w' ⟨rfl, ⟨nd, rfl⟩⟩))
    go_meet
    case rel => exact ⟨_, ((t421 != 0)), q15_, H', ⟨by first | omega | exact Nat.le_refl _⟩, ⟨by (with_reducible repeat (first | refine blk_drewN ?_ _ | refine blk_drew ?_ | refine blk_alloc ?_ _)); exact BK417.out⟩, ⟨by repeat (first | (with_reducible first | exact HB.out | apply below_alloc | apply pw_below_drewN | apply below_drew1 | refine below_set ?_ GE417.out) | exact HB.out)⟩⟩
   ·rw [if_neg c16] at H
    have c16b0 : (t420 == 0) = false := beq_eq_false_iff_ne.mpr c16
    have c16b1 : (t420 != 0) = true := bne_iff_ne.mpr c16
    (first | rw [c16b0] | (simp only [i64_w, i32_w]; rw [c16b0]) | skip)
    have H' := Aside0.mk H
    clear H
    go_wp2_with (first | ((with_reducible refine gate_callee (f := 13) rfl ?_); refine goesL_ (some 37) rfl rfl Try.func13 (by kernel_rfl) rfl #[.int .i64 t416] rfl q1_ ?_; (with_reducible refine (skifflaw0_Num.calls t416 t420 _ A15.out).mono ?_); rintro e w' ⟨rfl, ⟨nd, rfl⟩⟩; refine ⟨_, rfl, ?_⟩))
    go_meet
    case rel => exact ⟨_, (true), q15_, H', ⟨by first | omega | exact Nat.le_refl _⟩, ⟨by (with_reducible repeat (first | refine blk_drewN ?_ _ | refine blk_drew ?_ | refine blk_alloc ?_ _)); exact BK417.out⟩, ⟨by repeat (first | (with_reducible first | exact HB.out | apply below_alloc | apply pw_below_drewN | apply below_drew1 | refine below_set ?_ GE417.out) | exact HB.out)⟩⟩
  case rest =>
   clear HC9
   try clear c1
   try clear p2
   try clear c6
   try clear c7
   try clear c9
   try clear c11
   try clear c13
   try clear c14
   try clear c16
   try clear c16b0
   try clear c16b1
   try clear hcz13_0
   try clear hcz13_1
   try clear hcz13_2
   try clear hcz13_3
   try clear hcz13_4
   try clear hfz13_0
   try clear hfz13_1
   try clear hfz13_2
   try clear hfz13_3
   try clear hfz13_4
   obtain ⟨kq, x43_8, rfl, HA, HJ8, BK417, HB⟩ := hcut
   cases kq with
   | zero => exact absurd HA.out (by simp [skifflaw7_ChooseStays.j0])
   | succ kj8 =>
    have H := HA.out
    clear HA
    simp only [skifflaw7_ChooseStays.j0] at H
    by_cases c18 : x43_8 = true
    ·subst c18
     have H1 : ((skifflaw0_Num.f t416).bind fun t422 => (some (t422 != 0))) = some r := by rw [if_pos rfl] at H; exact H
     clear H
     have H := H1
     clear H1
     replace H := Option.bind_eq_some_iff.mp H
     obtain ⟨t422, A190, H⟩ := H
     replace H : (some (t422 != 0)) = some r := H
     have A19 := Aside0.mk A190
     clear A190
     obtain rfl := Option.some.inj H
     go_wp2_with (first | ((with_reducible refine gate_callee (f := 13) rfl ?_); refine goesL_ (some 45) rfl rfl Try.func13 (by kernel_rfl) rfl #[.int .i64 t416] rfl q1_ ?_; (with_reducible refine (skifflaw0_Num.calls t416 t422 _ A19.out).mono ?_); rintro e w' ⟨rfl, ⟨nd, rfl⟩⟩; refine ⟨_, rfl, ?_⟩))
     go_ret
     exact ⟨by first | rfl | (simp [errW_none, errW_some] <;> rfl) | (simp [*, errW_none, errW_some] <;> rfl), by repeat (first | (with_reducible first | exact HB.out | apply below_alloc | apply pw_below_drewN | apply below_drew1 | refine below_set ?_ GE417.out) | exact HB.out)⟩
    ·replace c18 := Bool.eq_false_iff.mpr c18
     subst c18
     have H1 : ((skiffref1_Base.f t418).bind fun bt423 => ((Hand.skiffref1_Torn.f a0 (wrap64 (bt423.1 + (wrap64 (4 * (wrap64 (Int.tmod (IntKind.u64.wrap (a1)) 72)))))) a2 (wrap64 (Int.tmod (IntKind.u64.wrap (a3)) 33))).bind fun bt425 => (if bt423.2 = 0 then (skifflaw7_ChooseStays.j1 kj8 t418 bt423.2 bt425.1 (bt425.2 != 0) t411 t412 t413 t414 t415) else (skifflaw7_ChooseStays.j1 kj8 t418 bt423.2 bt425.1 true t411 t412 t413 t414 t415)))) = some r := by rw [if_neg (show ¬ (false = true) by decide)] at H; exact H
     clear H
     have H := H1
     clear H1
     replace H := Option.bind_eq_some_iff.mp H
     obtain ⟨⟨t423, t424⟩, A200, H⟩ := H
     replace H : ((Hand.skiffref1_Torn.f a0 (wrap64 (t423 + (wrap64 (4 * (wrap64 (Int.tmod (IntKind.u64.wrap (a1)) 72)))))) a2 (wrap64 (Int.tmod (IntKind.u64.wrap (a3)) 33))).bind fun bt425 => (if t424 = 0 then (skifflaw7_ChooseStays.j1 kj8 t418 t424 bt425.1 (bt425.2 != 0) t411 t412 t413 t414 t415) else (skifflaw7_ChooseStays.j1 kj8 t418 t424 bt425.1 true t411 t412 t413 t414 t415))) = some r := H
     have A20 := Aside0.mk A200
     clear A200
     replace H := Option.bind_eq_some_iff.mp H
     obtain ⟨⟨t425, t426⟩, A210, H⟩ := H
     replace H : (if t424 = 0 then (skifflaw7_ChooseStays.j1 kj8 t418 t424 t425 (t426 != 0) t411 t412 t413 t414 t415) else (skifflaw7_ChooseStays.j1 kj8 t418 t424 t425 true t411 t412 t413 t414 t415)) = some r := H
     have A21 := Aside0.mk A210
     clear A210
     have HC22 := Aside0.mk H
     clear H
     go_upto_region 9 with (first | ((with_reducible refine gate_callee (f := 20) rfl ?_); refine goesL_ (some 49) rfl rfl Try.func20 (by kernel_rfl) rfl #[.int .i64 t418] rfl q1_ ?_; (with_reducible refine (skiffref1_Base.calls t418 t423 t424 _ A20.out).mono ?_); rintro e w' ⟨rfl, ⟨nd, rfl⟩⟩; refine ⟨_, rfl, ?_⟩) | ((with_reducible refine gate_callee (f := 21) rfl ?_); refine goesL_ (some 66) rfl rfl Try.func21 (by kernel_rfl) rfl #[.string a0, .int .i64 (wrap64 (t423 + (wrap64 (4 * (wrap64 (Int.tmod (IntKind.u64.wrap (a1)) 72)))))), .string a2, .int .i64 (wrap64 (Int.tmod (IntKind.u64.wrap (a3)) 33))] rfl q1_ ?_; (with_reducible refine (Hand.skiffref1_Torn.calls a0 (wrap64 (t423 + (wrap64 (4 * (wrap64 (Int.tmod (IntKind.u64.wrap (a1)) 72)))))) a2 (wrap64 (Int.tmod (IntKind.u64.wrap (a3)) 33)) t425 t426 _ A21.out).mono ?_); rintro e w23 ⟨rfl, hb⟩; refine ⟨_, rfl, ?_⟩; have n0_ := Aside0.mk (blk_below (g := gb417) (o := .cells #[.int .i64 t411, .int .i64 t412, .int .i64 t413, .int .i64 t414, .int .i64 t415] 25 (0, 0)) (by (with_reducible repeat (first | refine blk_drewN ?_ _ | refine blk_drew ?_ | refine blk_alloc ?_ _)); exact BK417.out) hb); have n1_ := Aside0.mk (below_step (by repeat (first | (with_reducible first | exact HB.out | apply below_alloc | apply pw_below_drewN | apply below_drew1 | refine below_set ?_ GE417.out) | exact HB.out)) hb); clear BK417; clear HB; have BK417 := n0_; have HB := n1_; clear n0_ n1_; (try clear hb); (try clear hb2); (try clear hk); (try clear hi)))
     (try simp only [Act.put, List.setIfInBounds_toArray, List.set_cons_zero, List.set_cons_succ])
     go_cut [74] (fun v74 wc => ∃ (kq : Nat) (x74_21 : Bool), v74 = .bool x74_21 ∧ Aside0 (skifflaw7_ChooseStays.j1 kq t418 t424 t425 x74_21 t411 t412 t413 t414 t415 = some r) ∧ Aside0 (kq ≤ kj8) ∧ Aside0 (wc.heap[gb417]? = some (.cells #[.int .i64 t411, .int .i64 t412, .int .i64 t413, .int .i64 t414, .int .i64 t415] 25 (0, 0))) ∧ Aside0 (Below w.heap.size w wc))
     case first =>
      have H := HC22.out
      clear HC22
      by_cases c24 : t424 = 0
      ·rw [if_pos c24] at H
       have c24b0 : (t424 == 0) = true := beq_iff_eq.mpr c24
       have c24b1 : (t424 != 0) = false := bne_eq_false_iff_eq.mpr c24
       clear c24
       (first | rw [c24b0] | (simp only [i64_w, i32_w]; rw [c24b0]) | skip)
       have H' := Aside0.mk H
       clear H
       go_wp2
       go_meet
       case rel => exact ⟨_, ((t426 != 0)), q15_, H', ⟨by have := HJ8.out; first | omega | exact Nat.le_refl _⟩, ⟨by (with_reducible repeat (first | refine blk_drewN ?_ _ | refine blk_drew ?_ | refine blk_alloc ?_ _)); exact BK417.out⟩, ⟨by repeat (first | (with_reducible first | exact HB.out | apply below_alloc | apply pw_below_drewN | apply below_drew1 | refine below_set ?_ GE417.out) | exact HB.out)⟩⟩
      ·rw [if_neg c24] at H
       have c24b0 : (t424 == 0) = false := beq_eq_false_iff_ne.mpr c24
       have c24b1 : (t424 != 0) = true := bne_iff_ne.mpr c24
       (first | rw [c24b0] | (simp only [i64_w, i32_w]; rw [c24b0]) | skip)
       have H' := Aside0.mk H
       clear H
       go_wp2
       go_meet
       case rel => exact ⟨_, (true), q15_, H', ⟨by have := HJ8.out; first | omega | exact Nat.le_refl _⟩, ⟨by (with_reducible repeat (first | refine blk_drewN ?_ _ | refine blk_drew ?_ | refine blk_alloc ?_ _)); exact BK417.out⟩, ⟨by repeat (first | (with_reducible first | exact HB.out | apply below_alloc | apply pw_below_drewN | apply below_drew1 | refine below_set ?_ GE417.out) | exact HB.out)⟩⟩
     case rest =>
      clear HC22
      try clear c1
      try clear c2
      try clear p2
      try clear c6
      try clear p6
      try clear c7
      try clear c9
      try clear c11
      try clear c13
      try clear c14
      try clear c16
      try clear c16b0
      try clear c16b1
      try clear c18
      try clear c20
      try clear c21
      try clear c24
      try clear c24b0
      try clear c24b1
      try clear hcz13_0
      try clear hcz13_1
      try clear hcz13_2
      try clear hcz13_3
      try clear hcz13_4
      try clear hfz13_0
      try clear hfz13_1
      try clear hfz13_2
      try clear hfz13_3
      try clear hfz13_4
      try clear p2
      obtain ⟨kq, x74_21, rfl, HA, HJ21, BK417, HB⟩ := hcut
      cases kq with
      | zero => exact absurd HA.out (by simp [skifflaw7_ChooseStays.j1])
      | succ kj21 =>
       have H := HA.out
       clear HA
       simp only [skifflaw7_ChooseStays.j1] at H
       by_cases c25 : x74_21 = true
       ·subst c25
        have H1 : (some (t424 == 0)) = some r := by rw [if_pos rfl] at H; exact H
        clear H
        have H := H1
        clear H1
        obtain rfl := Option.some.inj H
        go_wp2
        go_ret
        exact ⟨by first | rfl | (simp [errW_none, errW_some] <;> rfl) | (simp [*, errW_none, errW_some] <;> rfl), by repeat (first | (with_reducible first | exact HB.out | apply below_alloc | apply pw_below_drewN | apply below_drew1 | refine below_set ?_ GE417.out) | exact HB.out)⟩
       ·replace c25 := Bool.eq_false_iff.mpr c25
        subst c25
        have H1 : ((Hand.choose_Active.f kj21 t425).bind fun bt427 => ((skiffref1_Scan.f kj21 t425).bind fun bt434 => (skifflaw7_ChooseStays.l0 kj21 t418 t425 bt427.2.2.2.2.2 bt434.1 0 t411 t412 t413 t414 t415 bt427.1 bt427.2.1 bt427.2.2.1 bt427.2.2.2.1 bt427.2.2.2.2.1))) = some r := by rw [if_neg (show ¬ (false = true) by decide)] at H; exact H
        clear H
        have H := H1
        clear H1
        replace H := Option.bind_eq_some_iff.mp H
        obtain ⟨⟨t427, t428, t429, t430, t431, t432⟩, A260, H⟩ := H
        replace H : ((skiffref1_Scan.f kj21 t425).bind fun bt434 => (skifflaw7_ChooseStays.l0 kj21 t418 t425 t432 bt434.1 0 t411 t412 t413 t414 t415 t427 t428 t429 t430 t431)) = some r := H
        have A26 := Aside0.mk A260
        clear A260
        replace H := Option.bind_eq_some_iff.mp H
        obtain ⟨⟨t434, t435⟩, A270, H⟩ := H
        replace H : (skifflaw7_ChooseStays.l0 kj21 t418 t425 t432 t434 0 t411 t412 t413 t414 t415 t427 t428 t429 t430 t431) = some r := H
        have A27 := Aside0.mk A270
        clear A270
        have H' := Aside0.mk H
        clear H
        go_wp2_with (first | ((with_reducible refine gate_callee (f := 9) rfl ?_); refine goesL_ (some 79) rfl rfl Try.func9 (by kernel_rfl) rfl #[.string t425] rfl q1_ ?_; (with_reducible refine (Hand.choose_Active.calls kj21 t425 t427 t428 t429 t430 t431 t432 _ A26.out).mono ?_); rintro e w28 ⟨rfl, hb⟩; refine ⟨_, rfl, ?_⟩; have n0_ := Aside0.mk (blk_below (g := gb417) (o := .cells #[.int .i64 t411, .int .i64 t412, .int .i64 t413, .int .i64 t414, .int .i64 t415] 25 (0, 0)) (by (with_reducible repeat (first | refine blk_drewN ?_ _ | refine blk_drew ?_ | refine blk_alloc ?_ _)); exact BK417.out) hb); have n1_ := Aside0.mk (below_step (by repeat (first | (with_reducible first | exact HB.out | apply below_alloc | apply pw_below_drewN | apply below_drew1 | refine below_set ?_ GE417.out) | exact HB.out)) hb); clear BK417; clear HB; have BK417 := n0_; have HB := n1_; clear n0_ n1_; (try clear hb); (try clear hb2); (try clear hk); (try clear hi)) | ((with_reducible refine gate_dst (N := 17) rfl ?_); (try (refine gate_guard (by rfl) ?_; dsimp only)); refine box_event ?hg (N := 17) ?hd (cs := #[.int .i64 0, .int .i64 0, .int .i64 0, .int .i64 0, .int .i64 0]) (t := 25) ?hr ?_; (case hd => rfl); (case hg => rfl); (case hr => first | (go_simp; done) | (go_simp; rfl)); intro gb433 hg w29 hbox hb; have n0_ := Aside0.mk (blk_below (g := gb417) (o := .cells #[.int .i64 t411, .int .i64 t412, .int .i64 t413, .int .i64 t414, .int .i64 t415] 25 (0, 0)) (by (with_reducible repeat (first | refine blk_drewN ?_ _ | refine blk_drew ?_ | refine blk_alloc ?_ _)); exact BK417.out) hb); have n1_ := Aside0.mk (below_step (by repeat (first | (with_reducible first | exact HB.out | apply below_alloc | apply pw_below_drewN | apply below_drew1 | refine below_set ?_ GE417.out) | exact HB.out)) hb); have n2_ := Aside0.mk (hbox); have n3_ := Aside0.mk ((by rw [hg]; exact (below_size (by repeat (first | (with_reducible first | exact HB.out | apply below_alloc | apply pw_below_drewN | apply below_drew1 | refine below_set ?_ GE417.out) | exact HB.out))) : w.heap.size ≤ gb433)); have n4_ := Aside0.mk ((by rw [hg]; exact (below_size (by repeat (first | (with_reducible first | exact HB.out | apply below_alloc | apply pw_below_drewN | apply below_drew1 | refine below_set ?_ GE417.out) | exact HB.out))) : w.heap.size ≤ gb433)); have n5_ := Aside0.mk ((by rw [hg]; exact Nat.ne_of_lt (blk_lt (g := gb417) (o := .cells #[.int .i64 t411, .int .i64 t412, .int .i64 t413, .int .i64 t414, .int .i64 t415] 25 (0, 0)) (by (with_reducible repeat (first | refine blk_drewN ?_ _ | refine blk_drew ?_ | refine blk_alloc ?_ _)); exact BK417.out)) : gb417 ≠ gb433)); have n6_ := Aside0.mk ((by rw [hg]; exact Nat.ne_of_gt (blk_lt (g := gb417) (o := .cells #[.int .i64 t411, .int .i64 t412, .int .i64 t413, .int .i64 t414, .int .i64 t415] 25 (0, 0)) (by (with_reducible repeat (first | refine blk_drewN ?_ _ | refine blk_drew ?_ | refine blk_alloc ?_ _)); exact BK417.out)) : gb433 ≠ gb417)); clear BK417; clear HB; have BK417 := n0_; have HB := n1_; have BK433 := n2_; have GW433 := n3_; have GE433 := n4_; have NB417_433 := n5_; have NB433_417 := n6_; clear n0_ n1_ n2_ n3_ n4_ n5_ n6_; clear hb hbox hg; have hnb30 := NB433_417.out; have hnc30 := NB417_433.out; have hcz31_0 : w29.cell? ⟨gb433, 0, none⟩ = some (.int .i64 0) := (blk_cell BK433.out 0).trans rfl; have hcz31_1 : w29.cell? ⟨gb433, 1, none⟩ = some (.int .i64 0) := (blk_cell BK433.out 1).trans rfl; have hcz31_2 : w29.cell? ⟨gb433, 2, none⟩ = some (.int .i64 0) := (blk_cell BK433.out 2).trans rfl; have hcz31_3 : w29.cell? ⟨gb433, 3, none⟩ = some (.int .i64 0) := (blk_cell BK433.out 3).trans rfl; have hcz31_4 : w29.cell? ⟨gb433, 4, none⟩ = some (.int .i64 0) := (blk_cell BK433.out 4).trans rfl; have hfz31_0 := blk_frozen BK433.out 0; have hfz31_1 := blk_frozen BK433.out 1; have hfz31_2 := blk_frozen BK433.out 2; have hfz31_3 := blk_frozen BK433.out 3; have hfz31_4 := blk_frozen BK433.out 4) | ((with_reducible refine gate_callee (f := 15) rfl ?_); refine goesL_ (some 84) rfl rfl Try.func15 (by kernel_rfl) rfl #[.string t425] rfl q1_ ?_; (with_reducible refine (skiffref1_Scan.calls kj21 t425 t434 t435 _ A27.out).mono ?_); rintro e w32 ⟨v436, rfl, ho0, hb⟩; refine ⟨_, rfl, ?_⟩; have n0_ := Aside0.mk (Kd.R_lower (Kd.R_newB (Kd.R_newB ho0 (g := gb417) (o := .cells #[.int .i64 t411, .int .i64 t412, .int .i64 t413, .int .i64 t414, .int .i64 t415] 25 (0, 0)) (by (with_reducible repeat (first | refine blk_drewN ?_ _ | refine blk_drew ?_ | refine blk_alloc ?_ _)); refine blk_far ?_ NB417_433.out _; (with_reducible repeat (first | refine blk_drewN ?_ _ | refine blk_drew ?_ | refine blk_alloc ?_ _)); refine blk_far ?_ NB417_433.out _; (with_reducible repeat (first | refine blk_drewN ?_ _ | refine blk_drew ?_ | refine blk_alloc ?_ _)); refine blk_far ?_ NB417_433.out _; (with_reducible repeat (first | refine blk_drewN ?_ _ | refine blk_drew ?_ | refine blk_alloc ?_ _)); refine blk_far ?_ NB417_433.out _; (with_reducible repeat (first | refine blk_drewN ?_ _ | refine blk_drew ?_ | refine blk_alloc ?_ _)); refine blk_far ?_ NB417_433.out _; (with_reducible repeat (first | refine blk_drewN ?_ _ | refine blk_drew ?_ | refine blk_alloc ?_ _)); exact BK417.out)) (g := gb433) (o := .cells #[.int .i64 t427, .int .i64 t428, .int .i64 t429, .int .i64 t430, .int .i64 t431] 25 (0, 0)) (by (with_reducible repeat (first | refine blk_drewN ?_ _ | refine blk_drew ?_ | refine blk_alloc ?_ _)); refine blk_put (cs := #[.int .i64 t427, .int .i64 t428, .int .i64 t429, .int .i64 t430, .int .i64 0]) ?_ 4 _ rfl; (with_reducible repeat (first | refine blk_drewN ?_ _ | refine blk_drew ?_ | refine blk_alloc ?_ _)); refine blk_put (cs := #[.int .i64 t427, .int .i64 t428, .int .i64 t429, .int .i64 0, .int .i64 0]) ?_ 3 _ rfl; (with_reducible repeat (first | refine blk_drewN ?_ _ | refine blk_drew ?_ | refine blk_alloc ?_ _)); refine blk_put (cs := #[.int .i64 t427, .int .i64 t428, .int .i64 0, .int .i64 0, .int .i64 0]) ?_ 2 _ rfl; (with_reducible repeat (first | refine blk_drewN ?_ _ | refine blk_drew ?_ | refine blk_alloc ?_ _)); refine blk_put (cs := #[.int .i64 t427, .int .i64 0, .int .i64 0, .int .i64 0, .int .i64 0]) ?_ 1 _ rfl; (with_reducible repeat (first | refine blk_drewN ?_ _ | refine blk_drew ?_ | refine blk_alloc ?_ _)); refine blk_put (cs := #[.int .i64 0, .int .i64 0, .int .i64 0, .int .i64 0, .int .i64 0]) ?_ 0 _ rfl; (with_reducible repeat (first | refine blk_drewN ?_ _ | refine blk_drew ?_ | refine blk_alloc ?_ _)); exact BK433.out)) (below_size (by repeat (first | (with_reducible first | exact HB.out | apply below_alloc | apply pw_below_drewN | apply below_drew1 | refine below_set ?_ GE417.out | refine below_set ?_ GE433.out) | exact HB.out)))); have n1_ := Aside0.mk (blk_below (g := gb417) (o := .cells #[.int .i64 t411, .int .i64 t412, .int .i64 t413, .int .i64 t414, .int .i64 t415] 25 (0, 0)) (by (with_reducible repeat (first | refine blk_drewN ?_ _ | refine blk_drew ?_ | refine blk_alloc ?_ _)); refine blk_far ?_ NB417_433.out _; (with_reducible repeat (first | refine blk_drewN ?_ _ | refine blk_drew ?_ | refine blk_alloc ?_ _)); refine blk_far ?_ NB417_433.out _; (with_reducible repeat (first | refine blk_drewN ?_ _ | refine blk_drew ?_ | refine blk_alloc ?_ _)); refine blk_far ?_ NB417_433.out _; (with_reducible repeat (first | refine blk_drewN ?_ _ | refine blk_drew ?_ | refine blk_alloc ?_ _)); refine blk_far ?_ NB417_433.out _; (with_reducible repeat (first | refine blk_drewN ?_ _ | refine blk_drew ?_ | refine blk_alloc ?_ _)); refine blk_far ?_ NB417_433.out _; (with_reducible repeat (first | refine blk_drewN ?_ _ | refine blk_drew ?_ | refine blk_alloc ?_ _)); exact BK417.out) hb); have n2_ := Aside0.mk (blk_below (g := gb433) (o := .cells #[.int .i64 t427, .int .i64 t428, .int .i64 t429, .int .i64 t430, .int .i64 t431] 25 (0, 0)) (by (with_reducible repeat (first | refine blk_drewN ?_ _ | refine blk_drew ?_ | refine blk_alloc ?_ _)); refine blk_put (cs := #[.int .i64 t427, .int .i64 t428, .int .i64 t429, .int .i64 t430, .int .i64 0]) ?_ 4 _ rfl; (with_reducible repeat (first | refine blk_drewN ?_ _ | refine blk_drew ?_ | refine blk_alloc ?_ _)); refine blk_put (cs := #[.int .i64 t427, .int .i64 t428, .int .i64 t429, .int .i64 0, .int .i64 0]) ?_ 3 _ rfl; (with_reducible repeat (first | refine blk_drewN ?_ _ | refine blk_drew ?_ | refine blk_alloc ?_ _)); refine blk_put (cs := #[.int .i64 t427, .int .i64 t428, .int .i64 0, .int .i64 0, .int .i64 0]) ?_ 2 _ rfl; (with_reducible repeat (first | refine blk_drewN ?_ _ | refine blk_drew ?_ | refine blk_alloc ?_ _)); refine blk_put (cs := #[.int .i64 t427, .int .i64 0, .int .i64 0, .int .i64 0, .int .i64 0]) ?_ 1 _ rfl; (with_reducible repeat (first | refine blk_drewN ?_ _ | refine blk_drew ?_ | refine blk_alloc ?_ _)); refine blk_put (cs := #[.int .i64 0, .int .i64 0, .int .i64 0, .int .i64 0, .int .i64 0]) ?_ 0 _ rfl; (with_reducible repeat (first | refine blk_drewN ?_ _ | refine blk_drew ?_ | refine blk_alloc ?_ _)); exact BK433.out) hb); have n3_ := Aside0.mk (below_step (by repeat (first | (with_reducible first | exact HB.out | apply below_alloc | apply pw_below_drewN | apply below_drew1 | refine below_set ?_ GE417.out | refine below_set ?_ GE433.out) | exact HB.out)) hb); clear BK417; clear BK433; clear HB; have HO437 := n0_; have BK417 := n1_; have BK433 := n2_; have HB := n3_; clear n0_ n1_ n2_ n3_; (try clear hb); (try clear hb2); (try clear hk); (try clear hi); (try clear ho0)))
        go_loopg [21] kj21 (fun kq v21 w' => ∃ (x21_3 : Int), v21 = .int .i64 x21_3 ∧ Aside0 (skifflaw7_ChooseStays.l0 kq t418 t425 t432 t434 x21_3 t411 t412 t413 t414 t415 t427 t428 t429 t430 t431 = some r) ∧ Aside0 (kq ≤ kj21) ∧ Aside0 (Kd.R k25 25 w' w.heap.size (fun k_ => k_ ≠ gb417 ∧ k_ ≠ gb433) v436 t434) ∧ Aside0 (w'.heap[gb417]? = some (.cells #[.int .i64 t411, .int .i64 t412, .int .i64 t413, .int .i64 t414, .int .i64 t415] 25 (0, 0))) ∧ Aside0 (w'.heap[gb433]? = some (.cells #[.int .i64 t427, .int .i64 t428, .int .i64 t429, .int .i64 t430, .int .i64 t431] 25 (0, 0))) ∧ Aside0 (Below w.heap.size w w'))
        case atStart => exact ⟨(0), q15_, H', ⟨Nat.le_refl _⟩, ⟨by (with_reducible repeat (first | apply Kd.R_alloc | apply Kd.R_drewN | apply Kd.R_drew)); exact Kd.R_mono HO437.out (fun _ hk => ⟨hk.1.2, hk.2⟩)⟩, ⟨by (with_reducible repeat (first | refine blk_drewN ?_ _ | refine blk_drew ?_ | refine blk_alloc ?_ _)); exact BK417.out⟩, ⟨by (with_reducible repeat (first | refine blk_drewN ?_ _ | refine blk_drew ?_ | refine blk_alloc ?_ _)); exact BK433.out⟩, ⟨by repeat (first | (with_reducible first | exact HB.out | apply below_alloc | apply pw_below_drewN | apply below_drew1 | refine below_set ?_ GE417.out | refine below_set ?_ GE433.out) | exact HB.out)⟩⟩
        case round =>
         clear H'
         try clear c1
         try clear c2
         try clear p2
         try clear c3
         try clear c6
         try clear p6
         try clear c7
         try clear c9
         try clear c11
         try clear c13
         try clear c14
         try clear c15
         try clear c16
         try clear c16b0
         try clear c16b1
         try clear c18
         try clear c20
         try clear c21
         try clear c24
         try clear c24b0
         try clear c24b1
         try clear c25
         try clear c30
         try clear hcz13_0
         try clear hcz13_1
         try clear hcz13_2
         try clear hcz13_3
         try clear hcz13_4
         try clear hcz31_0
         try clear hcz31_1
         try clear hcz31_2
         try clear hcz31_3
         try clear hcz31_4
         try clear hfz13_0
         try clear hfz13_1
         try clear hfz13_2
         try clear hfz13_3
         try clear hfz13_4
         try clear hfz31_0
         try clear hfz31_1
         try clear hfz31_2
         try clear hfz31_3
         try clear hfz31_4
         try clear p2
         try clear p6
         obtain ⟨x21_3, rfl, HA, HK3, HO_19, BK417, BK433, HB⟩ := hrel
         cases gk with
         | zero => exact absurd HA.out (by simp [skifflaw7_ChooseStays.l0])
         | succ k3 =>
          have H := HA.out
          clear HA
          simp only [skifflaw7_ChooseStays.l0] at H
          by_cases c33 : x21_3 < (t434.length : Int)
          ·rw [if_pos c33] at H
           have c33b0 : decide (x21_3 < (t434.length : Int)) = true := decide_eq_true c33
           clear c33
           by_cases c34 : 0 ≤ x21_3
           ·rw [if_pos c34] at H
            have c34b0 : decide (0 ≤ x21_3) = true := decide_eq_true c34
            clear c34
            replace H := Option.bind_eq_some_iff.mp H
            obtain ⟨⟨t441, t442⟩, A350, H⟩ := H
            replace H : (if t441 = true then (if ((rd_T25 t434 x21_3).f1.f1) = t418 then ((skifflaw0_Num.f t432).bind fun t444 => (some (t444 == 0))) else (skifflaw7_ChooseStays.l0 k3 t418 t425 t432 t434 (wrap64 (x21_3 + 1)) t411 t412 t413 t414 t415 t427 t428 t429 t430 t431)) else (skifflaw7_ChooseStays.l0 k3 t418 t425 t432 t434 (wrap64 (x21_3 + 1)) t411 t412 t413 t414 t415 t427 t428 t429 t430 t431)) = some r := H
            have A35 := Aside0.mk A350
            clear A350
            by_cases c36 : t441 = true
            ·subst c36
             have H1 : (if ((rd_T25 t434 x21_3).f1.f1) = t418 then ((skifflaw0_Num.f t432).bind fun t444 => (some (t444 == 0))) else (skifflaw7_ChooseStays.l0 k3 t418 t425 t432 t434 (wrap64 (x21_3 + 1)) t411 t412 t413 t414 t415 t427 t428 t429 t430 t431)) = some r := by rw [if_pos rfl] at H; exact H
             clear H
             have H := H1
             clear H1
             by_cases c37 : ((rd_T25 t434 x21_3).f1.f1) = t418
             ·rw [if_pos c37] at H
              have c37b0 : (((rd_T25 t434 x21_3).f1.f1) == t418) = true := beq_iff_eq.mpr c37
              have c37b1 : (((rd_T25 t434 x21_3).f1.f1) != t418) = false := bne_eq_false_iff_eq.mpr c37
              clear c37
              replace H := Option.bind_eq_some_iff.mp H
              obtain ⟨t444, A380, H⟩ := H
              replace H : (some (t444 == 0)) = some r := H
              have A38 := Aside0.mk A380
              clear A380
              obtain rfl := Option.some.inj H
              obtain ⟨Ao39, co39, eo39⟩ := Kd.R_slice HO_19.out
              subst eo39
              have p440 : 0 ≤ (x21_3 : Int) := of_decide_eq_true q14_
              have q440 : x21_3 < (t434.length : Int) := of_decide_eq_true q14_
              obtain ⟨ad440, e440, hx440_0, hx440_1, hx440_2, hx440_3, hx440_4⟩ := at_T25 (Kd.R_reads' HO_19.out).2.2 x21_3 p440 q440
              cases e440
              replace p440 := eq_true p440
              replace q440 := eq_true q440
              go_wp2_with (first | ((with_reducible refine gate_callee (f := 16) rfl ?_); refine goesL_ (some 100) rfl rfl Try.func16 (by kernel_rfl) rfl #[.string t425, .agg #[.int .i64 ((rd_T25 t434 x21_3).f1.f0), .int .i64 ((rd_T25 t434 x21_3).f1.f1), .int .i64 ((rd_T25 t434 x21_3).f1.f2), .int .i64 ((rd_T25 t434 x21_3).f1.f3)]] rfl q1_ ?_; (with_reducible refine (skiffref1_Good.calls k3 t425 ((rd_T25 t434 x21_3).f1.f0) ((rd_T25 t434 x21_3).f1.f1) ((rd_T25 t434 x21_3).f1.f2) ((rd_T25 t434 x21_3).f1.f3) true t442 _ A35.out).mono ?_); rintro e w40 ⟨rfl, hb⟩; refine ⟨_, rfl, ?_⟩; have n0_ := Aside0.mk (Kd.R_below (by (with_reducible repeat (first | apply Kd.R_alloc | apply Kd.R_drewN | apply Kd.R_drew)); exact HO_19.out) hb); have n1_ := Aside0.mk (blk_below (g := gb417) (o := .cells #[.int .i64 t411, .int .i64 t412, .int .i64 t413, .int .i64 t414, .int .i64 t415] 25 (0, 0)) (by (with_reducible repeat (first | refine blk_drewN ?_ _ | refine blk_drew ?_ | refine blk_alloc ?_ _)); exact BK417.out) hb); have n2_ := Aside0.mk (blk_below (g := gb433) (o := .cells #[.int .i64 t427, .int .i64 t428, .int .i64 t429, .int .i64 t430, .int .i64 t431] 25 (0, 0)) (by (with_reducible repeat (first | refine blk_drewN ?_ _ | refine blk_drew ?_ | refine blk_alloc ?_ _)); exact BK433.out) hb); have n3_ := Aside0.mk (below_step (by repeat (first | (with_reducible first | exact HB.out | apply below_alloc | apply pw_below_drewN | apply below_drew1 | refine below_set ?_ GE417.out | refine below_set ?_ GE433.out) | exact HB.out)) hb); clear HO_19; clear BK417; clear BK433; clear HB; have HO_19 := n0_; have BK417 := n1_; have BK433 := n2_; have HB := n3_; clear n0_ n1_ n2_ n3_; (try clear hb); (try clear hb2); (try clear hk); (try clear hi); have p443 : 0 ≤ (x21_3 : Int) := of_decide_eq_true q14_; have q443 : x21_3 < (t434.length : Int) := of_decide_eq_true q14_; obtain ⟨ad443, e443, hx443_0, hx443_1, hx443_2, hx443_3, hx443_4⟩ := at_T25 (Kd.R_reads' HO_19.out).2.2 x21_3 p443 q443; obtain rfl : ad440 = ad443 := (by injection e443); replace p443 := eq_true p443; replace q443 := eq_true q443) | ((with_reducible refine gate_callee (f := 13) rfl ?_); refine goesL_ (some 115) rfl rfl Try.func13 (by kernel_rfl) rfl #[.int .i64 t432] rfl q1_ ?_; (with_reducible refine (skifflaw0_Num.calls t432 t444 _ A38.out).mono ?_); rintro e w' ⟨rfl, ⟨nd, rfl⟩⟩; refine ⟨_, rfl, ?_⟩))
              go_ret
              exact ⟨by first | rfl | (simp [errW_none, errW_some] <;> rfl) | (simp [*, errW_none, errW_some] <;> rfl), by repeat (first | (with_reducible first | exact HB.out | apply below_alloc | apply pw_below_drewN | apply below_drew1 | refine below_set ?_ GE417.out | refine below_set ?_ GE433.out) | exact HB.out)⟩
             ·rw [if_neg c37] at H
              have c37b0 : (((rd_T25 t434 x21_3).f1.f1) == t418) = false := beq_eq_false_iff_ne.mpr c37
              have c37b1 : (((rd_T25 t434 x21_3).f1.f1) != t418) = true := bne_iff_ne.mpr c37
              have H' := Aside0.mk H
              clear H
              obtain ⟨Ao41, co41, eo41⟩ := Kd.R_slice HO_19.out
              subst eo41
              have p440 : 0 ≤ (x21_3 : Int) := of_decide_eq_true q14_
              have q440 : x21_3 < (t434.length : Int) := of_decide_eq_true q14_
              obtain ⟨ad440, e440, hx440_0, hx440_1, hx440_2, hx440_3, hx440_4⟩ := at_T25 (Kd.R_reads' HO_19.out).2.2 x21_3 p440 q440
              cases e440
              replace p440 := eq_true p440
              replace q440 := eq_true q440
              go_wp2_with (first | ((with_reducible refine gate_callee (f := 16) rfl ?_); refine goesL_ (some 100) rfl rfl Try.func16 (by kernel_rfl) rfl #[.string t425, .agg #[.int .i64 ((rd_T25 t434 x21_3).f1.f0), .int .i64 ((rd_T25 t434 x21_3).f1.f1), .int .i64 ((rd_T25 t434 x21_3).f1.f2), .int .i64 ((rd_T25 t434 x21_3).f1.f3)]] rfl q1_ ?_; (with_reducible refine (skiffref1_Good.calls k3 t425 ((rd_T25 t434 x21_3).f1.f0) ((rd_T25 t434 x21_3).f1.f1) ((rd_T25 t434 x21_3).f1.f2) ((rd_T25 t434 x21_3).f1.f3) true t442 _ A35.out).mono ?_); rintro e w42 ⟨rfl, hb⟩; refine ⟨_, rfl, ?_⟩; have n0_ := Aside0.mk (Kd.R_below (by (with_reducible repeat (first | apply Kd.R_alloc | apply Kd.R_drewN | apply Kd.R_drew)); exact HO_19.out) hb); have n1_ := Aside0.mk (blk_below (g := gb417) (o := .cells #[.int .i64 t411, .int .i64 t412, .int .i64 t413, .int .i64 t414, .int .i64 t415] 25 (0, 0)) (by (with_reducible repeat (first | refine blk_drewN ?_ _ | refine blk_drew ?_ | refine blk_alloc ?_ _)); exact BK417.out) hb); have n2_ := Aside0.mk (blk_below (g := gb433) (o := .cells #[.int .i64 t427, .int .i64 t428, .int .i64 t429, .int .i64 t430, .int .i64 t431] 25 (0, 0)) (by (with_reducible repeat (first | refine blk_drewN ?_ _ | refine blk_drew ?_ | refine blk_alloc ?_ _)); exact BK433.out) hb); have n3_ := Aside0.mk (below_step (by repeat (first | (with_reducible first | exact HB.out | apply below_alloc | apply pw_below_drewN | apply below_drew1 | refine below_set ?_ GE417.out | refine below_set ?_ GE433.out) | exact HB.out)) hb); clear HO_19; clear BK417; clear BK433; clear HB; have HO_19 := n0_; have BK417 := n1_; have BK433 := n2_; have HB := n3_; clear n0_ n1_ n2_ n3_; (try clear hb); (try clear hb2); (try clear hk); (try clear hi); have p443 : 0 ≤ (x21_3 : Int) := of_decide_eq_true q14_; have q443 : x21_3 < (t434.length : Int) := of_decide_eq_true q14_; obtain ⟨ad443, e443, hx443_0, hx443_1, hx443_2, hx443_3, hx443_4⟩ := at_T25 (Kd.R_reads' HO_19.out).2.2 x21_3 p443 q443; obtain rfl : ad440 = ad443 := (by injection e443); replace p443 := eq_true p443; replace q443 := eq_true q443))
              go_roundg k3
              case measure => have := HJ8.out; have := HJ21.out; have := HK3.out; omega
              case rel => exact ⟨(wrap64 (x21_3 + 1)), q15_, H', ⟨by have := HJ8.out; have := HJ21.out; have := HK3.out; omega⟩, ⟨by (with_reducible repeat (first | apply Kd.R_alloc | apply Kd.R_drewN | apply Kd.R_drew)); exact HO_19.out⟩, ⟨by (with_reducible repeat (first | refine blk_drewN ?_ _ | refine blk_drew ?_ | refine blk_alloc ?_ _)); exact BK417.out⟩, ⟨by (with_reducible repeat (first | refine blk_drewN ?_ _ | refine blk_drew ?_ | refine blk_alloc ?_ _)); exact BK433.out⟩, ⟨by repeat (first | (with_reducible first | exact HB.out | apply below_alloc | apply pw_below_drewN | apply below_drew1 | refine below_set ?_ GE417.out | refine below_set ?_ GE433.out) | exact HB.out)⟩⟩
            ·replace c36 := Bool.eq_false_iff.mpr c36
             subst c36
             have H1 : (skifflaw7_ChooseStays.l0 k3 t418 t425 t432 t434 (wrap64 (x21_3 + 1)) t411 t412 t413 t414 t415 t427 t428 t429 t430 t431) = some r := by rw [if_neg (show ¬ (false = true) by decide)] at H; exact H
             clear H
             have H := H1
             clear H1
             have H' := Aside0.mk H
             clear H
             obtain ⟨Ao43, co43, eo43⟩ := Kd.R_slice HO_19.out
             subst eo43
             have p440 : 0 ≤ (x21_3 : Int) := of_decide_eq_true q14_
             have q440 : x21_3 < (t434.length : Int) := of_decide_eq_true q14_
             obtain ⟨ad440, e440, hx440_0, hx440_1, hx440_2, hx440_3, hx440_4⟩ := at_T25 (Kd.R_reads' HO_19.out).2.2 x21_3 p440 q440
             cases e440
             replace p440 := eq_true p440
             replace q440 := eq_true q440
             go_wp2_with (first | ((with_reducible refine gate_callee (f := 16) rfl ?_); refine goesL_ (some 100) rfl rfl Try.func16 (by kernel_rfl) rfl #[.string t425, .agg #[.int .i64 ((rd_T25 t434 x21_3).f1.f0), .int .i64 ((rd_T25 t434 x21_3).f1.f1), .int .i64 ((rd_T25 t434 x21_3).f1.f2), .int .i64 ((rd_T25 t434 x21_3).f1.f3)]] rfl q1_ ?_; (with_reducible refine (skiffref1_Good.calls k3 t425 ((rd_T25 t434 x21_3).f1.f0) ((rd_T25 t434 x21_3).f1.f1) ((rd_T25 t434 x21_3).f1.f2) ((rd_T25 t434 x21_3).f1.f3) false t442 _ A35.out).mono ?_); rintro e w44 ⟨rfl, hb⟩; refine ⟨_, rfl, ?_⟩; have n0_ := Aside0.mk (Kd.R_below (by (with_reducible repeat (first | apply Kd.R_alloc | apply Kd.R_drewN | apply Kd.R_drew)); exact HO_19.out) hb); have n1_ := Aside0.mk (blk_below (g := gb417) (o := .cells #[.int .i64 t411, .int .i64 t412, .int .i64 t413, .int .i64 t414, .int .i64 t415] 25 (0, 0)) (by (with_reducible repeat (first | refine blk_drewN ?_ _ | refine blk_drew ?_ | refine blk_alloc ?_ _)); exact BK417.out) hb); have n2_ := Aside0.mk (blk_below (g := gb433) (o := .cells #[.int .i64 t427, .int .i64 t428, .int .i64 t429, .int .i64 t430, .int .i64 t431] 25 (0, 0)) (by (with_reducible repeat (first | refine blk_drewN ?_ _ | refine blk_drew ?_ | refine blk_alloc ?_ _)); exact BK433.out) hb); have n3_ := Aside0.mk (below_step (by repeat (first | (with_reducible first | exact HB.out | apply below_alloc | apply pw_below_drewN | apply below_drew1 | refine below_set ?_ GE417.out | refine below_set ?_ GE433.out) | exact HB.out)) hb); clear HO_19; clear BK417; clear BK433; clear HB; have HO_19 := n0_; have BK417 := n1_; have BK433 := n2_; have HB := n3_; clear n0_ n1_ n2_ n3_; (try clear hb); (try clear hb2); (try clear hk); (try clear hi)))
             go_roundg k3
             case measure => have := HJ8.out; have := HJ21.out; have := HK3.out; omega
             case rel => exact ⟨(wrap64 (x21_3 + 1)), q15_, H', ⟨by have := HJ8.out; have := HJ21.out; have := HK3.out; omega⟩, ⟨by (with_reducible repeat (first | apply Kd.R_alloc | apply Kd.R_drewN | apply Kd.R_drew)); exact HO_19.out⟩, ⟨by (with_reducible repeat (first | refine blk_drewN ?_ _ | refine blk_drew ?_ | refine blk_alloc ?_ _)); exact BK417.out⟩, ⟨by (with_reducible repeat (first | refine blk_drewN ?_ _ | refine blk_drew ?_ | refine blk_alloc ?_ _)); exact BK433.out⟩, ⟨by repeat (first | (with_reducible first | exact HB.out | apply below_alloc | apply pw_below_drewN | apply below_drew1 | refine below_set ?_ GE417.out | refine below_set ?_ GE433.out) | exact HB.out)⟩⟩
           ·rw [if_neg c34] at H
            exact absurd H (by simp)
          ·rw [if_neg c33] at H
           have c33b0 : decide (x21_3 < (t434.length : Int)) = false := decide_eq_false c33
           clear c33
           replace H := Option.bind_eq_some_iff.mp H
           obtain ⟨t438, A450, H⟩ := H
           replace H : (if t438 = 0 then (if (t427 == t411 && ((t428 == t412 && (t429 == t413 && (t430 == t414 && (t431 == t415)))))) = true then ((skifflaw7_held.f k3).bind fun t439 => (some ((t439.size : Int) == 768))) else (none)) else (none)) = some r := H
           have A45 := Aside0.mk A450
           clear A450
           by_cases c46 : t438 = 0
           ·rw [if_pos c46] at H
            have c46b0 : (t438 == 0) = true := beq_iff_eq.mpr c46
            have c46b1 : (t438 != 0) = false := bne_eq_false_iff_eq.mpr c46
            clear c46
            by_cases c47 : (t427 == t411 && ((t428 == t412 && (t429 == t413 && (t430 == t414 && (t431 == t415)))))) = true
            ·rw [if_pos c47] at H
             have c47b0 : (t427 == t411 && ((t428 == t412 && (t429 == t413 && (t430 == t414 && (t431 == t415)))))) = true := c47
             (try (have c47b1 : decide (t427 = t411 && ((t428 == t412 && (t429 == t413 && (t430 == t414 && (t431 == t415)))))) = true := by simpa using c47))
             (try (have c47b2 : (t427 == t411 && ((t428 == t412 && (t429 == t413 && (t430 == t414 && (t431 == t415)))))) = true := by simpa using c47))
             clear c47
             replace H := Option.bind_eq_some_iff.mp H
             obtain ⟨t439, A480, H⟩ := H
             replace H : (some ((t439.size : Int) == 768)) = some r := H
             have A48 := Aside0.mk A480
             clear A480
             obtain rfl := Option.some.inj H
             obtain ⟨Ao49, co49, eo49⟩ := Kd.R_slice HO_19.out
             subst eo49
             go_wp2_with (first | ((with_reducible refine gate_callee (f := 13) rfl ?_); refine goesL_ (some 118) rfl rfl Try.func13 (by kernel_rfl) rfl #[.int .i64 t432] rfl q1_ ?_; (with_reducible refine (skifflaw0_Num.calls t432 t438 _ A45.out).mono ?_); rintro e w' ⟨rfl, ⟨nd, rfl⟩⟩; refine ⟨_, rfl, ?_⟩; have hnb50 := NB433_417.out; have hnc50 := NB417_433.out; have hcz51_0 : wr.cell? ⟨gb433, 0, none⟩ = some (.int .i64 t427) := (blk_cell BK433.out 0).trans rfl; have hcz51_1 : wr.cell? ⟨gb433, 1, none⟩ = some (.int .i64 t428) := (blk_cell BK433.out 1).trans rfl; have hcz51_2 : wr.cell? ⟨gb433, 2, none⟩ = some (.int .i64 t429) := (blk_cell BK433.out 2).trans rfl; have hcz51_3 : wr.cell? ⟨gb433, 3, none⟩ = some (.int .i64 t430) := (blk_cell BK433.out 3).trans rfl; have hcz51_4 : wr.cell? ⟨gb433, 4, none⟩ = some (.int .i64 t431) := (blk_cell BK433.out 4).trans rfl; have hfz51_0 := blk_frozen BK433.out 0; have hfz51_1 := blk_frozen BK433.out 1; have hfz51_2 := blk_frozen BK433.out 2; have hfz51_3 := blk_frozen BK433.out 3; have hfz51_4 := blk_frozen BK433.out 4; have hcz52_0 : wr.cell? ⟨gb417, 0, none⟩ = some (.int .i64 t411) := (blk_cell BK417.out 0).trans rfl; have hcz52_1 : wr.cell? ⟨gb417, 1, none⟩ = some (.int .i64 t412) := (blk_cell BK417.out 1).trans rfl; have hcz52_2 : wr.cell? ⟨gb417, 2, none⟩ = some (.int .i64 t413) := (blk_cell BK417.out 2).trans rfl; have hcz52_3 : wr.cell? ⟨gb417, 3, none⟩ = some (.int .i64 t414) := (blk_cell BK417.out 3).trans rfl; have hcz52_4 : wr.cell? ⟨gb417, 4, none⟩ = some (.int .i64 t415) := (blk_cell BK417.out 4).trans rfl; have hfz52_0 := blk_frozen BK417.out 0; have hfz52_1 := blk_frozen BK417.out 1; have hfz52_2 := blk_frozen BK417.out 2; have hfz52_3 := blk_frozen BK417.out 3; have hfz52_4 := blk_frozen BK417.out 4) | (go_at_call 22; (with_reducible refine (skifflaw7_held.calls k3  t439 _ A48.out).mono ?_); rintro e w53 ⟨rfl, hb⟩; have n0_ := Aside0.mk (Kd.R_below (by (with_reducible repeat (first | apply Kd.R_alloc | apply Kd.R_drewN | apply Kd.R_drew)); exact HO_19.out) hb); have n1_ := Aside0.mk (blk_below (g := gb417) (o := .cells #[.int .i64 t411, .int .i64 t412, .int .i64 t413, .int .i64 t414, .int .i64 t415] 25 (0, 0)) (by (with_reducible repeat (first | refine blk_drewN ?_ _ | refine blk_drew ?_ | refine blk_alloc ?_ _)); exact BK417.out) hb); have n2_ := Aside0.mk (blk_below (g := gb433) (o := .cells #[.int .i64 t427, .int .i64 t428, .int .i64 t429, .int .i64 t430, .int .i64 t431] 25 (0, 0)) (by (with_reducible repeat (first | refine blk_drewN ?_ _ | refine blk_drew ?_ | refine blk_alloc ?_ _)); exact BK433.out) hb); have n3_ := Aside0.mk (below_step (by repeat (first | (with_reducible first | exact HB.out | apply below_alloc | apply pw_below_drewN | apply below_drew1 | refine below_set ?_ GE417.out | refine below_set ?_ GE433.out) | exact HB.out)) hb); clear HO_19; clear BK417; clear BK433; clear HB; have HO_19 := n0_; have BK417 := n1_; have BK433 := n2_; have HB := n3_; clear n0_ n1_ n2_ n3_; (try clear hb); (try clear hb2); (try clear hk); (try clear hi)))
             go_ret
             exact ⟨by first | rfl | (simp [errW_none, errW_some] <;> rfl) | (simp [*, errW_none, errW_some] <;> rfl), by repeat (first | (with_reducible first | exact HB.out | apply below_alloc | apply pw_below_drewN | apply below_drew1 | refine below_set ?_ GE417.out | refine below_set ?_ GE433.out) | exact HB.out)⟩
            ·rw [if_neg c47] at H
             exact absurd H (by simp)
           ·rw [if_neg c46] at H
            exact absurd H (by simp)
 ·replace c6 := Bool.eq_false_iff.mpr c6
  subst c6
  have H1 : (none) = some r := by rw [if_neg (show ¬ (false = true) by decide)] at H; exact H
  clear H
  have H := H1
  clear H1
  exact absurd H (by simp)
/-- THE ONE PURE STATEMENT of skifflaw7_ChooseStays: yours. -/
def skifflaw7_ChooseStays.Pure : Prop := ∀ (a0 : ByteArray) (a1 : Int) (a2 : ByteArray) (a3 : Int), a0.size ≤ 140737488351232 → (Lit.int .i64 a1).wf = true → a2.size ≤ 140737488351232 → (Lit.int .i64 a3).wf = true → ∃ k, skifflaw7_ChooseStays.f k a0 a1 a2 a3 = some true
theorem skifflaw7_ChooseStays.walk (P : skifflaw7_ChooseStays.Pure) (a0 : ByteArray) (a1 : Int) (a2 : ByteArray) (a3 : Int) (w : World) (w0 : a0.size ≤ 140737488351232) (w1 : (Lit.int .i64 a1).wf = true) (w2 : a2.size ≤ 140737488351232) (w3 : (Lit.int .i64 a3).wf = true) :
  Calls Try.prog 7 #[.string a0, .int .i64 a1, .string a2, .int .i64 a3] w fun e w' => e = .returned (.bool true) ∧ Below w.heap.size w w' := by
 obtain ⟨k, h⟩ := P a0 a1 a2 a3 w0 w1 w2 w3
 refine (skifflaw7_ChooseStays.calls k a0 a1 a2 a3 true w h).mono ?_
 rintro e w' ⟨rfl, hd⟩
 exact ⟨rfl, hd⟩
end Go.Proofs.Ytjadcjkjpkkmkaa.PAll

/- Plain facts on bytes: what and, or, and-not of bytes are, bit by bit; no program in sight. -/
set_option linter.unnecessarySimpa false
set_option linter.unusedSimpArgs false
set_option linter.unusedVariables false
namespace Go.Proofs.Ytjadcjkjpkkmkaa.M
open Go.RowKit
abbrev B (x : Int) : BitVec 8 := BitVec.ofInt 8 x
theorem wrap8 (b : BitVec 8) : IntKind.u8.wrap (b.toNat : Int) = b.toNat := by
 rw [IntKind.wrap_u8]; have := b.isLt; omega
theorem bits_and_u8 (x y : Int) : Go.bits .and .u8 x y = ((B x &&& B y).toNat : Int) := wrap8 _
theorem bits_or_u8 (x y : Int) : Go.bits .or .u8 x y = ((B x ||| B y).toNat : Int) := wrap8 _
theorem bits_xor_u8 (x y : Int) : Go.bits .xor .u8 x y = ((B x ^^^ B y).toNat : Int) := wrap8 _
theorem bits_andNot_u8 (x y : Int) : Go.bits .andNot .u8 x y = ((B x &&& ~~~B y).toNat : Int) := wrap8 _
theorem B_toNat (b : BitVec 8) : B (b.toNat : Int) = b := by simp [B]
theorem toNat_B (x : Int) (h0 : 0 ≤ x) (h1 : x < 256) : ((B x).toNat : Int) = x := by
 obtain ⟨n, rfl⟩ := Int.eq_ofNat_of_zero_le h0
 simp [B]; omega
theorem B_pow (m : Nat) : B (2 ^ m % 256) = 1#8 <<< m := by
 apply BitVec.eq_of_toNat_eq
 have : ((2 : Int) ^ m % 256) = ((2 ^ m % 256 : Nat) : Int) := by simp
 simp only [B, this, BitVec.ofInt_natCast, BitVec.toNat_ofNat, BitVec.toNat_shiftLeft, Nat.shiftLeft_eq]
 simp
theorem B_mask (m : Nat) : B ((255 * 2 ^ m) % 256) = 255#8 <<< m := by
 apply BitVec.eq_of_toNat_eq
 have : ((255 : Int) * 2 ^ m % 256) = ((255 * 2 ^ m % 256 : Nat) : Int) := by simp
 simp only [B, this, BitVec.ofInt_natCast, BitVec.toNat_ofNat, BitVec.toNat_shiftLeft, Nat.shiftLeft_eq]
 simp
/-- Is bit m of x none? as the reference asks. -/
theorem zero_bit (x : Int) (h0 : 0 ≤ x) (h1 : x < 256) (m : Nat) (hm : m < 8) : (Go.bits .and .u8 (x / 2 ^ m) 1 == 0) = !(B x).getLsbD m := by
 obtain ⟨n, rfl⟩ := Int.eq_ofNat_of_zero_le h0
 have hn : n < 256 := by omega
 have e1 : ((n : Int) / 2 ^ m) = ((n / 2 ^ m : Nat) : Int) := by simp
 have hd : n / 2 ^ m < 256 := Nat.lt_of_le_of_lt (Nat.div_le_self _ _) hn
 rw [e1, bits_and_u8]
 have e2 : (B ((n / 2 ^ m : Nat) : Int) &&& B 1).toNat = n / 2 ^ m % 2 := by
  simp only [B, BitVec.ofInt_natCast, BitVec.toNat_and, BitVec.toNat_ofNat]
  rw [Nat.mod_eq_of_lt hd, show ((BitVec.ofInt 8 1).toNat) = 1 from rfl, Nat.and_one_is_mod]
 rw [e2]
 have e3 : (B (n : Int)).getLsbD m = n.testBit m := by
  show (BitVec.ofInt 8 (n : Int)).getLsbD m = _
  rw [BitVec.ofInt_natCast, BitVec.getLsbD_ofNat]; simp [hm]
 rw [e3, Nat.testBit_eq_decide_div_mod_eq]
 rcases Nat.mod_two_eq_zero_or_one (n / 2 ^ m) with h | h <;> simp [h]
/-- A byte of which the lowest n bits have been programmed, one by one, as the reference does it. -/
def clr (b w : Int) : Nat → Int
 | 0 => b
 | n + 1 => if (Go.bits .and .u8 (w / 2 ^ n) 1 == 0) = true then Go.bits .andNot .u8 (clr b w n) (2 ^ n % 256) else clr b w n
theorem clr_range (b w : Int) (h0 : 0 ≤ b) (h1 : b < 256) (n : Nat) : 0 ≤ clr b w n ∧ clr b w n < 256 := by
 induction n with
 | zero => exact ⟨h0, h1⟩
 | succ n ih =>
  rw [clr]
  split
  ·rw [bits_andNot_u8]; have := (B (clr b w n) &&& ~~~B (2 ^ n % 256)).isLt; omega
  ·exact ih
theorem clr_bit (b w : Int) (h0 : 0 ≤ w) (h1 : w < 256) (n : Nat) (hn : n ≤ 8) (i : Nat) (hi : i < 8) : (B (clr b w n)).getLsbD i = ((B b).getLsbD i && (decide (n ≤ i) || (B w).getLsbD i)) := by
 induction n with
 | zero => simp [clr]
 | succ n ih =>
  have ih := ih (by omega)
  rw [clr, zero_bit w h0 h1 n (by omega)]
  by_cases hw : (B w).getLsbD n = true
  ·rw [if_neg (by simp [hw]), ih]
   by_cases e : n = i
   ·subst e; simp [hw]
   ·have : decide (n ≤ i) = decide (n + 1 ≤ i) := by simp; omega
    rw [this]
  ·have hw' : (B w).getLsbD n = false := by simpa using hw
   rw [if_pos (by simp [hw']), bits_andNot_u8, B_toNat, B_pow]
   rw [BitVec.getLsbD_and, BitVec.getLsbD_not, ih]
   have e1 : (1#8 <<< n).getLsbD i = decide (n = i) := by
    rw [BitVec.getLsbD_shiftLeft]
    by_cases e : n = i
    ·subst e; simp [hi]
    ·by_cases h : i < n
     ·simp [h, e]
     ·have : 0 < i - n := by omega
      simp [hi, h, e, BitVec.getLsbD_one]
      omega
   rw [e1]
   by_cases e : n = i
   ·subst e; rw [hw']; simp
   ·have : decide (n ≤ i) = decide (n + 1 ≤ i) := by simp; omega
    simp [this, hi, e]
theorem mask_bit (b w : Int) (n i : Nat) (hi : i < 8) : (B (Go.bits .and .u8 b (Go.bits .or .u8 w ((255 * 2 ^ n) % 256)))).getLsbD i = ((B b).getLsbD i && (decide (n ≤ i) || (B w).getLsbD i)) := by
 rw [bits_or_u8, bits_and_u8, B_toNat, B_toNat, B_mask, BitVec.getLsbD_and, BitVec.getLsbD_or]
 have e1 : (255#8 <<< n).getLsbD i = decide (n ≤ i) := by
  rw [BitVec.getLsbD_shiftLeft]
  by_cases h : i < n
  ·simp [h]
  ·have h2 : n ≤ i := by omega
   have h3 : (255#8).getLsbD (i - n) = true := by
    have h4 : i - n < 8 := by omega
    have : ∀ j, j < 8 → (255#8).getLsbD j = true := by decide
    exact this _ h4
   simp [hi, h, h2, h3]
 rw [e1, Bool.or_comm (B w |>.getLsbD i)]
theorem mask_clr (b w : Int) (hb0 : 0 ≤ b) (hb1 : b < 256) (h0 : 0 ≤ w) (h1 : w < 256) (n : Nat) (hn : n ≤ 8) : Go.bits .and .u8 b (Go.bits .or .u8 w ((255 * 2 ^ n) % 256)) = clr b w n := by
 obtain ⟨c0, c1⟩ := clr_range b w hb0 hb1 n
 rw [← toNat_B (clr b w n) c0 c1]
 have hr : ∀ x, Go.bits .and .u8 b x = ((B (Go.bits .and .u8 b x)).toNat : Int) := by
  intro x
  rw [toNat_B]
  ·rw [bits_and_u8]; omega
  ·rw [bits_and_u8]; have := (B b &&& B x).isLt; omega
 rw [hr]
 congr 2
 apply BitVec.eq_of_getLsbD_eq
 intro i hi
 rw [mask_bit b w n i hi, clr_bit b w h0 h1 n hn i hi]
/-- On a byte 255 the word itself. -/
theorem clr_blank (w : Int) (h0 : 0 ≤ w) (h1 : w < 256) (N : Nat) (hN : N = 8) : clr 255 w N = w := by
 obtain ⟨e0, e1⟩ := clr_range 255 w (by omega) (by omega) N
 refine (toNat_B _ e0 e1).symm.trans (Eq.trans ?_ (toNat_B w h0 h1))
 congr 2
 apply BitVec.eq_of_getLsbD_eq
 intro i hi
 rw [clr_bit _ w h0 h1 N (by omega) i hi]
 have : (B 255).getLsbD i = true := by
  have h : ∀ j, j < 8 → (BitVec.ofInt 8 255).getLsbD j = true := by decide
  exact h i hi
 have h8 : decide (N ≤ i) = false := by simp; omega
 rw [this, h8]; rfl
end Go.Proofs.Ytjadcjkjpkkmkaa.M

/- Plain facts on flashes: texts spliced, words programmed, sectors erased, byte by byte; no memory in sight. -/
set_option linter.unnecessarySimpa false
set_option linter.unusedSimpArgs false
set_option linter.unusedVariables false
namespace Go.Proofs.Ytjadcjkjpkkmkaa.M
open Go.RowKit Go.Proofs.YtjadcjkjpkkmkaaW.PrintWords Go.Proofs.YtjadcjkjpkkmkaaW.PrintLast Go.Proofs.YtjadcjkjpkkmkaaW.PrintMore Go.Proofs.Ytjadcjkjpkkmkaa.Hand
theorem bt_lt (s : ByteArray) (i : Nat) (h : i < s.size) : bt s i = ((s[i]'h).toNat : Int) := bt_nat s i h
theorem bt_u8 (s : ByteArray) (i : Int) : 0 ≤ bt s i ∧ bt s i < 256 := by
 have := bt_range s i; omega
theorem bt_ext {a b : ByteArray} (h : a.size = b.size) (h2 : ∀ i : Nat, i < a.size → bt a i = bt b i) : a = b := by
 apply ByteArray.ext
 apply Array.ext h
 intro i h1 h3
 have := h2 i h1
 rw [bt_lt a i h1, bt_lt b i h3] at this
 have h4 : (a[i]'h1).toNat = (b[i]'h3).toNat := by exact_mod_cast this
 exact UInt8.toNat_inj.mp h4
theorem bt_data (s : ByteArray) (i : Nat) : bt s i = ((s.data.toList.getD i 0).toNat : Int) := by
 by_cases h : i < s.size
 ·rw [bt_lt s i h]
  have h' : i < s.data.toList.length := by rw [data_length]; exact h
  simp [List.getD_eq_getElem?_getD, List.getElem?_eq_getElem h']
  rfl
 ·have h' : ¬ i < s.data.toList.length := by rw [data_length]; exact h
  unfold bt
  rw [dif_neg (by simpa using h)]
  simp [List.getD_eq_getElem?_getD, List.getElem?_eq_none (Nat.le_of_not_lt h')]
theorem bt_append (a b : ByteArray) (i : Nat) : bt (a ++ b) i = if i < a.size then bt a i else bt b ((i - a.size : Nat) : Int) := by
 rw [bt_data, bt_data, bt_data]
 have hd : (a ++ b).data.toList = a.data.toList ++ b.data.toList := by simp
 rw [hd]
 have hl : a.data.toList.length = a.size := data_length a
 split
 ·rename_i h
  rw [List.getD_eq_getElem?_getD, List.getElem?_append_left (by omega), ← List.getD_eq_getElem?_getD]
 ·rename_i h
  rw [List.getD_eq_getElem?_getD, List.getElem?_append_right (by omega), ← List.getD_eq_getElem?_getD, hl]
theorem bt_extract (a : ByteArray) (s e i : Nat) (h : i < min e a.size - s) : bt (a.extract s e) i = bt a ((s + i : Nat) : Int) := by
 have h1 : i < (a.extract s e).size := by rw [ByteArray.size_extract]; exact h
 have h2 : s + i < a.size := by omega
 rw [bt_lt _ _ h1, bt_lt a (s + i) h2]
 simp [ByteArray.getElem_extract]
theorem bt_strOfNums (l : List Int) (i : Nat) (h : i < l.length) (h0 : 0 ≤ l.getD i 0) (h1 : l.getD i 0 < 256) : bt (strOfNums l) i = l.getD i 0 := by
 rw [bt_data]
 have e : (strOfNums l).data.toList = l.map fun n => UInt8.ofNat n.toNat := rfl
 rw [e]
 simp only [List.getD_eq_getElem?_getD, List.getElem?_map, List.getElem?_eq_getElem h, Option.map_some, Option.getD_some] at *
 simp
 omega
/-- A flash, some bytes of it others. -/
def sp (f : ByteArray) (at_ : Nat) (t : ByteArray) : ByteArray := (f.extract 0 at_ ++ t) ++ f.extract (at_ + t.size) f.size
theorem sp_size (f : ByteArray) (at_ : Nat) (t : ByteArray) (h : at_ + t.size ≤ f.size) : (sp f at_ t).size = f.size := by
 simp [sp, ByteArray.size_append, ByteArray.size_extract]; omega
theorem sp_bt (f : ByteArray) (at_ : Nat) (t : ByteArray) (h : at_ + t.size ≤ f.size) (i : Nat) (hi : i < f.size) :
  bt (sp f at_ t) i = if at_ ≤ i ∧ i < at_ + t.size then bt t ((i - at_ : Nat) : Int) else bt f i := by
 have s1 : (f.extract 0 at_).size = at_ := by rw [ByteArray.size_extract]; omega
 have s2 : (f.extract 0 at_ ++ t).size = at_ + t.size := by rw [ByteArray.size_append, s1]
 unfold sp
 rw [bt_append, s2]
 by_cases c1 : i < at_ + t.size
 ·rw [if_pos c1, bt_append, s1]
  by_cases c2 : i < at_
  ·rw [if_pos c2, if_neg (by omega), bt_extract _ _ _ _ (by omega), Nat.zero_add]
  ·rw [if_neg c2, if_pos ⟨by omega, c1⟩]
 ·rw [if_neg c1, if_neg (by omega), bt_extract _ _ _ _ (by omega)]
  congr 2; omega
/-- How many bits of byte j are programmed. -/
def tn (many : Int) (j : Nat) : Nat := (mn (mx (many - 8 * (j : Int)) 0) 8).toNat
theorem tn_eq (many : Int) (j : Nat) (h : 0 ≤ many) : tn many j = min (many.toNat - 8 * j) 8 := by
 unfold tn mn mx; split <;> split <;> omega
theorem tn_le (many : Int) (j : Nat) : tn many j ≤ 8 := by unfold tn mn mx; split <;> split <;> omega
theorem tornB_clr (f : ByteArray) (at_ : Nat) (x : ByteArray) (many : Int) (j : Nat) : tornB f at_ x many j = clr (bt f ((at_ + j : Nat) : Int)) (bt x j) (tn many j) := by
 unfold tornB maskV
 have h := mask_clr (bt f ((at_ + j : Nat) : Int)) (bt x j) (bt_u8 _ _).1 (bt_u8 _ _).2 (bt_u8 _ _).1 (bt_u8 _ _).2 (tn many j) (tn_le _ _)
 exact h
theorem tornF_size (f : ByteArray) (at_ : Nat) (x : ByteArray) (many : Int) (h : at_ + 4 ≤ f.size) : (tornF f at_ x many).size = f.size := by
 have : (strOfNums (tornL f at_ x many 4)).size = 4 := by rw [strOfNums_size', tornL_length]
 have h2 := sp_size f at_ (strOfNums (tornL f at_ x many 4)) (by omega)
 unfold sp at h2
 rw [this] at h2
 exact h2
theorem tornF_bt (f : ByteArray) (at_ : Nat) (x : ByteArray) (many : Int) (h : at_ + 4 ≤ f.size) (i : Nat) (hi : i < f.size) :
  bt (tornF f at_ x many) i = if at_ ≤ i ∧ i < at_ + 4 then clr (bt f i) (bt x ((i - at_ : Nat) : Int)) (tn many (i - at_)) else bt f i := by
 have hs : (strOfNums (tornL f at_ x many 4)).size = 4 := by rw [strOfNums_size', tornL_length]
 have h2 := sp_bt f at_ (strOfNums (tornL f at_ x many 4)) (by omega) i hi
 unfold sp at h2
 rw [hs] at h2
 unfold tornF
 rw [h2]
 by_cases c : at_ ≤ i ∧ i < at_ + 4
 ·rw [if_pos c, if_pos c]
  have hj : i - at_ < 4 := by omega
  have hg : (tornL f at_ x many 4).getD (i - at_) 0 = tornB f at_ x many (i - at_) := by simp [tornL, List.getD_eq_getElem?_getD, hj]
  have hc := tornB_clr f at_ x many (i - at_)
  rw [show at_ + (i - at_) = i by omega] at hc
  have hr := clr_range (bt f i) (bt x ((i - at_ : Nat) : Int)) (bt_u8 _ _).1 (bt_u8 _ _).2 (tn many (i - at_))
  rw [bt_strOfNums _ _ (by rw [tornL_length]; exact hj) (by rw [hg, hc]; exact hr.1) (by rw [hg, hc]; exact hr.2), hg, hc]
 ·rw [if_neg c, if_neg c]
theorem rL_at (f : ByteArray) (at_ : Nat) (x : ByteArray) (h : at_ + 4 ≤ f.size) (k : Nat) (hk : k ≤ 32) (j : Nat) (hj : j < 4) : (rL f at_ x k).getD j 0 = clr (bt f ((at_ + j : Nat) : Int)) (bt x j) (min (k - 8 * j) 8) := by
 induction k with
 | zero =>
  rw [rL, show min (0 - 8 * j) 8 = 0 by omega, clr]
  have hs : (f.extract at_ (at_ + 4)).size = 4 := by rw [ByteArray.size_extract]; omega
  have e1 := rd_bytesOf (f.extract at_ (at_ + 4)) (j : Int)
  have e2 : rd (bytesOf (f.extract at_ (at_ + 4))) (j : Int) = (bytesOf (f.extract at_ (at_ + 4))).getD j 0 := by unfold rd; simp
  rw [← e2, e1, bt_extract _ _ _ _ (by omega)]
 | succ k ih =>
  have ih := ih (by omega)
  have hlen := rL_length f at_ x k h
  rw [rL, rstep]
  by_cases e : k / 8 = j
  ·have e1 : min (k + 1 - 8 * j) 8 = k % 8 + 1 := by omega
   have e2 : min (k - 8 * j) 8 = k % 8 := by omega
   rw [e2] at ih
   rw [e1, clr, ← ih]
   unfold zeroBit
   rw [e]
   split
   ·simp [List.getD_eq_getElem?_getD, hlen, hj]
   ·rfl
  ·have e1 : min (k + 1 - 8 * j) 8 = min (k - 8 * j) 8 := by omega
   rw [e1, ← ih]
   split
   ·simp [List.getD_eq_getElem?_getD, e]
   ·rfl
theorem rtornF_eq (f : ByteArray) (at_ : Nat) (x : ByteArray) (many : Int) (h : at_ + 4 ≤ f.size) (h0 : 0 ≤ many) (h1 : many ≤ 32) : rtornF f at_ x many.toNat = tornF f at_ x many := by
 unfold rtornF tornF
 congr 3
 apply List.ext_getElem
 ·rw [rL_length _ _ _ _ h, tornL_length]
 ·intro j h2 h3
  rw [tornL_length] at h3
  have e1 := rL_at f at_ x h many.toNat (by omega) j h3
  have e2 : (tornL f at_ x many 4).getD j 0 = tornB f at_ x many j := by simp [tornL, List.getD_eq_getElem?_getD, h3]
  have e3 := tornB_clr f at_ x many j
  rw [tn_eq many j h0] at e3
  rw [List.getD_eq_getElem?_getD, List.getElem?_eq_getElem h2] at e1
  rw [List.getD_eq_getElem?_getD, List.getElem?_eq_getElem (by rw [tornL_length]; exact h3)] at e2
  simp only [Option.getD_some] at e1 e2
  rw [e1, e2, e3]
/-- n bytes 255. -/
def ff (n : Nat) : ByteArray := ⟨(List.replicate n 255).toArray⟩
theorem ff_size (n : Nat) : (ff n).size = n := by simp [ff, ByteArray.size]
theorem ff_bt (n i : Nat) (h : i < n) : bt (ff n) i = 255 := by
 rw [bt_data]
 simp [ff, List.getD_eq_getElem?_getD, h]
theorem ff_strOfNums (n : Nat) : strOfNums (List.replicate n 255) = ff n := by
 simp [strOfNums, ff]
/-- A flash, the first bytes of a sector erased. -/
def wornF (f : ByteArray) (s many : Nat) : ByteArray := sp f (s * 96) (ff many)
end Go.Proofs.Ytjadcjkjpkkmkaa.M

/- Plain facts: what the reference's PutEntry answers for every record, in closed form; no memory in sight. -/
set_option linter.unnecessarySimpa false
set_option linter.unusedSimpArgs false
set_option linter.unusedVariables false
namespace Go.Proofs.Ytjadcjkjpkkmkaa.M
open Go.RowKit Go.Proofs.YtjadcjkjpkkmkaaW.PrintWords Go.Proofs.YtjadcjkjpkkmkaaW.PrintLast Go.Proofs.YtjadcjkjpkkmkaaW.PrintMore Go.Proofs.Ytjadcjkjpkkmkaa.Hand
/-- Byte i of a number, the lowest first. -/
def lb (x : Int) (i : Nat) : Int := x / 2 ^ (8 * i) % 256
theorem lb_range (x : Int) (i : Nat) : 0 ≤ lb x i ∧ lb x i < 256 := by unfold lb; omega
theorem low1 (x : Int) : PBase.skiffref1_Low.f 6 x 1 = some (strOfNums [lb x 0]) := by
 simp [PBase.skiffref1_Low.f, PBase.skiffref1_Low.l0, wrap64, shr, lb, IntKind.bits]
theorem low2 (x : Int) : PBase.skiffref1_Low.f 6 x 2 = some (strOfNums [lb x 0, lb x 1]) := by
 simp [PBase.skiffref1_Low.f, PBase.skiffref1_Low.l0, wrap64, shr, lb, IntKind.bits]
theorem low4 (x : Int) : PBase.skiffref1_Low.f 6 x 4 = some (strOfNums [lb x 0, lb x 1, lb x 2, lb x 3]) := by
 simp [PBase.skiffref1_Low.f, PBase.skiffref1_Low.l0, wrap64, shr, lb, IntKind.bits]
/-- May a record be put? -/
def recMay (q sl sz sm : Int) : Bool := decide (1 ≤ q ∧ q ≤ 1048576 ∧ 0 ≤ sl ∧ sl ≤ 1 ∧ 1 ≤ sz ∧ sz ≤ 288 ∧ 0 ≤ sm ∧ sm ≤ 4294967295)
theorem upTo_eq' (a b c : Int) : PBase.skiffref1_upTo.f a b c = some (decide (b ≤ a ∧ a ≤ c)) := by
 unfold PBase.skiffref1_upTo.f
 by_cases h1 : a ≥ b
 ·simp [h1, show b ≤ a from h1]
 ·simp [h1, show ¬ b ≤ a from h1]
theorem RecordMay_eq (q sl sz sm : Int) : PBase.skiffref1_RecordMay.f q sl sz sm = some (recMay q sl sz sm) := by
 unfold PBase.skiffref1_RecordMay.f recMay
 simp only [upTo_eq', Option.bind_some]
 by_cases h1 : 1 ≤ q ∧ q ≤ 1048576
 ·by_cases h2 : 0 ≤ sl ∧ sl ≤ 1
  ·by_cases h3 : 1 ≤ sz ∧ sz ≤ 288
   ·simp [h1, h2, h3]
   ·rw [if_pos (by simpa using h1), if_pos (by simpa using h2), if_neg (by simpa using h3)]; congr 1; symm; rw [decide_eq_false_iff_not]; omega
  ·rw [if_pos (by simpa using h1), if_neg (by simpa using h2)]; congr 1; symm; rw [decide_eq_false_iff_not]; omega
 ·rw [if_neg (by simpa using h1)]; congr 1; symm; rw [decide_eq_false_iff_not]; omega
/-- The twelve bytes of a record. -/
def entL (q sl sz sm : Int) : List Int := [lb q 0, lb q 1, lb q 2, lb q 3, lb sl 0, 0, lb sz 0, lb sz 1, lb sm 0, lb sm 1, lb sm 2, lb sm 3]
/-- The bytes of a record: these, and their complements. -/
def ent (q sl sz sm : Int) : ByteArray := strOfNums (entL q sl sz sm ++ (entL q sl sz sm).map fun x => (255 - x) % 256)
theorem ent_size (q sl sz sm : Int) : (ent q sl sz sm).size = 24 := by rw [ent, strOfNums_size']; rfl
theorem bytesOf_strOfNums (l : List Int) (h : ∀ x ∈ l, 0 ≤ x ∧ x < 256) : bytesOf (strOfNums l) = l := by
 induction l with
 | nil => rfl
 | cons x xs ih =>
  have e : bytesOf (strOfNums (x :: xs)) = ((UInt8.ofNat x.toNat).toNat : Int) :: bytesOf (strOfNums xs) := by simp [bytesOf, strOfNums]
  rw [e, ih (fun y hy => h y (List.mem_cons_of_mem _ hy))]
  have := h x List.mem_cons_self
  congr 1
  rw [UInt8.toNat_ofNat']; omega
theorem strOfNums_append (a b : List Int) : strOfNums a ++ strOfNums b = strOfNums (a ++ b) := by
 simp [strOfNums, ByteArray.mk_append_mk]
theorem PutEntry_at (q sl sz sm : Int) (k : Nat) (hk : k = 6) : skiffref1_PutEntry.f k q sl sz sm = some (if recMay q sl sz sm = true then (ent q sl sz sm, 0) else (⟨#[]⟩, 400)) := by
 subst hk
 unfold skiffref1_PutEntry.f
 rw [RecordMay_eq, Option.bind_some]
 by_cases h : recMay q sl sz sm = true
 ·rw [if_pos h, if_pos h, low4, low1, low1, low2, low4]
  simp only [Option.bind_some, strOfNums_append, strOfNums_size']
  have z : strOfNums ([lb q 0, lb q 1, lb q 2, lb q 3] ++ [lb sl 0] ++ [lb 0 0] ++ [lb sz 0, lb sz 1] ++ [lb sm 0, lb sm 1, lb sm 2, lb sm 3]) = strOfNums (entL q sl sz sm) := rfl
  rw [z]
  unfold putFin
  rw [strOfNums_size', bytesOf_strOfNums]
  ·rfl
  ·intro x hx
   simp only [entL, List.mem_cons, List.mem_nil_iff, or_false] at hx
   rcases hx with rfl | rfl | rfl | rfl | rfl | rfl | rfl | rfl | rfl | rfl | rfl | rfl <;> first | exact lb_range _ _ | omega
 ·rw [if_neg h, if_neg h]
def putV (q sl sz sm : Int) : ByteArray × Int := if recMay q sl sz sm = true then (ent q sl sz sm, 0) else (⟨#[]⟩, 400)
theorem PutEntry_ev (q sl sz sm : Int) : Ev (fun k => skiffref1_PutEntry.f k q sl sz sm) (putV q sl sz sm) :=
 Ev.of (fun k => skiffref1_PutEntry.mono q sl sz sm k) (PutEntry_at q sl sz sm 6 rfl)
end Go.Proofs.Ytjadcjkjpkkmkaa.M

/- Plain facts: what the program's ops and the reference's answer for every flash, step and cut: the same; no memory in sight. -/
set_option linter.unnecessarySimpa false
set_option linter.unusedSimpArgs false
set_option linter.unusedVariables false
namespace Go.Proofs.Ytjadcjkjpkkmkaa.M
open Go.RowKit Go.Proofs.YtjadcjkjpkkmkaaW.PrintWords Go.Proofs.YtjadcjkjpkkmkaaW.PrintLast Go.Proofs.YtjadcjkjpkkmkaaW.PrintMore Go.Proofs.Ytjadcjkjpkkmkaa.Hand Go.Proofs.Ytjadcjkjpkkmkaa.PAll
/-- Evaluation that ends: one step of a function with rounds. -/
theorem Ev.one {α : Type} {g : Nat → Option α} {r : α} (h : ∀ k, g (k + 1) = some r) : Ev g r := ⟨1, fun k hk => by obtain ⟨m, rfl⟩ : ∃ m, k = m + 1 := ⟨k - 1, by omega⟩; exact h m⟩
theorem Ev.always {α : Type} {g : Nat → Option α} {r : α} (h : ∀ k, g k = some r) : Ev g r := ⟨0, fun k _ => h k⟩
abbrev I64 (x : Int) : Prop := -9223372036854775808 ≤ x ∧ x ≤ 9223372036854775807
theorem wrap_id {x : Int} (h : I64 x) : wrap64 x = x := by unfold wrap64; omega
/-- May a step be? -/
def opMay (e : Bool) (a : Int) (t : ByteArray) : Bool :=
 if e = true then decide (0 ≤ a ∧ a ≤ 672 ∧ a % 96 = 0 ∧ t.size = 0) else decide (0 ≤ a ∧ a ≤ 764 ∧ a % 4 = 0 ∧ t.size = 4)
theorem toList_nil (t : ByteArray) : (t.toList == ([] : List UInt8)) = decide (t.size = 0) := by
 rw [ByteArray.toList_eq]
 have h := data_length t
 cases hl : t.data.toList with
 | nil => rw [hl] at h; simp at h; exact (decide_eq_true h.symm).symm
 | cons a l => rw [hl] at h; simp at h; exact (decide_eq_false (by omega)).symm
theorem toList_inj {a b : ByteArray} : a.toList = b.toList ↔ a = b := by
 rw [ByteArray.toList_eq, ByteArray.toList_eq]
 exact ⟨fun h => Go.WideShapes.bytes_inj h, fun h => by rw [h]⟩
theorem upTo_eq (a b c : Int) : PBase.skiffref1_upTo.f a b c = some (decide (b ≤ a ∧ a ≤ c)) := by
 unfold PBase.skiffref1_upTo.f
 by_cases h : a ≥ b
 ·rw [if_pos h]; congr 1; simp; omega
 ·rw [if_neg h]; congr 1; symm; simp; omega
theorem ref_OpMay_eq (e : Bool) (a : Int) (t : ByteArray) : skiffref1_OpMay.f e a t = some (opMay e a t) := by
 unfold skiffref1_OpMay.f opMay
 cases e with
 | true =>
  rw [if_pos rfl, if_pos rfl, upTo_eq]
  simp only [Option.bind_some]
  by_cases h0 : 0 ≤ a ∧ a ≤ 672
  ·rw [if_pos (by simpa using h0), Int.tmod_eq_emod_of_nonneg h0.1]
   by_cases h1 : a % 96 = 0
   ·rw [if_pos h1, toList_nil]; congr 1; exact decide_eq_decide.mpr ⟨fun h => ⟨by omega, by omega, h1, h⟩, fun h => h.2.2.2⟩
   ·rw [if_neg h1]; congr 1; symm; simp; omega
  ·rw [if_neg (by simpa using h0)]; congr 1; symm; simp; omega
 | false =>
  rw [if_neg (by decide), if_neg (by decide)]
  unfold skiffref1_wordAt.f
  rw [upTo_eq]
  simp only [Option.bind_some]
  by_cases h0 : 0 ≤ a ∧ a ≤ 764
  ·rw [if_pos (by simpa using h0), Int.tmod_eq_emod_of_nonneg h0.1]
   simp only [Option.bind_some]
   by_cases h1 : a % 4 = 0
   ·rw [if_pos (by simpa using h1)]; congr 1; rw [Bool.eq_iff_iff]; simp; omega
   ·rw [if_neg (by simpa using h1)]; congr 1; symm; simp; omega
  ·rw [if_neg (by simpa using h0)]
   simp only [Option.bind_some]
   rw [if_neg (by decide)]; congr 1; symm; simp; omega
theorem full_go (n : Int) (hn : n ≤ 1000) (d : Nat) : ∀ (k : Nat) (i : Int), 0 ≤ i → i ≤ n → (n - i).toNat = d → d < k → skiffref1_full.l0 k n (List.replicate i.toNat 255 ++ List.replicate (n - i).toNat 0) i = some (ff n.toNat) := by
 induction d with
 | zero =>
  intro k i h0 h1 hd hk
  obtain ⟨k, rfl⟩ : ∃ m, k = m + 1 := ⟨k - 1, by omega⟩
  have hin : i = n := by omega
  subst hin
  simp only [skiffref1_full.l0]
  rw [if_neg (by omega)]
  simp [ff_strOfNums]
 | succ d ih =>
  intro k i h0 h1 hd hk
  obtain ⟨k, rfl⟩ : ∃ m, k = m + 1 := ⟨k - 1, by omega⟩
  simp only [skiffref1_full.l0]
  have hl : (List.replicate i.toNat (255 : Int) ++ List.replicate (n - i).toNat 0).length = n.toNat := by simp; omega
  rw [if_pos (by omega), if_pos h0, if_pos (by rw [hl]; omega), wrap_id (by omega)]
  have e : (List.replicate i.toNat (255 : Int) ++ List.replicate (n - i).toNat 0).set i.toNat 255 = List.replicate (i + 1).toNat 255 ++ List.replicate (n - (i + 1)).toNat 0 := by
   rw [show (n - i).toNat = (n - (i + 1)).toNat + 1 by omega, List.replicate_succ, show (i + 1).toNat = i.toNat + 1 by omega, List.replicate_succ']
   rw [List.set_append_right _ _ (by simp)]
   simp
  rw [e]
  exact ih k (i + 1) (by omega) (by omega) (by omega) (by omega)
theorem full_ev (n : Int) (h0 : 0 ≤ n) (hn : n ≤ 1000) : Ev (fun k => skiffref1_full.f k n) (ff n.toNat) := by
 refine Ev.of (fun k => skiffref1_full.mono _ _) (k := n.toNat + 1) ?_
 unfold skiffref1_full.f
 rw [if_pos h0, if_pos (by omega)]
 have := full_go n hn n.toNat (n.toNat + 1) 0 (by omega) h0 (by omega) (by omega)
 simpa using this
theorem ref_Worn_ev (f : ByteArray) (s m : Int) (hf : f.size = 768) (h0 : 0 ≤ s) (h1 : s < 8) (h2 : 0 ≤ m) (h3 : m ≤ 96) : Ev (fun k => skiffref1_Worn.f k f s m) (wornF f s.toNat m.toNat, 0) := by
 unfold skiffref1_Worn.f skiffref1_FlashMay.f
 simp only [Option.bind_some, hf, upTo_eq]
 have e1 : decide (0 ≤ s ∧ s ≤ 7) = true := by simp; omega
 have e2 : decide (0 ≤ m ∧ m ≤ 96) = true := by simp; omega
 have e3 : ((768 : Nat) : Int) == 768 := rfl
 simp only [e1, e2, e3, if_true]
 have w1 : wrap64 (s * 96) = s * 96 := wrap_id (by omega)
 have w2 : wrap64 (s * 96 + m) = s * 96 + m := wrap_id (by omega)
 simp only [w1, w2, if_pos (show 0 ≤ s * 96 by omega), if_pos (show s * 96 ≤ ((768 : Nat) : Int) by omega)]
 refine Ev.bind (full_ev m h2 (by omega)) ?_
 have s1 : (f.extract 0 (s * 96).toNat).size = (s * 96).toNat := by rw [ByteArray.size_extract]; omega
 have s2 : (f.extract (s * 96 + m).toNat 768).size = 768 - (s * 96 + m).toNat := by rw [ByteArray.size_extract]; omega
 refine Ev.always fun k => ?_
 rw [if_pos (by rw [s1, ff_size]; omega), if_pos (by omega), if_pos (by omega), if_pos (by rw [ByteArray.size_append, s1, s2, ff_size]; omega)]
 unfold wornF sp
 rw [ff_size, hf, show (s * 96).toNat = s.toNat * 96 by omega, show (s * 96 + m).toNat = s.toNat * 96 + m.toNat by omega]
end Go.Proofs.Ytjadcjkjpkkmkaa.M

/- Plain facts: what the program's entry.Get and the reference's GetEntry answer for every string: the same; no memory in sight. -/
set_option linter.unnecessarySimpa false
set_option linter.unusedSimpArgs false
set_option linter.unusedVariables false
namespace Go.Proofs.Ytjadcjkjpkkmkaa.M
open Go.RowKit Go.Proofs.YtjadcjkjpkkmkaaW.PrintWords Go.Proofs.YtjadcjkjpkkmkaaW.PrintLast Go.Proofs.YtjadcjkjpkkmkaaW.PrintMore Go.Proofs.Ytjadcjkjpkkmkaa.Hand Go.Proofs.Ytjadcjkjpkkmkaa.PAll
theorem wraps_i64 (n : Int) (h₀ : 0 ≤ n) (h₁ : n < 2 ^ 62) : IntKind.i64.wrap n = n := by rw [IntKind.wrap_i64]; omega
theorem or_step (x b : Int) (h0 : 0 ≤ x) (h1 : x < 1099511627776) (h2 : 0 ≤ b) (h3 : b < 256) : Go.bits .or .i64 (wrap64 (x * 256)) (wrap64 b) = x * 256 + b := by
 rw [show wrap64 (x * 256) = x * 256 by unfold wrap64; omega, show wrap64 b = b by unfold wrap64; omega]
 exact bits_join .i64 62 (by decide) wraps_i64 8 _ _ (by omega) (by omega) (by omega) h2 (by omega) (by omega)
theorem num_step (k : Nat) (s : ByteArray) (x : Int) (i : Nat) (hi : i < s.size) (hs : s.size < 1000) (h0 : 0 ≤ x) (h1 : x < 1099511627776) : PSc.entry_Num.l0 (k + 1) s x (i : Int) = PSc.entry_Num.l0 k s (x * 256 + bt s (i : Int)) ((i : Int) - 1) := by
 rw [PSc.entry_Num.l0, if_pos (by omega), if_pos (by omega), if_pos (by omega), or_step x _ h0 h1 (bt_u8 _ _).1 (bt_u8 _ _).2, show wrap64 ((i : Int) - 1) = (i : Int) - 1 by unfold wrap64; omega]
theorem num_end (k : Nat) (s : ByteArray) (x : Int) : PSc.entry_Num.l0 (k + 1) s x (-1) = some x := by rw [PSc.entry_Num.l0, if_neg (by omega)]
theorem of_step (k : Nat) (s : ByteArray) (x : Int) (i : Nat) (hi : i < s.size) (hs : s.size < 1000) (h0 : 0 ≤ x) (h1 : x < 1099511627776) : skiffref1_Of.l0 (k + 1) s x (i : Int) = skiffref1_Of.l0 k s (x * 256 + bt s (i : Int)) ((i : Int) - 1) := by
 rw [skiffref1_Of.l0, if_pos (by omega), if_pos (by omega), if_pos (by omega), or_step x _ h0 h1 (bt_u8 _ _).1 (bt_u8 _ _).2, show wrap64 ((i : Int) - 1) = (i : Int) - 1 by unfold wrap64; omega]
theorem of_end (k : Nat) (s : ByteArray) (x : Int) : skiffref1_Of.l0 (k + 1) s x (-1) = some x := by rw [skiffref1_Of.l0, if_neg (by omega)]
def n2 (s : ByteArray) (i : Nat) : Int := bt s i + 256 * bt s ((i + 1 : Nat) : Int)
def n4 (s : ByteArray) (i : Nat) : Int := bt s i + 256 * bt s ((i + 1 : Nat) : Int) + 65536 * bt s ((i + 2 : Nat) : Int) + 16777216 * bt s ((i + 3 : Nat) : Int)
theorem num4_eq (s : ByteArray) (h : s.size = 4) : PSc.entry_Num.f 6 s = some (n4 s 0) := by
 have b0 := bt_u8 s 0; have b1 := bt_u8 s 1; have b2 := bt_u8 s 2; have b3 := bt_u8 s 3
 unfold PSc.entry_Num.f
 rw [h]
 rw [show wrap64 (((4 : Nat) : Int) - 1) = ((3 : Nat) : Int) by unfold wrap64; omega]
 rw [num_step 5 s 0 3 (by omega) (by omega) (by omega) (by omega)]
 show PSc.entry_Num.l0 5 s (0 * 256 + bt s 3) ((2 : Nat) : Int) = _
 rw [num_step 4 s _ 2 (by omega) (by omega) (by omega) (by omega)]
 show PSc.entry_Num.l0 4 s ((0 * 256 + bt s 3) * 256 + bt s 2) ((1 : Nat) : Int) = _
 rw [num_step 3 s _ 1 (by omega) (by omega) (by omega) (by omega)]
 show PSc.entry_Num.l0 3 s (((0 * 256 + bt s 3) * 256 + bt s 2) * 256 + bt s 1) ((0 : Nat) : Int) = _
 rw [num_step 2 s _ 0 (by omega) (by omega) (by omega) (by omega)]
 show PSc.entry_Num.l0 2 s ((((0 * 256 + bt s 3) * 256 + bt s 2) * 256 + bt s 1) * 256 + bt s 0) (-1) = _
 rw [num_end]
 congr 1
 show _ = bt s 0 + 256 * bt s 1 + 65536 * bt s 2 + 16777216 * bt s 3
 omega
theorem num2_eq (s : ByteArray) (h : s.size = 2) : PSc.entry_Num.f 6 s = some (n2 s 0) := by
 have b0 := bt_u8 s 0; have b1 := bt_u8 s 1
 unfold PSc.entry_Num.f
 rw [h]
 rw [show wrap64 (((2 : Nat) : Int) - 1) = ((1 : Nat) : Int) by unfold wrap64; omega]
 rw [num_step 5 s _ 1 (by omega) (by omega) (by omega) (by omega)]
 show PSc.entry_Num.l0 5 s (0 * 256 + bt s 1) ((0 : Nat) : Int) = _
 rw [num_step 4 s _ 0 (by omega) (by omega) (by omega) (by omega)]
 show PSc.entry_Num.l0 4 s ((0 * 256 + bt s 1) * 256 + bt s 0) (-1) = _
 rw [num_end]
 congr 1
 show _ = bt s 0 + 256 * bt s 1
 omega
theorem of4_eq (s : ByteArray) (h : s.size = 4) : skiffref1_Of.f 6 s = some (n4 s 0) := by
 have b0 := bt_u8 s 0; have b1 := bt_u8 s 1; have b2 := bt_u8 s 2; have b3 := bt_u8 s 3
 unfold skiffref1_Of.f
 rw [h]
 rw [show wrap64 (((4 : Nat) : Int) - 1) = ((3 : Nat) : Int) by unfold wrap64; omega]
 rw [of_step 5 s 0 3 (by omega) (by omega) (by omega) (by omega)]
 show skiffref1_Of.l0 5 s (0 * 256 + bt s 3) ((2 : Nat) : Int) = _
 rw [of_step 4 s _ 2 (by omega) (by omega) (by omega) (by omega)]
 show skiffref1_Of.l0 4 s ((0 * 256 + bt s 3) * 256 + bt s 2) ((1 : Nat) : Int) = _
 rw [of_step 3 s _ 1 (by omega) (by omega) (by omega) (by omega)]
 show skiffref1_Of.l0 3 s (((0 * 256 + bt s 3) * 256 + bt s 2) * 256 + bt s 1) ((0 : Nat) : Int) = _
 rw [of_step 2 s _ 0 (by omega) (by omega) (by omega) (by omega)]
 show skiffref1_Of.l0 2 s ((((0 * 256 + bt s 3) * 256 + bt s 2) * 256 + bt s 1) * 256 + bt s 0) (-1) = _
 rw [of_end]
 congr 1
 show _ = bt s 0 + 256 * bt s 1 + 65536 * bt s 2 + 16777216 * bt s 3
 omega
theorem of2_eq (s : ByteArray) (h : s.size = 2) : skiffref1_Of.f 6 s = some (n2 s 0) := by
 have b0 := bt_u8 s 0; have b1 := bt_u8 s 1
 unfold skiffref1_Of.f
 rw [h]
 rw [show wrap64 (((2 : Nat) : Int) - 1) = ((1 : Nat) : Int) by unfold wrap64; omega]
 rw [of_step 5 s _ 1 (by omega) (by omega) (by omega) (by omega)]
 show skiffref1_Of.l0 5 s (0 * 256 + bt s 1) ((0 : Nat) : Int) = _
 rw [of_step 4 s _ 0 (by omega) (by omega) (by omega) (by omega)]
 show skiffref1_Of.l0 4 s ((0 * 256 + bt s 1) * 256 + bt s 0) (-1) = _
 rw [of_end]
 congr 1
 show _ = bt s 0 + 256 * bt s 1
 omega
theorem n4_extract (s : ByteArray) (i : Nat) (h : i + 4 ≤ s.size) : n4 (s.extract i (i + 4)) 0 = n4 s i := by
 unfold n4
 simp only [Nat.zero_add]
 rw [bt_extract s i (i + 4) 0 (by omega), bt_extract s i (i + 4) 1 (by omega), bt_extract s i (i + 4) 2 (by omega), bt_extract s i (i + 4) 3 (by omega), Nat.add_zero]
theorem n2_extract (s : ByteArray) (i : Nat) (h : i + 2 ≤ s.size) : n2 (s.extract i (i + 2)) 0 = n2 s i := by
 unfold n2
 simp only [Nat.zero_add]
 rw [bt_extract s i (i + 2) 0 (by omega), bt_extract s i (i + 2) 1 (by omega), Nat.add_zero]
/-- What stands in a place: the complements are right, and the record may be. -/
def getOk (s : ByteArray) : Prop := s.size = 24 ∧ (∀ i, i < 12 → bt s ((12 + i : Nat) : Int) = 255 - bt s ((i : Nat) : Int)) ∧ recMay (n4 s 0) (n2 s 4) (n2 s 6) (n4 s 8) = true
instance (s : ByteArray) : Decidable (getOk s) := by unfold getOk; exact inferInstance
def getV (s : ByteArray) : Int × Int × Int × Int × Int := if getOk s then (n4 s 0, n2 s 4, n2 s 6, n4 s 8, 0) else (0, 0, 0, 0, 400)
theorem complB_eq (b : Int) (h0 : 0 ≤ b) (h1 : b < 256) : complB b = 255 - b := by
 obtain ⟨n, rfl⟩ := Int.eq_ofNat_of_zero_le h0
 unfold complB
 rw [bits_xor_u8]
 have e : B (IntKind.u8.max) = BitVec.allOnes 8 := by decide
 rw [e, BitVec.allOnes_xor, BitVec.toNat_not]
 have e2 : (B (n : Int)).toNat = n := by simp [B]; omega
 rw [e2]; omega
theorem bytesOf_getD (s : ByteArray) (i : Nat) (h : i < s.size) : (bytesOf s).getD i 0 = bt s (i : Int) := by
 have := rd_bytesOf s (i : Int)
 rw [← this]
 simp [rd]
theorem compl_bt (s : ByteArray) (i : Nat) (h : i < s.size) : bt (strOfNums ((bytesOf s).map complB)) i = 255 - bt s (i : Int) := by
 have b := bt_u8 s (i : Int)
 have hl : i < ((bytesOf s).map complB).length := by rw [List.length_map, bytesOf_length]; exact h
 have e : ((bytesOf s).map complB).getD i 0 = 255 - bt s (i : Int) := by
  have := bytesOf_getD s i h
  have hl2 : i < (bytesOf s).length := by rw [bytesOf_length]; exact h
  rw [List.getD_eq_getElem?_getD, List.getElem?_map, List.getElem?_eq_getElem hl2, Option.map_some, Option.getD_some]
  rw [List.getD_eq_getElem?_getD, List.getElem?_eq_getElem hl2, Option.getD_some] at this
  rw [this, complB_eq _ b.1 b.2]
 rw [bt_strOfNums _ _ hl (by rw [e]; omega) (by rw [e]; omega), e]
theorem compl_iff (s : ByteArray) (h : s.size = 24) : (strOfNums ((bytesOf (s.extract 0 12)).map complB) = s.extract 12 s.size) ↔ ∀ i, i < 12 → bt s ((12 + i : Nat) : Int) = 255 - bt s ((i : Nat) : Int) := by
 have z1 : (s.extract 0 12).size = 12 := by rw [ByteArray.size_extract]; omega
 have z2 : (s.extract 12 s.size).size = 12 := by rw [ByteArray.size_extract]; omega
 constructor
 ·intro e i hi
  have e1 := compl_bt (s.extract 0 12) i (by omega)
  rw [e, bt_extract s 12 s.size i (by omega), bt_extract s 0 12 i (by omega), Nat.zero_add] at e1
  exact e1
 ·intro e
  apply bt_ext
  ·rw [strOfNums_size', List.length_map, bytesOf_length, z1, z2]
  ·intro i hi
   rw [strOfNums_size', List.length_map, bytesOf_length, z1] at hi
   rw [compl_bt _ _ (by omega), bt_extract s 12 s.size i (by omega), bt_extract s 0 12 i (by omega), Nat.zero_add, e i hi]
theorem in_eq (a b c : Int) : PSc.entry_in.f a b c = some (decide (b ≤ a ∧ a ≤ c)) := by
 unfold PSc.entry_in.f
 by_cases h1 : a ≥ b
 ·simp [h1, show b ≤ a from h1]
 ·simp [h1, show ¬ b ≤ a from h1]
theorem May_eq (q sl sz sm : Int) : PSc.entry_May.f q sl sz sm = some (recMay q sl sz sm) := by
 unfold PSc.entry_May.f PSc.entry_Slot.f PSc.entry_Size.f recMay
 simp only [in_eq, Option.bind_some]
 by_cases h1 : 1 ≤ q ∧ q ≤ 1048576
 ·by_cases h2 : 0 ≤ sl ∧ sl ≤ 1
  ·by_cases h3 : 1 ≤ sz ∧ sz ≤ 288
   ·simp [h1, h2, h3]
   ·rw [if_pos (by simpa using h1), if_pos (by simpa using h2), if_neg (by simpa using h3)]; congr 1; symm; rw [decide_eq_false_iff_not]; omega
  ·rw [if_pos (by simpa using h1), if_neg (by simpa using h2)]; congr 1; symm; rw [decide_eq_false_iff_not]; omega
 ·rw [if_neg (by simpa using h1)]; congr 1; symm; rw [decide_eq_false_iff_not]; omega
theorem Get_at (s : ByteArray) : PSc.entry_Get.f 7 s = some (getV s) := by
 unfold PSc.entry_Get.f
 by_cases h : s.size = 24
 ·rw [if_pos (by omega), if_pos (by omega), if_pos (by omega)]
  have z1 : (s.extract 0 12).size = 12 := by rw [ByteArray.size_extract]; omega
  have e0 : entry_complement.f (s.extract 0 12) = some (strOfNums ((bytesOf (s.extract 0 12)).map complB)) := by unfold entry_complement.f; rw [if_pos (by omega)]
  rw [e0, Option.bind_some, PSc.entry_Get.j0]
  by_cases hc : strOfNums ((bytesOf (s.extract 0 12)).map complB) = s.extract 12 s.size
  ·rw [hc, bne_self_eq_false, if_neg (by decide), if_pos (by omega), if_pos (by omega), num4_eq _ (by rw [ByteArray.size_extract]; omega), Option.bind_some, if_pos (by omega), if_pos (by omega), num2_eq _ (by rw [ByteArray.size_extract]; omega), Option.bind_some,
    if_pos (by omega), if_pos (by omega), num2_eq _ (by rw [ByteArray.size_extract]; omega), Option.bind_some, if_pos (by omega), if_pos (by omega), num4_eq _ (by rw [ByteArray.size_extract]; omega), Option.bind_some, May_eq, Option.bind_some]
   rw [n4_extract s 0 (by omega), n2_extract s 4 (by omega), n2_extract s 6 (by omega), n4_extract s 8 (by omega)]
   unfold getV
   by_cases hm : recMay (n4 s 0) (n2 s 4) (n2 s 6) (n4 s 8) = true
   ·rw [if_pos hm, if_pos ⟨h, (compl_iff s h).1 hc, hm⟩]
   ·rw [if_neg hm, if_neg (fun x => hm x.2.2)]
  ·have hb : (ByteArray.toList (strOfNums ((bytesOf (s.extract 0 12)).map complB)) != ByteArray.toList (s.extract 12 s.size)) = true := by
    rw [bne_iff_ne]; intro x; exact hc (toList_inj.1 x)
   rw [hb, if_pos rfl]
   unfold getV
   rw [if_neg (fun x => hc ((compl_iff s h).2 x.2.1))]
 ·rw [if_neg (by omega), PSc.entry_Get.j0, if_pos rfl]
  unfold getV
  rw [if_neg (fun x => h x.1)]
theorem Get_ev (s : ByteArray) : Ev (fun k => PSc.entry_Get.f k s) (getV s) := Ev.of (fun k => PSc.entry_Get.mono s k) (Get_at s)
theorem lb_n4 (s : ByteArray) (i : Nat) : lb (n4 s i) 0 = bt s (i : Int) ∧ lb (n4 s i) 1 = bt s ((i + 1 : Nat) : Int) ∧ lb (n4 s i) 2 = bt s ((i + 2 : Nat) : Int) ∧ lb (n4 s i) 3 = bt s ((i + 3 : Nat) : Int) := by
 have b0 := bt_u8 s (i : Int); have b1 := bt_u8 s ((i + 1 : Nat) : Int); have b2 := bt_u8 s ((i + 2 : Nat) : Int); have b3 := bt_u8 s ((i + 3 : Nat) : Int)
 unfold lb n4
 simp only [Nat.mul_zero, Nat.mul_one, show 8 * 2 = 16 from rfl, show 8 * 3 = 24 from rfl, show (2 : Int) ^ 0 = 1 from rfl, show (2 : Int) ^ 8 = 256 from rfl, show (2 : Int) ^ 16 = 65536 from rfl, show (2 : Int) ^ 24 = 16777216 from rfl]
 omega
theorem lb_n2 (s : ByteArray) (i : Nat) : lb (n2 s i) 0 = bt s (i : Int) ∧ lb (n2 s i) 1 = bt s ((i + 1 : Nat) : Int) := by
 have b0 := bt_u8 s (i : Int); have b1 := bt_u8 s ((i + 1 : Nat) : Int)
 unfold lb n2
 simp only [Nat.mul_zero, Nat.mul_one, show (2 : Int) ^ 0 = 1 from rfl, show (2 : Int) ^ 8 = 256 from rfl]
 omega
theorem ent_bt (q sl sz sm : Int) (i : Nat) (h : i < 12) : bt (ent q sl sz sm) ((i : Nat) : Int) = (entL q sl sz sm).getD i 0 ∧ bt (ent q sl sz sm) ((12 + i : Nat) : Int) = 255 - (entL q sl sz sm).getD i 0 := by
 have r : ∀ j, j < 12 → 0 ≤ (entL q sl sz sm).getD j 0 ∧ (entL q sl sz sm).getD j 0 < 256 := by
  intro j hj
  match j, hj with
  | 0, _ => exact lb_range _ _
  | 1, _ => exact lb_range _ _
  | 2, _ => exact lb_range _ _
  | 3, _ => exact lb_range _ _
  | 4, _ => exact lb_range _ _
  | 5, _ => exact ⟨Int.le_refl 0, (by decide : (0 : Int) < 256)⟩
  | 6, _ => exact lb_range _ _
  | 7, _ => exact lb_range _ _
  | 8, _ => exact lb_range _ _
  | 9, _ => exact lb_range _ _
  | 10, _ => exact lb_range _ _
  | 11, _ => exact lb_range _ _
 have hl : (entL q sl sz sm).length = 12 := rfl
 have e1 : (entL q sl sz sm ++ (entL q sl sz sm).map fun x => (255 - x) % 256).getD i 0 = (entL q sl sz sm).getD i 0 := by
  rw [List.getD_eq_getElem?_getD, List.getElem?_append_left (by omega), ← List.getD_eq_getElem?_getD]
 have e2 : (entL q sl sz sm ++ (entL q sl sz sm).map fun x => (255 - x) % 256).getD (12 + i) 0 = 255 - (entL q sl sz sm).getD i 0 := by
  have := r i h
  rw [List.getD_eq_getElem?_getD, List.getElem?_append_right (by omega), hl, show 12 + i - 12 = i by omega, List.getElem?_map]
  rw [List.getD_eq_getElem?_getD] at this ⊢
  rw [List.getElem?_eq_getElem (by omega)] at this ⊢
  simp only [Option.map_some, Option.getD_some] at this ⊢
  omega
 have := r i h
 unfold ent
 constructor
 ·rw [bt_strOfNums _ _ (by simp [hl]; omega) (by rw [e1]; omega) (by rw [e1]; omega), e1]
 ·rw [bt_strOfNums _ _ (by simp [hl]; omega) (by rw [e2]; omega) (by rw [e2]; omega), e2]
/-- The reference's way to say it: put again, it is the same. -/
theorem getOk_iff (s : ByteArray) (h : s.size = 24) : getOk s ↔ recMay (n4 s 0) (bt s ((4 : Nat) : Int)) (n2 s 6) (n4 s 8) = true ∧ ent (n4 s 0) (bt s ((4 : Nat) : Int)) (n2 s 6) (n4 s 8) = s := by
 have q0 := lb_n4 s 0; have q6 := lb_n2 s 6; have q8 := lb_n4 s 8
 have b4 := bt_u8 s ((4 : Nat) : Int); have b5 := bt_u8 s ((5 : Nat) : Int)
 have l4 : lb (bt s ((4 : Nat) : Int)) 0 = bt s ((4 : Nat) : Int) := by unfold lb; simp only [Nat.mul_zero, show (2 : Int) ^ 0 = 1 from rfl]; omega
 have e12 : entL (n4 s 0) (bt s ((4 : Nat) : Int)) (n2 s 6) (n4 s 8) = [bt s ((0 : Nat) : Int), bt s ((1 : Nat) : Int), bt s ((2 : Nat) : Int), bt s ((3 : Nat) : Int), bt s ((4 : Nat) : Int), 0, bt s ((6 : Nat) : Int), bt s ((7 : Nat) : Int), bt s ((8 : Nat) : Int), bt s ((9 : Nat) : Int), bt s ((10 : Nat) : Int), bt s ((11 : Nat) : Int)] := by
  unfold entL
  rw [q0.1, q0.2.1, q0.2.2.1, q0.2.2.2, q6.1, q6.2, q8.1, q8.2.1, q8.2.2.1, q8.2.2.2, l4]
 constructor
 ·rintro ⟨_, hc, hm⟩
  have z5 : bt s ((5 : Nat) : Int) = 0 := by
   unfold recMay at hm
   have := of_decide_eq_true hm
   have e : n2 s 4 = bt s ((4 : Nat) : Int) + 256 * bt s ((5 : Nat) : Int) := rfl
   omega
  have e2 : n2 s 4 = bt s ((4 : Nat) : Int) := by
   have e : n2 s 4 = bt s ((4 : Nat) : Int) + 256 * bt s ((5 : Nat) : Int) := rfl
   omega
  refine ⟨by rw [← e2]; exact hm, ?_⟩
  have low : ∀ j, j < 12 → (entL (n4 s 0) (bt s ((4 : Nat) : Int)) (n2 s 6) (n4 s 8)).getD j 0 = bt s ((j : Nat) : Int) := by
   intro j hj
   rw [e12]
   match j, hj with
   | 0, _ => rfl
   | 1, _ => rfl
   | 2, _ => rfl
   | 3, _ => rfl
   | 4, _ => rfl
   | 5, _ => exact z5.symm
   | 6, _ => rfl
   | 7, _ => rfl
   | 8, _ => rfl
   | 9, _ => rfl
   | 10, _ => rfl
   | 11, _ => rfl
  apply bt_ext
  ·rw [ent_size, h]
  ·intro i hi
   rw [ent_size] at hi
   by_cases c : i < 12
   ·rw [(ent_bt _ _ _ _ i c).1, low i c]
   ·obtain ⟨j, rfl⟩ : ∃ j, i = 12 + j := ⟨i - 12, by omega⟩
    rw [(ent_bt _ _ _ _ j (by omega)).2, low j (by omega), hc j (by omega)]
 ·rintro ⟨hm, he⟩
  have low : ∀ j, j < 12 → bt s ((j : Nat) : Int) = (entL (n4 s 0) (bt s ((4 : Nat) : Int)) (n2 s 6) (n4 s 8)).getD j 0 := by
   intro j hj
   have := (ent_bt (n4 s 0) (bt s ((4 : Nat) : Int)) (n2 s 6) (n4 s 8) j hj).1
   rw [he] at this
   exact this
  have z5 : bt s ((5 : Nat) : Int) = 0 := (low 5 (by omega)).trans (by rw [e12]; rfl)
  have e2 : n2 s 4 = bt s ((4 : Nat) : Int) := by
   have e : n2 s 4 = bt s ((4 : Nat) : Int) + 256 * bt s ((5 : Nat) : Int) := rfl
   omega
  refine ⟨h, fun i hi => ?_, by rw [e2]; exact hm⟩
  have := (ent_bt (n4 s 0) (bt s ((4 : Nat) : Int)) (n2 s 6) (n4 s 8) i hi).2
  rw [he] at this
  rw [this, low i hi]
theorem GetEntry_at (s : ByteArray) : skiffref1_GetEntry.f 6 s = some (getV s) := by
 unfold skiffref1_GetEntry.f
 by_cases h : s.size = 24
 ·rw [if_pos (by omega), if_pos (by omega), if_pos (by omega), of4_eq _ (by rw [ByteArray.size_extract]; omega), Option.bind_some, if_pos (by omega), if_pos (by omega), if_pos (by omega), of2_eq _ (by rw [ByteArray.size_extract]; omega), Option.bind_some,
   if_pos (by omega), if_pos (by omega), of4_eq _ (by rw [ByteArray.size_extract]; omega), Option.bind_some, PutEntry_at _ _ _ _ 6 rfl, Option.bind_some]
  rw [n4_extract s 0 (by omega), n2_extract s 6 (by omega), n4_extract s 8 (by omega)]
  have b4 := bt_u8 s ((4 : Nat) : Int)
  have w4 : wrap64 (bt s 4) = bt s ((4 : Nat) : Int) := by show wrap64 (bt s ((4 : Nat) : Int)) = _; unfold wrap64; omega
  rw [w4]
  unfold getV
  by_cases hm : recMay (n4 s 0) (bt s ((4 : Nat) : Int)) (n2 s 6) (n4 s 8) = true
  ·rw [if_pos hm, if_pos rfl]
   by_cases he : ent (n4 s 0) (bt s ((4 : Nat) : Int)) (n2 s 6) (n4 s 8) = s
   ·have ok := (getOk_iff s h).2 ⟨hm, he⟩
    have e2 : n2 s 4 = bt s ((4 : Nat) : Int) := by
     have e : n2 s 4 = bt s ((4 : Nat) : Int) + 256 * bt s ((5 : Nat) : Int) := rfl
     have hm2 := of_decide_eq_true ok.2.2
     have b5 := bt_u8 s ((5 : Nat) : Int)
     omega
    rw [if_pos (by rw [he]), if_pos ok, e2]
   ·rw [if_neg (fun x => he (toList_inj.1 x)), if_neg (fun x => he ((getOk_iff s h).1 x).2)]
  ·rw [if_neg hm, if_neg (by decide), if_neg (fun x => hm ((getOk_iff s h).1 x).1)]
 ·rw [if_neg (by omega)]
  unfold getV
  rw [if_neg (fun x => h x.1)]
theorem GetEntry_ev (s : ByteArray) : Ev (fun k => skiffref1_GetEntry.f k s) (getV s) := Ev.of (fun k => skiffref1_GetEntry.mono s k) (GetEntry_at s)
/-- A record that was put is found. -/
theorem getV_ent (q sl sz sm : Int) (h : recMay q sl sz sm = true) : getV (ent q sl sz sm) = (q, sl, sz, sm, 0) := by
 have hm := of_decide_eq_true h
 have lo : ∀ j, j < 12 → bt (ent q sl sz sm) ((j : Nat) : Int) = (entL q sl sz sm).getD j 0 := fun j hj => (ent_bt q sl sz sm j hj).1
 have e0 : n4 (ent q sl sz sm) 0 = q := by
  unfold n4
  rw [lo 0 (by omega), lo (0 + 1) (by omega), lo (0 + 2) (by omega), lo (0 + 3) (by omega)]
  show lb q 0 + 256 * lb q 1 + 65536 * lb q 2 + 16777216 * lb q 3 = q
  unfold lb
  simp only [Nat.mul_zero, Nat.mul_one, show 8 * 2 = 16 from rfl, show 8 * 3 = 24 from rfl, show (2 : Int) ^ 0 = 1 from rfl, show (2 : Int) ^ 8 = 256 from rfl, show (2 : Int) ^ 16 = 65536 from rfl, show (2 : Int) ^ 24 = 16777216 from rfl]
  omega
 have e8 : n4 (ent q sl sz sm) 8 = sm := by
  unfold n4
  rw [lo 8 (by omega), lo (8 + 1) (by omega), lo (8 + 2) (by omega), lo (8 + 3) (by omega)]
  show lb sm 0 + 256 * lb sm 1 + 65536 * lb sm 2 + 16777216 * lb sm 3 = sm
  unfold lb
  simp only [Nat.mul_zero, Nat.mul_one, show 8 * 2 = 16 from rfl, show 8 * 3 = 24 from rfl, show (2 : Int) ^ 0 = 1 from rfl, show (2 : Int) ^ 8 = 256 from rfl, show (2 : Int) ^ 16 = 65536 from rfl, show (2 : Int) ^ 24 = 16777216 from rfl]
  omega
 have e4 : n2 (ent q sl sz sm) 4 = sl := by
  unfold n2
  rw [lo 4 (by omega), lo (4 + 1) (by omega)]
  show lb sl 0 + 256 * 0 = sl
  unfold lb
  simp only [Nat.mul_zero, show (2 : Int) ^ 0 = 1 from rfl]
  omega
 have e6 : n2 (ent q sl sz sm) 6 = sz := by
  unfold n2
  rw [lo 6 (by omega), lo (6 + 1) (by omega)]
  show lb sz 0 + 256 * lb sz 1 = sz
  unfold lb
  simp only [Nat.mul_zero, Nat.mul_one, show (2 : Int) ^ 0 = 1 from rfl, show (2 : Int) ^ 8 = 256 from rfl]
  omega
 unfold getV
 have ok : getOk (ent q sl sz sm) := ⟨ent_size q sl sz sm, fun i hi => by rw [(ent_bt q sl sz sm i hi).2, lo i hi], by rw [e0, e4, e6, e8]; exact h⟩
 rw [if_pos ok, e0, e4, e6, e8]
end Go.Proofs.Ytjadcjkjpkkmkaa.M

/- Plain facts: what a step of flash makes of it, cut or whole, by the program and by the reference; no memory in sight. -/
set_option linter.unnecessarySimpa false
set_option linter.unusedSimpArgs false
set_option linter.unusedVariables false
namespace Go.Proofs.Ytjadcjkjpkkmkaa.M
open Go.RowKit Go.Proofs.YtjadcjkjpkkmkaaW.PrintWords Go.Proofs.YtjadcjkjpkkmkaaW.PrintLast Go.Proofs.YtjadcjkjpkkmkaaW.PrintMore Go.Proofs.Ytjadcjkjpkkmkaa.Hand Go.Proofs.Ytjadcjkjpkkmkaa.PAll
/-- As much of a step as is told. -/
def doF (f : ByteArray) (e : Bool) (a : Int) (t : ByteArray) (cut : Int) : ByteArray := if e = true then wornF f (a.toNat / 96) cut.toNat else tornF f a.toNat t (mn cut 32)
def cutOk (f : ByteArray) (e : Bool) (a : Int) (t : ByteArray) (cut : Int) : Prop := f.size = 768 ∧ opMay e a t = true ∧ 0 ≤ cut ∧ cut ≤ 96
instance (f : ByteArray) (e : Bool) (a : Int) (t : ByteArray) (cut : Int) : Decidable (cutOk f e a t cut) := by unfold cutOk; exact inferInstance
def cutV (f : ByteArray) (e : Bool) (a : Int) (t : ByteArray) (cut : Int) : ByteArray × Int := if cutOk f e a t cut then (doF f e a t cut, 0) else (⟨#[]⟩, 300)
theorem opMay_true {a : Int} {t : ByteArray} (h : opMay true a t = true) : 0 ≤ a ∧ a ≤ 672 ∧ a % 96 = 0 ∧ t.size = 0 := by
 unfold opMay at h; rw [if_pos rfl] at h; exact of_decide_eq_true h
theorem opMay_false {a : Int} {t : ByteArray} (h : opMay false a t = true) : 0 ≤ a ∧ a ≤ 764 ∧ a % 4 = 0 ∧ t.size = 4 := by
 unfold opMay at h; rw [if_neg (by decide)] at h; exact of_decide_eq_true h
theorem mn32 (cut : Int) (h0 : 0 ≤ cut) : 0 ≤ mn cut 32 ∧ mn cut 32 ≤ 32 := by unfold mn; split <;> omega
theorem ref_Torn_eq (f : ByteArray) (a : Int) (t : ByteArray) (m : Int) (hf : f.size = 768) (ha : 0 ≤ a ∧ a ≤ 764 ∧ a % 4 = 0 ∧ t.size = 4) (h0 : 0 ≤ m) (h1 : m ≤ 32) : skiffref1_Torn.f f a t m = some (tornF f a.toNat t m, 0) := by
 unfold skiffref1_Torn.f
 rw [if_pos (by omega), if_pos (by omega), if_pos (by omega), if_pos (by rw [Int.tmod_eq_emod_of_nonneg ha.1]; exact ha.2.2.1), if_pos (by omega), if_pos (by omega), if_pos (by omega), rtornF_eq f a.toNat t m (by omega) h0 h1]
theorem ref_Cut_no (f : ByteArray) (e : Bool) (a : Int) (t : ByteArray) (cut : Int) : Ev (fun k => skiffref1_Cut.j0 k f cut true e a t) (⟨#[]⟩, 300) :=
 Ev.one fun k => by simp only [skiffref1_Cut.j0, if_true]
theorem ref_Cut_ev (f : ByteArray) (e : Bool) (a : Int) (t : ByteArray) (cut : Int) : Ev (fun k => skiffref1_Cut.f k f e a t cut) (cutV f e a t cut) := by
 unfold skiffref1_Cut.f skiffref1_FlashMay.f
 simp only [Option.bind_some, ref_OpMay_eq e a t, upTo_eq]
 by_cases h1 : f.size = 768
 ·have e1 : ((f.size : Int) == 768) = true := by simp; omega
  simp only [e1, if_true]
  cases h2 : opMay e a t with
  | false =>
   simp only [Bool.false_eq_true, if_false]
   unfold cutV
   rw [if_neg (by unfold cutOk; rw [h2]; simp)]
   exact ref_Cut_no f e a t cut
  | true =>
   simp only [if_true]
   by_cases h4 : 0 ≤ cut ∧ cut ≤ 96
   ·have e4 : decide (0 ≤ cut ∧ cut ≤ 96) = true := by simpa using h4
    simp only [e4, Bool.not_true]
    unfold cutV
    rw [if_pos ⟨h1, h2, h4.1, h4.2⟩]
    cases e with
    | true =>
     obtain ⟨m0, m1, m2, m3⟩ := opMay_true h2
     have hw : wrap64 (Int.tdiv a 96) = a / 96 := by rw [Int.tdiv_eq_ediv_of_nonneg m0]; exact wrap_id (by omega)
     refine Ev.step (f := fun k => (skiffref1_Worn.f k f (a / 96) cut).bind fun bt345 => (some (bt345.1, bt345.2))) (fun k => by simp only [skiffref1_Cut.j0, Bool.false_eq_true, if_false, if_true, hw]) ?_
     refine Ev.bind (ref_Worn_ev f (a / 96) cut h1 (by omega) (by omega) h4.1 h4.2) (Ev.always fun k => ?_)
     unfold doF
     rw [if_pos rfl, show (a / 96).toNat = a.toNat / 96 by omega]
    | false =>
     have hm := opMay_false h2
     have hc := mn32 cut h4.1
     refine Ev.one fun k => ?_
     simp only [skiffref1_Cut.j0, Bool.false_eq_true, if_false]
     rw [ref_Torn_eq f a t (mn cut 32) h1 hm hc.1 hc.2]
     rfl
   ·have e4 : decide (0 ≤ cut ∧ cut ≤ 96) = false := decide_eq_false h4
    simp only [e4, Bool.not_false]
    unfold cutV
    rw [if_neg (by unfold cutOk; omega)]
    exact ref_Cut_no f e a t cut
 ·have e1 : ((f.size : Int) == 768) = false := by simp; omega
  simp only [e1, Bool.false_eq_true, if_false]
  unfold cutV
  rw [if_neg (by unfold cutOk; omega)]
  exact ref_Cut_no f e a t cut
theorem ref_Do_ev (f : ByteArray) (e : Bool) (a : Int) (t : ByteArray) : Ev (fun k => skiffref1_Do.f k f e a t) (cutV f e a t 96) := by
 unfold skiffref1_Do.f
 exact Ev.bind (ref_Cut_ev f e a t 96) (Ev.always fun k => rfl)
theorem Blank_ev : Ev (fun k => skiffref1_Blank.f k) (ff 768) := by
 unfold skiffref1_Blank.f
 exact Ev.bind (full_ev 768 (by omega) (by omega)) (Ev.always fun k => rfl)
/-- Which bytes a step reaches. -/
def width (e : Bool) : Nat := if e = true then 96 else 4
end Go.Proofs.Ytjadcjkjpkkmkaa.M

/- Plain facts: the records of a flash, by the program and by the reference: the same; the first free place; no memory in sight. -/
set_option linter.unnecessarySimpa false
set_option linter.unusedSimpArgs false
set_option linter.unusedVariables false
namespace Go.Proofs.Ytjadcjkjpkkmkaa.M
open Go.RowKit Go.Proofs.YtjadcjkjpkkmkaaW.PrintWords Go.Proofs.YtjadcjkjpkkmkaaW.PrintLast Go.Proofs.YtjadcjkjpkkmkaaW.PrintMore Go.Proofs.Ytjadcjkjpkkmkaa.Hand Go.Proofs.Ytjadcjkjpkkmkaa.PAll
/-- The bytes of place j. -/
def pl (f : ByteArray) (j : Nat) : ByteArray := f.extract (24 * j) (24 * j + 24)
/-- What is told of one place. -/
def told (j : Nat) (g : Int × Int × Int × Int × Int) : List S25 := if g.2.2.2.2 = 0 then [⟨24 * (j : Int), ⟨g.1, g.2.1, g.2.2.1, g.2.2.2.1⟩⟩] else []
def scanL (f : ByteArray) : Nat → List S25
 | 0 => []
 | n + 1 => scanL f n ++ told n (getV (pl f n))
def scanV (f : ByteArray) : List S25 × Int := if f.size = 768 then (scanL f 8, 0) else ([], 500)
theorem told_length (j : Nat) (g : Int × Int × Int × Int × Int) : (told j g).length ≤ 1 := by unfold told; split <;> simp
theorem scanL_length (f : ByteArray) (n : Nat) : (scanL f n).length ≤ n := by
 induction n with
 | zero => simp [scanL]
 | succ n ih => have := told_length n (getV (pl f n)); simp only [scanL, List.length_append]; omega
theorem at_eq (f : ByteArray) (j : Nat) (hf : f.size = 768) (hj : j < 8) (a : Int) (ha : a = 24 * (j : Int)) : PSc.journal_at.f f a = some (pl f j) := by
 subst ha
 unfold PSc.journal_at.f
 have w : wrap64 (24 * (j : Int) + 24) = 24 * (j : Int) + 24 := wrap_id (by omega)
 rw [w, if_pos (by omega), if_pos (by omega), if_pos (by omega)]
 congr 2 <;> omega
def toSc (x : S25) : PSc.S25 := ⟨x.f0, ⟨x.f1.f0, x.f1.f1, x.f1.f2, x.f1.f3⟩⟩
theorem scan_go (f : ByteArray) (hf : f.size = 768) (d : Nat) : ∀ (j : Nat), j + d = 8 → Ev (fun k => PSc.journal_Scan.l0 k f ((scanL f j).map toSc) (j : Int)) ((scanL f 8).map toSc, 0) := by
 induction d with
 | zero =>
  intro j hj
  obtain rfl : j = 8 := by omega
  exact Ev.one fun k => by rw [PSc.journal_Scan.l0, if_neg (by omega)]
 | succ d ih =>
  intro j hj
  have h1 := ih (j + 1) (by omega)
  have w : wrap64 ((j : Int) + 1) = ((j + 1 : Nat) : Int) := by rw [wrap_id (by omega)]; omega
  refine Ev.step (f := fun k => (PSc.entry_Get.f k (pl f j)).bind fun bt339 => (if bt339.2.2.2.2 = 0 then (if ((scanL f j).map toSc).length < 3518437208883 then (PSc.journal_Scan.l0 k f ((scanL f j).map toSc ++ [(⟨24 * (j : Int), (⟨bt339.1, bt339.2.1, bt339.2.2.1, bt339.2.2.2.1⟩ : PSc.S23)⟩ : PSc.S25)]) ((j + 1 : Nat) : Int)) else (none)) else (PSc.journal_Scan.l0 k f ((scanL f j).map toSc) ((j + 1 : Nat) : Int)))) (fun k => ?_) ?_
  ·rw [PSc.journal_Scan.l0, if_pos (by omega), at_eq f j hf (by omega) _ (by rw [wrap_id (by omega)]; omega), Option.bind_some, w, wrap_id (x := (j : Int) * 24) (by omega), Int.mul_comm (j : Int) 24]
  ·refine Ev.bind (Get_ev (pl f j)) ?_
   have hl := scanL_length f j
   unfold scanL told at h1
   rw [List.map_append] at h1
   by_cases c : (getV (pl f j)).2.2.2.2 = 0
   ·rw [if_pos c] at h1
    simp only [if_pos c, if_pos (show ((scanL f j).map toSc).length < 3518437208883 by rw [List.length_map]; omega)]
    exact h1
   ·rw [if_neg c, List.map_nil, List.append_nil] at h1
    simp only [if_neg c]
    exact h1
theorem Scan_ev (f : ByteArray) : Ev (fun k => PSc.journal_Scan.f k f) ((scanV f).1.map toSc, (scanV f).2) := by
 unfold PSc.journal_Scan.f scanV PSc.nor_May.f
 by_cases h : f.size = 768
 ·have e : ((f.size : Int) == 768) = true := by simp; omega
  simp only [Option.bind_some, e, if_true, if_pos h]
  exact scan_go f h 8 0 rfl
 ·have e : ((f.size : Int) == 768) = false := by simp; omega
  simp only [Option.bind_some, e, if_neg h]
  exact Ev.now _
theorem rscan_go (f : ByteArray) (hf : f.size = 768) (s : Nat) (hs : s < 2) (r : List S25 × Int) (hn : Ev (fun k => skiffref1_Scan.l0 k f (scanL f (4 * s + 4)) ((s + 1 : Nat) : Int)) r) (d : Nat) :
  ∀ (j : Nat), j + d = 4 * s + 4 → 4 * s ≤ j → Ev (fun k => skiffref1_Scan.l1 k f (scanL f j) (s : Int) (24 * (j : Int))) r := by
 have w1 : wrap64 ((s : Int) + 1) = ((s + 1 : Nat) : Int) := by rw [wrap_id (by omega)]; omega
 have w2 : wrap64 (((s + 1 : Nat) : Int) * 96) = 96 * (s : Int) + 96 := by rw [wrap_id (by omega)]; omega
 induction d with
 | zero =>
  intro j hj _
  obtain rfl : j = 4 * s + 4 := by omega
  refine Ev.step (fun k => ?_) hn
  rw [skiffref1_Scan.l1, w1, w2, if_neg (by rw [wrap_id (by omega)]; omega)]
 | succ d ih =>
  intro j hj h4
  have h1 := ih (j + 1) (by omega) (by omega)
  have w : wrap64 (24 * (j : Int) + 24) = 24 * ((j + 1 : Nat) : Int) := by rw [wrap_id (by omega)]; omega
  refine Ev.step (f := fun k => (skiffref1_GetEntry.f k (pl f j)).bind fun bt361 => (if bt361.2.2.2.2 = 0 then (if (scanL f j).length < 3518437208883 then (skiffref1_Scan.l1 k f (scanL f j ++ [(⟨24 * (j : Int), (⟨bt361.1, bt361.2.1, bt361.2.2.1, bt361.2.2.2.1⟩ : S23)⟩ : S25)]) (s : Int) (24 * ((j + 1 : Nat) : Int))) else (none)) else (skiffref1_Scan.l1 k f (scanL f j) (s : Int) (24 * ((j + 1 : Nat) : Int))))) (fun k => ?_) ?_
  ·rw [skiffref1_Scan.l1, w1, w2, w, if_pos (by omega), if_pos (by omega), if_pos (by omega), if_pos (by omega), show f.extract (24 * (j : Int)).toNat (24 * ((j + 1 : Nat) : Int)).toNat = pl f j by unfold pl; congr 1 <;> omega]
  ·refine Ev.bind (GetEntry_ev (pl f j)) ?_
   have hl := scanL_length f j
   unfold scanL told at h1
   by_cases c : (getV (pl f j)).2.2.2.2 = 0
   ·rw [if_pos c] at h1
    simp only [if_pos c, if_pos (show (scanL f j).length < 3518437208883 by omega)]
    exact h1
   ·rw [if_neg c, List.append_nil] at h1
    simp only [if_neg c]
    exact h1
theorem rscan_all (f : ByteArray) (hf : f.size = 768) : Ev (fun k => skiffref1_Scan.l0 k f [] 0) (scanL f 8, 0) := by
 have e2 : Ev (fun k => skiffref1_Scan.l0 k f (scanL f 8) ((2 : Nat) : Int)) (scanL f 8, 0) := Ev.one fun k => by rw [skiffref1_Scan.l0, if_neg (by omega)]
 have e1 : Ev (fun k => skiffref1_Scan.l0 k f (scanL f 4) ((1 : Nat) : Int)) (scanL f 8, 0) :=
  Ev.step (fun k => by rw [skiffref1_Scan.l0, if_pos (by omega), show wrap64 (((1 : Nat) : Int) * 96) = 24 * ((4 : Nat) : Int) by unfold wrap64; omega]) (rscan_go f hf 1 (by omega) _ e2 4 4 (by omega) (by omega))
 exact Ev.step (fun k => by rw [skiffref1_Scan.l0, if_pos (by omega), show wrap64 ((0 : Int) * 96) = 24 * ((0 : Nat) : Int) by unfold wrap64; omega]; rfl) (rscan_go f hf 0 (by omega) _ e1 4 0 (by omega) (by omega))
theorem ref_Scan_ev (f : ByteArray) : Ev (fun k => skiffref1_Scan.f k f) (scanV f) := by
 unfold skiffref1_Scan.f scanV skiffref1_FlashMay.f
 by_cases h : f.size = 768
 ·have e : ((f.size : Int) == 768) = true := by simp; omega
  simp only [Option.bind_some, e, if_true, if_pos h]
  exact rscan_all f h
 ·have e : ((f.size : Int) == 768) = false := by simp; omega
  simp only [Option.bind_some, e, if_neg h]
  exact Ev.now _
/-- The first place from j on, of n, that is blank. -/
def freeL (f : ByteArray) (j : Nat) : Nat → Int × Bool × Int
 | 0 => (0, false, 0)
 | n + 1 => if pl f j = ff 24 then (24 * (j : Int), true, 0) else freeL f (j + 1) n
def freeV (f : ByteArray) (s : Int) : Int × Bool × Int := if f.size = 768 ∧ 0 ≤ s ∧ s < 2 then freeL f (4 * s.toNat) 4 else (0, false, 500)
theorem rfree_go (f : ByteArray) (hf : f.size = 768) (s : Nat) (hs : s < 2) (n : Nat) : ∀ (j : Nat), j + n = 4 * s + 4 → Ev (fun k => skiffref1_FreePlace.l0 k f (s : Int) (24 * (j : Int))) (freeL f j n) := by
 have w1 : wrap64 ((s : Int) + 1) = ((s + 1 : Nat) : Int) := by rw [wrap_id (by omega)]; omega
 have w2 : wrap64 (((s + 1 : Nat) : Int) * 96) = 96 * (s : Int) + 96 := by rw [wrap_id (by omega)]; omega
 induction n with
 | zero =>
  intro j hj
  obtain rfl : j = 4 * s + 4 := by omega
  exact Ev.one fun k => by rw [skiffref1_FreePlace.l0, w1, w2, if_neg (by rw [wrap_id (by omega)]; omega)]; rfl
 | succ n ih =>
  intro j hj
  have h1 := ih (j + 1) (by omega)
  have w : wrap64 (24 * (j : Int) + 24) = 24 * ((j + 1 : Nat) : Int) := by rw [wrap_id (by omega)]; omega
  refine Ev.step (f := fun k => (skiffref1_full.f k 24).bind fun t405 => (if (pl f j).toList = t405.toList then (some (24 * (j : Int), true, 0)) else (skiffref1_FreePlace.l0 k f (s : Int) (24 * ((j + 1 : Nat) : Int))))) (fun k => ?_) ?_
  ·rw [skiffref1_FreePlace.l0, w1, w2, w, if_pos (by omega), if_pos (by omega), if_pos (by omega), if_pos (by omega), show f.extract (24 * (j : Int)).toNat (24 * ((j + 1 : Nat) : Int)).toNat = pl f j by unfold pl; congr 1 <;> omega]
  ·refine Ev.bind (full_ev 24 (by omega) (by omega)) ?_
   unfold freeL
   by_cases c : pl f j = ff 24
   ·have e : (pl f j).toList = (ff (24 : Int).toNat).toList := by rw [c]; rfl
    simp only [if_pos c, if_pos e]; exact Ev.now _
   ·have e : ¬ (pl f j).toList = (ff (24 : Int).toNat).toList := fun x => c (toList_inj.1 x)
    simp only [if_neg c, if_neg e]; exact h1
theorem ref_Free_ev (f : ByteArray) (s : Int) : Ev (fun k => skiffref1_FreePlace.f k f s) (freeV f s) := by
 have no : Ev (fun k => skiffref1_FreePlace.j0 k f s true) (0, false, 500) := Ev.one fun k => by rw [skiffref1_FreePlace.j0, if_pos rfl]
 unfold skiffref1_FreePlace.f freeV skiffref1_FlashMay.f
 by_cases h : f.size = 768
 ·have e : ((f.size : Int) == 768) = true := by simp; omega
  simp only [Option.bind_some, e, if_true, upTo_eq]
  by_cases h1 : 0 ≤ s ∧ s ≤ 1
  ·rw [if_pos (by omega), decide_eq_true h1]
   obtain ⟨n, rfl⟩ := Int.eq_ofNat_of_zero_le h1.1
   exact Ev.step (fun k => by rw [skiffref1_FreePlace.j0, if_neg (by decide), wrap_id (x := (n : Int) * 96) (by omega), show (n : Int) * 96 = 24 * ((4 * n : Nat) : Int) by omega]) (rfree_go f h n (by omega) 4 (4 * n) rfl)
  ·rw [if_neg (by omega), decide_eq_false h1]
   exact no
 ·have e : ((f.size : Int) == 768) = false := by simp; omega
  simp only [Option.bind_some, e]
  rw [if_neg (by omega)]
  exact no
end Go.Proofs.Ytjadcjkjpkkmkaa.M

/- Plain facts: a text in words, by the program and by the reference: the same; no memory in sight. -/
set_option linter.unnecessarySimpa false
set_option linter.unusedSimpArgs false
set_option linter.unusedVariables false
namespace Go.Proofs.Ytjadcjkjpkkmkaa.M
open Go.RowKit Go.Proofs.YtjadcjkjpkkmkaaW.PrintWords Go.Proofs.YtjadcjkjpkkmkaaW.PrintLast Go.Proofs.YtjadcjkjpkkmkaaW.PrintMore Go.Proofs.Ytjadcjkjpkkmkaa.Hand Go.Proofs.Ytjadcjkjpkkmkaa.PAll
/-- Word i of a text: its four bytes from 4 i on, the last ones 255. -/
def wordAt (t : ByteArray) (i : Nat) : ByteArray := t.extract (4 * i) (4 * i + 4) ++ ff (4 - (t.size - 4 * i))
def many (t : ByteArray) : Nat := (t.size + 3) / 4
/-- A text in words. -/
def wl (a : Int) (t : ByteArray) (n : Nat) : List S87 := (List.range n).map fun (i : Nat) => (⟨false, a + 4 * (i : Int), wordAt t i⟩ : S87)
theorem wl_succ (a : Int) (t : ByteArray) (n : Nat) : wl a t (n + 1) = wl a t n ++ [⟨false, a + 4 * (n : Int), wordAt t n⟩] := by
 unfold wl; rw [List.range_succ, List.map_append]; rfl
theorem wl_length (a : Int) (t : ByteArray) (n : Nat) : (wl a t n).length = n := by simp [wl]
theorem wl_rd (a : Int) (t : ByteArray) (n i : Nat) (h : i < n) : rd_T87 (wl a t n) i = ⟨false, a + 4 * (i : Int), wordAt t i⟩ := by
 unfold rd_T87 wl
 simp [List.getD_eq_getElem?_getD, h]
theorem wordAt_size (t : ByteArray) (i : Nat) (h : 4 * i < t.size) : (wordAt t i).size = 4 := by
 unfold wordAt; rw [ByteArray.size_append, ByteArray.size_extract, ff_size]; omega
theorem wordAt_bt (t : ByteArray) (i j : Nat) (h : 4 * i < t.size) (hj : j < 4) : bt (wordAt t i) j = if 4 * i + j < t.size then bt t ((4 * i + j : Nat) : Int) else 255 := by
 have s1 : (t.extract (4 * i) (4 * i + 4)).size = min (4 * i + 4) t.size - 4 * i := by rw [ByteArray.size_extract]
 unfold wordAt
 rw [bt_append, s1]
 by_cases c : 4 * i + j < t.size
 ·rw [if_pos (by omega), if_pos c, bt_extract _ _ _ _ (by omega)]
 ·rw [if_neg (by omega), if_neg c, ff_bt _ _ (by omega)]
def wordsOk (a : Int) (t : ByteArray) : Prop := 0 ≤ a ∧ a ≤ 768 ∧ a % 4 = 0 ∧ (t.size : Int) ≤ 768 - a
instance (a : Int) (t : ByteArray) : Decidable (wordsOk a t) := by unfold wordsOk; exact inferInstance
def wordsV (a : Int) (t : ByteArray) : List S87 × Int := if wordsOk a t then (wl a t (many t), 0) else ([], 300)
theorem refwords_go (a : Int) (t u : ByteArray) (h0 : 0 ≤ a) (h1 : a ≤ 768) (ht : t.size ≤ 768) (hu : u.size = 4 * many t) (hut : ∀ i, i < many t → u.extract (4 * i) (4 * i + 4) = wordAt t i) (d : Nat) : ∀ (k i : Nat), i ≤ many t → many t - i = d → d < k →
  skiffref1_Words.l0 k a u (wl a t i) (4 * (i : Int)) = some (wl a t (many t), 0) := by
 have hmt : many t ≤ 192 := by unfold many; omega
 induction d with
 | zero =>
  intro k i hi hd hk
  obtain ⟨k, rfl⟩ : ∃ m, k = m + 1 := ⟨k - 1, by omega⟩
  obtain rfl : i = many t := by omega
  simp only [skiffref1_Words.l0]
  rw [if_neg (by omega)]
 | succ d ih =>
  intro k i hi hd hk
  obtain ⟨k, rfl⟩ : ∃ m, k = m + 1 := ⟨k - 1, by omega⟩
  simp only [skiffref1_Words.l0]
  have hw : wrap64 (4 * (i : Int) + 4) = 4 * (i : Int) + 4 := wrap_id (by omega)
  have hw2 : wrap64 (a + 4 * (i : Int)) = a + 4 * (i : Int) := wrap_id (by omega)
  rw [if_pos (by omega), if_pos (by omega), hw, hw2, if_pos (by omega), if_pos (by omega), if_pos (by rw [wl_length]; omega)]
  rw [show (4 * (i : Int)).toNat = 4 * i by omega, show (4 * (i : Int) + 4).toNat = 4 * i + 4 by omega, hut i (by omega)]
  have := ih k (i + 1) (by omega) (by omega) (by omega)
  rw [wl_succ, show 4 * ((i + 1 : Nat) : Int) = 4 * (i : Int) + 4 by omega] at this
  exact this
theorem ref_Words_no (a : Int) (t : ByteArray) : Ev (fun k => skiffref1_Words.j0 k a t true) ([], 300) := Ev.one fun k => by simp only [skiffref1_Words.j0, if_true]
theorem ref_Words_ev (a : Int) (t : ByteArray) (ha : I64 a) (ht : t.size ≤ 140737488351232) : Ev (fun k => skiffref1_Words.f k a t) (wordsV a t) := by
 unfold skiffref1_Words.f wordsV
 simp only [upTo_eq, Option.bind_some]
 by_cases h0 : 0 ≤ a ∧ a ≤ 768
 ·have e0 : decide (0 ≤ a ∧ a ≤ 768) = true := decide_eq_true h0
  simp only [e0, if_true]
  have hm : Int.tmod a 4 = a % 4 := Int.tmod_eq_emod_of_nonneg (by omega)
  simp only [hm]
  by_cases h2 : a % 4 = 0
  ·simp only [if_pos h2]
   have hw : wrap64 (768 - a) = 768 - a := wrap_id (by omega)
   simp only [hw]
   by_cases h3 : (t.size : Int) > 768 - a
   ·have e3 : decide ((t.size : Int) > 768 - a) = true := decide_eq_true h3
    simp only [e3]
    rw [if_neg (by unfold wordsOk; omega)]
    exact ref_Words_no a t
   ·have e3 : decide ((t.size : Int) > 768 - a) = false := decide_eq_false h3
    simp only [e3]
    rw [if_pos ⟨by omega, by omega, h2, by omega⟩]
    refine Ev.step (f := fun k => (skiffref1_full.f k ((4 - ((t.size : Int) % 4)) % 4)).bind fun t150 => (if t.size + t150.size ≤ 9223372036854775807 then (skiffref1_Words.l0 k a (t ++ t150) ([] : List (S87)) 0) else (none))) (fun k => by simp only [skiffref1_Words.j0, Bool.false_eq_true, if_false]) ?_
    refine Ev.bind (full_ev _ (by omega) (by omega)) ?_
    obtain ⟨p, hp⟩ : ∃ p : Nat, ((4 - ((t.size : Int) % 4)) % 4).toNat = p := ⟨_, rfl⟩
    rw [hp]
    have hpm : t.size + p = 4 * many t := by unfold many; omega
    simp only [ff_size, if_pos (show t.size + p ≤ 9223372036854775807 by omega)]
    refine Ev.of (fun k => (skiffref1_Words.mono_l k).2 _ _ _ _) (k := many t + 1) ?_
    have hu : (t ++ ff p).size = 4 * many t := by rw [ByteArray.size_append, ff_size]; omega
    have := refwords_go a t (t ++ ff p) (by omega) (by omega) (by omega) hu (fun i hi => ?_) (many t) (many t + 1) 0 (by omega) (by omega) (by omega)
    ·simpa [wl] using this
    ·have hlt : 4 * i < t.size := by unfold many at hi; omega
     apply bt_ext
     ·rw [wordAt_size t i hlt, ByteArray.size_extract, hu]; omega
     ·intro j hj
      rw [ByteArray.size_extract, hu] at hj
      rw [wordAt_bt t i j hlt (by omega), bt_extract _ _ _ _ (by omega), bt_append]
      by_cases c : 4 * i + j < t.size
      ·rw [if_pos c, if_pos c]
      ·rw [if_neg c, if_neg c, ff_bt _ _ (by omega)]
  ·simp only [if_neg h2]
   rw [if_neg (by unfold wordsOk; omega)]
   exact ref_Words_no a t
 ·have e0 : decide (0 ≤ a ∧ a ≤ 768) = false := decide_eq_false h0
  simp only [e0, Bool.false_eq_true, if_false]
  rw [if_neg (by unfold wordsOk; omega)]
  exact ref_Words_no a t
end Go.Proofs.Ytjadcjkjpkkmkaa.M

/- Plain facts: the flash of one record that the laws begin with; no memory in sight. -/
set_option linter.unnecessarySimpa false
set_option linter.unusedSimpArgs false
set_option linter.unusedVariables false
namespace Go.Proofs.Ytjadcjkjpkkmkaa.M
open Go.RowKit Go.Proofs.YtjadcjkjpkkmkaaW.PrintWords Go.Proofs.YtjadcjkjpkkmkaaW.PrintLast Go.Proofs.YtjadcjkjpkkmkaaW.PrintMore Go.Proofs.Ytjadcjkjpkkmkaa.Hand Go.Proofs.Ytjadcjkjpkkmkaa.PAll
theorem tn_all (j : Nat) (h : j < 4) : tn 32 j = 8 := by rw [tn_eq _ _ (by omega)]; omega
/-- The first m bytes of t stand from a on in a flash that is G elsewhere. -/
def onto (G : ByteArray) (a : Nat) (t : ByteArray) (m : Nat) (F : ByteArray) : Prop := F.size = 768 ∧ ∀ i : Nat, i < 768 → bt F i = if a ≤ i ∧ i < a + m ∧ i - a < t.size then bt t ((i - a : Nat) : Int) else bt G i
theorem onto_step (G : ByteArray) (a : Nat) (t F : ByteArray) (j : Nat) (h : onto G a t (4 * j) F) (hG : ∀ i, a ≤ i → i < a + 4 * many t → bt G ((i : Nat) : Int) = 255) (hj : j < many t) (hr : a + 4 * many t ≤ 768) : onto G a t (4 * (j + 1)) (tornF F (a + 4 * j) (wordAt t j) 32) := by
 obtain ⟨h1, h2⟩ := h
 have hj4 : 4 * j < t.size := by unfold many at hj; omega
 refine ⟨by rw [tornF_size _ _ _ _ (by omega)]; exact h1, fun i hi => ?_⟩
 rw [tornF_bt _ _ _ _ (by omega) i (by omega), h2 i hi]
 by_cases c : a + 4 * j ≤ i ∧ i < a + 4 * j + 4
 ·rw [if_pos c, if_neg (by omega), tn_all _ (by omega), hG i (by omega) (by omega), clr_blank _ (bt_u8 _ _).1 (bt_u8 _ _).2 8 rfl, wordAt_bt t j _ hj4 (by omega)]
  by_cases c2 : i - a < t.size
  ·rw [if_pos (by omega), if_pos (by omega)]; congr 1; omega
  ·rw [if_neg (by omega), if_neg (by omega)]
 ·rw [if_neg c]
  by_cases c2 : a ≤ i ∧ i < a + 4 * j ∧ i - a < t.size
  ·rw [if_pos c2, if_pos (by omega)]
  ·rw [if_neg c2, if_neg (by omega)]
/-- All steps, one behind the other. -/
def doL (F : ByteArray) (l : List S87) : ByteArray := l.foldl (fun F o => (cutV F o.f0 o.f1 o.f2 96).1) F
theorem doL_cons (F : ByteArray) (o : S87) (l : List S87) : doL F (o :: l) = doL (cutV F o.f0 o.f1 o.f2 96).1 l := rfl
theorem doL_at (F : ByteArray) (l : List S87) (i : Nat) (h : i < l.length) : doL F (l.drop i) = doL (cutV F (rd_T87 l i).f0 (rd_T87 l i).f1 (rd_T87 l i).f2 96).1 (l.drop (i + 1)) := by
 have e : rd_T87 l i = l[i] := by simp [rd_T87, List.getD_eq_getElem?_getD, List.getElem?_eq_getElem h]
 rw [List.drop_eq_getElem_cons h, doL_cons, e]
theorem doL_end (F : ByteArray) (l : List S87) : doL F (l.drop l.length) = F := by rw [List.drop_length]; rfl
theorem onto_all (G : ByteArray) (a : Nat) (t : ByteArray) (ha : a % 4 = 0) (hG : ∀ i, a ≤ i → i < a + 4 * many t → bt G ((i : Nat) : Int) = 255) (hr : a + 4 * many t ≤ 768) (d : Nat) :
  ∀ (j : Nat) (F : ByteArray), j + d = many t → onto G a t (4 * j) F → onto G a t (4 * many t) (doL F ((wl a t (many t)).drop j)) := by
 induction d with
 | zero =>
  intro j F hj h
  obtain rfl : j = many t := by omega
  have := doL_end F (wl a t (many t))
  rw [wl_length] at this
  rw [this]
  exact h
 | succ d ih =>
  intro j F hj h
  have hs := onto_step G a t F j h hG (by omega) hr
  have hjm : j < many t := by omega
  have hj4 : 4 * j < t.size := by unfold many at hjm; omega
  have ok : cutOk F false ((a : Int) + 4 * (j : Int)) (wordAt t j) 96 := by
   refine ⟨h.1, ?_, by omega, by omega⟩
   unfold opMay
   rw [if_neg (by decide), decide_eq_true_eq]
   have := wordAt_size t j hj4
   omega
  have hv : (cutV F false ((a : Int) + 4 * (j : Int)) (wordAt t j) 96).1 = tornF F (a + 4 * j) (wordAt t j) 32 := by
   unfold cutV
   rw [if_pos ok]
   unfold doF
   rw [if_neg (by decide)]
   show tornF F ((a : Int) + 4 * (j : Int)).toNat (wordAt t j) (mn 96 32) = _
   rw [show ((a : Int) + 4 * (j : Int)).toNat = a + 4 * j by omega]
   rfl
  rw [doL_at F _ j (by rw [wl_length]; omega), wl_rd _ _ _ _ (by omega)]
  show onto G a t (4 * many t) (doL (cutV F false ((a : Int) + 4 * (j : Int)) (wordAt t j) 96).1 ((wl a t (many t)).drop (j + 1)))
  rw [hv]
  exact ih (j + 1) _ (by omega) hs
/-- A text laid down at a place that is blank. -/
theorem lay (G : ByteArray) (a : Nat) (t : ByteArray) (hs : G.size = 768) (ha : a % 4 = 0) (hG : ∀ i, a ≤ i → i < a + 4 * many t → bt G ((i : Nat) : Int) = 255) (hr : a + 4 * many t ≤ 768) :
  (doL G (wl a t (many t))).size = 768 ∧ ∀ i : Nat, i < 768 → bt (doL G (wl a t (many t))) i = if a ≤ i ∧ i < a + t.size then bt t ((i - a : Nat) : Int) else bt G i := by
 have h0 : onto G a t (4 * 0) G := ⟨hs, fun i hi => by rw [if_neg (by omega)]⟩
 obtain ⟨h1, h2⟩ := onto_all G a t ha hG hr (many t) 0 G (by omega) h0
 rw [List.drop_zero] at h1 h2
 refine ⟨h1, fun i hi => ?_⟩
 rw [h2 i hi]
 have : t.size ≤ 4 * many t := by unfold many; omega
 by_cases c : a ≤ i ∧ i < a + t.size
 ·rw [if_pos c, if_pos (by omega)]
 ·rw [if_neg c, if_neg (by omega)]
/-- "ab", six times. -/
def ab : ByteArray := ⟨#[97, 98, 97, 98, 97, 98, 97, 98, 97, 98, 97, 98]⟩
def abSum : Int := 3146506012
theorem ab_crc : Ev (fun k => skiffref1_Crc.f k ab) abSum := Ev.of (fun k => skiffref1_Crc.mono ab k) (k := 200) (by kernel_rfl)
theorem ab_many : many ab = 3 := rfl
theorem ab_size : ab.size = 12 := rfl
def held1 : ByteArray := doL (ff 768) (wl (192 : Nat) ab (many ab))
theorem held1_size : held1.size = 768 := (lay (ff 768) 192 ab (ff_size 768) rfl (fun i h1 h2 => ff_bt 768 i (by rw [ab_many] at h2; omega)) (by rw [ab_many]; omega)).1
theorem held1_bt (i : Nat) (hi : i < 768) : bt held1 i = if 192 ≤ i ∧ i < 204 then bt ab ((i - 192 : Nat) : Int) else 255 := by
 have := (lay (ff 768) 192 ab (ff_size 768) rfl (fun i h1 h2 => ff_bt 768 i (by rw [ab_many] at h2; omega)) (by rw [ab_many]; omega)).2 i hi
 rw [ab_size, ff_bt _ _ hi] at this
 exact this
def rec1 : ByteArray := ent 1 0 12 abSum
theorem rec1_size : rec1.size = 24 := ent_size _ _ _ _
theorem rec1_many : many rec1 = 6 := by unfold many; rw [rec1_size]
def heldF : ByteArray := doL held1 (wl (0 : Nat) rec1 (many rec1))
theorem heldF_lay : heldF.size = 768 ∧ ∀ i : Nat, i < 768 → bt heldF i = if 0 ≤ i ∧ i < 0 + rec1.size then bt rec1 ((i - 0 : Nat) : Int) else bt held1 i :=
 lay held1 0 rec1 held1_size rfl (fun i h1 h2 => by rw [rec1_many] at h2; rw [held1_bt i (by omega), if_neg (by omega)]) (by rw [rec1_many]; omega)
theorem heldF_size : heldF.size = 768 := heldF_lay.1
theorem heldF_bt (i : Nat) (hi : i < 768) : bt heldF i = if i < 24 then bt rec1 (i : Int) else if 192 ≤ i ∧ i < 204 then bt ab ((i - 192 : Nat) : Int) else 255 := by
 rw [heldF_lay.2 i hi, rec1_size, held1_bt i hi]
 by_cases c : i < 24
 ·rw [if_pos c, if_pos (by omega)]; rfl
 ·rw [if_neg c, if_neg (by omega)]
theorem pl_size (f : ByteArray) (j : Nat) (hf : f.size = 768) (hj : j < 8) : (pl f j).size = 24 := by unfold pl; rw [ByteArray.size_extract]; omega
theorem pl_bt (f : ByteArray) (j : Nat) (hf : f.size = 768) (hj : j < 8) (i : Nat) (hi : i < 24) : bt (pl f j) (i : Int) = bt f ((24 * j + i : Nat) : Int) := bt_extract f _ _ i (by omega)
theorem pl_blank (f : ByteArray) (j : Nat) (hf : f.size = 768) (hj : j < 8) (h : ∀ i, 24 * j ≤ i → i < 24 * j + 24 → bt f ((i : Nat) : Int) = 255) : pl f j = ff 24 := by
 apply bt_ext
 ·rw [pl_size f j hf hj, ff_size]
 ·intro i hi
  rw [pl_size f j hf hj] at hi
  rw [pl_bt f j hf hj i hi, h _ (by omega) (by omega), ff_bt _ _ hi]
theorem getV_ff : getV (ff 24) = (0, 0, 0, 0, 400) := by
 unfold getV
 rw [if_neg]
 rintro ⟨_, h, _⟩
 have := h 0 (by omega)
 rw [ff_bt 24 (12 + 0) (by omega), ff_bt 24 0 (by omega)] at this
 omega
theorem told_ff (j : Nat) : told j (getV (ff 24)) = [] := by rw [getV_ff]; rfl
/-- No records stand in a flash of which all places are blank. -/
theorem scanL_blank (f : ByteArray) (n : Nat) (h : ∀ j, j < n → pl f j = ff 24) : scanL f n = [] := by
 induction n with
 | zero => rfl
 | succ n ih => rw [scanL, ih (fun j hj => h j (by omega)), h n (by omega), told_ff]; rfl
theorem scanV_held1 : scanV held1 = ([], 0) := by
 unfold scanV
 rw [if_pos held1_size, scanL_blank held1 8 (fun j hj => pl_blank held1 j held1_size hj (fun i h1 h2 => by rw [held1_bt i (by omega), if_neg (by omega)]))]
theorem pl_heldF0 : pl heldF 0 = rec1 := by
 apply bt_ext
 ·rw [pl_size _ _ heldF_size (by omega), rec1_size]
 ·intro i hi
  rw [pl_size _ _ heldF_size (by omega)] at hi
  rw [pl_bt _ _ heldF_size (by omega) i hi, heldF_bt _ (by omega), if_pos (by omega)]
  congr 1; omega
theorem pl_heldF (j : Nat) (h0 : 0 < j) (h : j < 8) : pl heldF j = ff 24 := pl_blank heldF j heldF_size h (fun i h1 h2 => by rw [heldF_bt i (by omega), if_neg (by omega), if_neg (by omega)])
theorem rec1_may : recMay 1 0 12 abSum = true := by decide
def place1 : S25 := ⟨0, ⟨1, 0, 12, abSum⟩⟩
theorem scanL_heldF (n : Nat) (h0 : 0 < n) (h : n ≤ 8) : scanL heldF n = [place1] := by
 induction n with
 | zero => omega
 | succ n ih =>
  rw [scanL]
  by_cases c : n = 0
  ·subst c
   rw [pl_heldF0, rec1, getV_ent _ _ _ _ rec1_may]; rfl
  ·rw [ih (by omega) (by omega), pl_heldF n (by omega) (by omega), told_ff]; rfl
theorem freeV_held1 : freeV held1 0 = (0, true, 0) := by
 unfold freeV
 rw [if_pos ⟨held1_size, by omega, by omega⟩]
 show freeL held1 0 4 = _
 rw [freeL, pl_blank held1 0 held1_size (by omega) (fun i h1 h2 => by rw [held1_bt i (by omega), if_neg (by omega)]), if_pos rfl]; rfl
theorem held1_ab : held1.extract 192 204 = ab := by
 apply bt_ext
 ·rw [ByteArray.size_extract, held1_size, ab_size]; omega
 ·intro i hi
  rw [ByteArray.size_extract, held1_size] at hi
  rw [bt_extract _ _ _ _ (by rw [held1_size]; omega), held1_bt _ (by omega), if_pos (by omega), show 192 + i - 192 = i by omega]
theorem Next_held1 : Ev (fun k => skiffref1_NextSeq.f k held1) (1, 0) := by
 have h := ref_Scan_ev held1
 rw [scanV_held1] at h
 unfold skiffref1_NextSeq.f
 refine Ev.bind h ?_
 exact Ev.one fun k => by
  show skiffref1_NextSeq.l0 (k + 1) [] 0 0 = _
  rw [skiffref1_NextSeq.l0, if_neg (by decide), if_neg (by decide), show wrap64 (0 + 1) = 1 by unfold wrap64; omega]
theorem RecordOf_held1 : Ev (fun k => skiffref1_RecordOf.f k held1 0 12) (1, 0, 12, abSum, 0) := by
 have hb : skiffref1_Base.f 0 = some (192, 0) := by kernel_rfl
 have hs := held1_size
 have e : ((held1.size : Int) == 768) = true := by rw [hs]; rfl
 have w204 : wrap64 (192 + 12) = 204 := by unfold wrap64; omega
 have hx : held1.extract (192 : Int).toNat (204 : Int).toNat = ab := held1_ab
 unfold skiffref1_RecordOf.f skiffref1_FlashMay.f
 simp only [hb, Option.bind_some, e, if_true, upTo_eq]
 refine Ev.step (f := fun k => (skiffref1_NextSeq.f k held1).bind fun bt380 => (if bt380.2 = 0 then ((skiffref1_Crc.f k ab).bind fun t382 => (some (bt380.1, 0, 12, t382, 0))) else (some (0, 0, 0, 0, bt380.2)))) (fun k => ?_) ?_
 ·rw [skiffref1_RecordOf.j0, if_neg (by decide), w204, hx]
  simp only [if_pos (show (0 : Int) ≤ 192 by decide), if_pos (show (192 : Int) ≤ 204 by decide), if_pos (show (204 : Int) ≤ (held1.size : Int) by rw [hs]; decide)]
 ·refine Ev.bind Next_held1 ?_
  simp only [if_true]
  exact Ev.bind ab_crc (Ev.now _)
theorem Active_held1 : Ev (fun k => skiffref1_Active.f k held1) (0, 0, 0, 0, 0, 701) := by
 have h := ref_Scan_ev held1
 rw [scanV_held1] at h
 unfold skiffref1_Active.f
 refine Ev.bind h ?_
 exact Ev.one fun k => by
  show skiffref1_Active.l0 (k + 1) held1 [] (-1) 0 = _
  rw [skiffref1_Active.l0, if_neg (by decide), if_pos (by decide)]
theorem wordsV_rec1 : wordsV 0 rec1 = (wl (0 : Nat) rec1 (many rec1), 0) := by
 unfold wordsV
 rw [if_pos ⟨by omega, by omega, by decide, by rw [rec1_size]; omega⟩]; rfl
theorem wordsV_ab : wordsV 192 ab = (wl (192 : Nat) ab (many ab), 0) := by
 unfold wordsV
 rw [if_pos ⟨by omega, by omega, by decide, by rw [ab_size]; omega⟩]; rfl
theorem Append_held1 : Ev (fun k => skiffref1_Append.f k held1 1 0 12 abSum) (wl (0 : Nat) rec1 (many rec1), 0) := by
 have hp := PutEntry_ev 1 0 12 abSum
 rw [show putV 1 0 12 abSum = (rec1, 0) from by unfold putV; rw [if_pos rec1_may]; rfl] at hp
 have e : ((held1.size : Int) == 768) = true := by rw [held1_size]; rfl
 have hf := ref_Free_ev held1 0
 rw [freeV_held1] at hf
 have hw := ref_Words_ev 0 rec1 (by omega) (by rw [rec1_size]; omega)
 rw [wordsV_rec1] at hw
 unfold skiffref1_Append.f skiffref1_FlashMay.f
 refine Ev.bind hp ?_
 simp only [Option.bind_some, e, if_true]
 refine Ev.step (f := fun k => (skiffref1_Active.f k held1).bind fun bt410 => (if bt410.2.2.2.2.2 = 0 then (skiffref1_Append.j1 k held1 rec1 (wrap64 (Int.tdiv bt410.1 96))) else (skiffref1_Append.j1 k held1 rec1 0))) (fun k => by rw [skiffref1_Append.j0]; rfl) ?_
 refine Ev.bind Active_held1 ?_
 simp only [show ¬ ((701 : Int) = 0) by decide, if_false]
 refine Ev.step (fun k => by rw [skiffref1_Append.j1]) ?_
 refine Ev.bind hf ?_
 simp only [if_true]
 refine Ev.bind hw ?_
 have hl : ([] : List S87).length + (wl (0 : Nat) rec1 (many rec1)).length < 4398046511104 := by rw [wl_length, rec1_many]; decide
 simp only [if_pos hl]
 exact Ev.now _
end Go.Proofs.Ytjadcjkjpkkmkaa.M

/- Plain facts: what container/heap makes of a list of places, and so choose.Active's answer: the greatest of the places that are good; no memory in sight. -/
set_option linter.unnecessarySimpa false
set_option linter.unusedSimpArgs false
set_option linter.unusedVariables false
namespace Go.Proofs.Ytjadcjkjpkkmkaa.M
open Go.RowKit Go.Proofs.YtjadcjkjpkkmkaaW.PrintWords Go.Proofs.YtjadcjkjpkkmkaaW.PrintLast Go.Proofs.YtjadcjkjpkkmkaaW.PrintMore Go.Proofs.Ytjadcjkjpkkmkaa.Hand Go.Proofs.Ytjadcjkjpkkmkaa.PSc
/-- a stands ahead of b, or they are alike: the greater number, of these the later place. -/
def ge (a b : S25) : Prop := b.f1.f0 < a.f1.f0 ∨ (b.f1.f0 = a.f1.f0 ∧ b.f0 ≤ a.f0)
theorem lessB_iff (a b : S25) : lessB a b = true ↔ ¬ ge b a := by
 unfold lessB ge
 by_cases h : a.f1.f0 = b.f1.f0
 ·rw [if_neg (by simpa using h), decide_eq_true_eq]; omega
 ·rw [if_pos (by simpa using h), decide_eq_true_eq]; omega
theorem ge_refl (a : S25) : ge a a := by unfold ge; omega
theorem ge_trans {a b c : S25} (h1 : ge a b) (h2 : ge b c) : ge a c := by unfold ge at *; omega
theorem ge_total (a b : S25) : ge a b ∨ ge b a := by unfold ge; omega
theorem ge_less {a b : S25} (h : lessB a b = true) : ge a b := by
 have := (lessB_iff a b).1 h
 rcases ge_total a b with h1 | h1
 ·exact h1
 ·exact absurd h1 this
theorem ge_not {a b : S25} (h : ¬ lessB a b = true) : ge b a := by
 rcases Classical.em (ge b a) with h1 | h1
 ·exact h1
 ·exact absurd ((lessB_iff a b).2 h1) h
def g (xs : List S25) (i : Nat) : S25 := rd_T25 xs (i : Int)
theorem g_eq (xs : List S25) (i : Nat) : g xs i = xs.getD i z25 := by simp [g, rd_T25]
theorem g_at (xs : List S25) (i : Nat) (h : i < xs.length) : g xs i = xs[i] := by rw [g_eq, List.getD_eq_getElem?_getD, List.getElem?_eq_getElem h]; rfl
theorem g_swap (xs : List S25) (i j t : Nat) (hi : i < xs.length) (hj : j < xs.length) : g (swapL xs i j) t = if t = j then g xs i else if t = i then g xs j else g xs t := by
 have e : ∀ q : Nat, rd_T25 xs (q : Int) = g xs q := fun _ => rfl
 unfold swapL
 rw [e, e, g_eq, List.getD_eq_getElem?_getD, List.getElem?_set, List.getElem?_set]
 by_cases c1 : t = j
 ·subst c1; simp [hj]
 ·rw [if_neg (fun x => c1 x.symm), if_neg c1]
  by_cases c2 : t = i
  ·subst c2; simp [hi]
  ·rw [if_neg (fun x => c2 x.symm), if_neg c2, g_eq, List.getD_eq_getElem?_getD]
/-- x stands among the first n. -/
def has (xs : List S25) (n : Nat) (x : S25) : Prop := ∃ i, i < n ∧ g xs i = x
theorem has_swap (xs : List S25) (i j n : Nat) (hi : i < n) (hj : j < n) (hn : n ≤ xs.length) (x : S25) : has (swapL xs i j) n x ↔ has xs n x := by
 constructor
 ·rintro ⟨t, ht, h⟩
  rw [g_swap xs i j t (by omega) (by omega)] at h
  by_cases c1 : t = j
  ·rw [if_pos c1] at h; exact ⟨i, hi, h⟩
  ·rw [if_neg c1] at h
   by_cases c2 : t = i
   ·rw [if_pos c2] at h; exact ⟨j, hj, h⟩
   ·rw [if_neg c2] at h; exact ⟨t, ht, h⟩
 ·rintro ⟨t, ht, h⟩
  by_cases c1 : t = j
  ·by_cases c2 : i = j
   ·exact ⟨t, ht, by rw [g_swap xs i j t (by omega) (by omega), if_pos c1, c2, ← c1]; exact h⟩
   ·exact ⟨i, hi, by rw [g_swap xs i j i (by omega) (by omega), if_neg c2, if_pos rfl, ← c1]; exact h⟩
  ·by_cases c2 : t = i
   ·exact ⟨j, hj, by rw [g_swap xs i j j (by omega) (by omega), if_pos rfl, ← c2]; exact h⟩
   ·exact ⟨t, ht, by rw [g_swap xs i j t (by omega) (by omega), if_neg c1, if_neg c2]; exact h⟩
def Kid (p c : Nat) : Prop := c = 2 * p + 1 ∨ c = 2 * p + 2
def Heap (lo n : Nat) (xs : List S25) : Prop := ∀ p c, lo ≤ p → Kid p c → c < n → ge (g xs p) (g xs c)
/-- A heap but at place i, whose value is to go down. -/
def Hole (lo n i : Nat) (xs : List S25) : Prop := (∀ p c, lo ≤ p → p ≠ i → Kid p c → c < n → ge (g xs p) (g xs c)) ∧ (∀ p c, lo ≤ p → Kid p i → Kid i c → c < n → ge (g xs p) (g xs c))
theorem hole_end {lo n i : Nat} {xs : List S25} (h : Hole lo n i xs) (h2 : ∀ c, Kid i c → c < n → ge (g xs i) (g xs c)) : Heap lo n xs := by
 intro p c hp hk hc
 by_cases e : p = i
 ·subst e; exact h2 c hk hc
 ·exact h.1 p c hp e hk hc
theorem hole_down {lo n i c : Nat} {xs : List S25} (h : Hole lo n i xs) (hlo : lo ≤ i) (hk : Kid i c) (hc : c < n) (hn : n ≤ xs.length) (h1 : ge (g xs c) (g xs i)) (h2 : ∀ d, Kid i d → d < n → ge (g xs c) (g xs d)) : Hole lo n c (swapL xs i c) := by
 have hic : i < c := by unfold Kid at hk; omega
 have gs := fun t => g_swap xs i c t (by omega) (by omega)
 constructor
 ·intro p d hp hpc hpd hd
  rw [gs p, gs d, if_neg hpc]
  by_cases e1 : p = i
  ·subst e1
   rw [if_pos rfl]
   by_cases e2 : d = c
   ·rw [if_pos e2]; exact h1
   ·rw [if_neg e2, if_neg (by unfold Kid at hpd; omega)]; exact h2 d hpd hd
  ·rw [if_neg e1]
   have e2 : d ≠ c := by unfold Kid at *; omega
   rw [if_neg e2]
   by_cases e3 : d = i
   ·rw [if_pos e3]; subst e3; exact h.2 p c hp hpd hk hc
   ·rw [if_neg e3]; exact h.1 p d hp e1 hpd hd
 ·intro p d hp hpc hcd hd
  obtain rfl : p = i := by unfold Kid at *; omega
  rw [gs p, gs d, if_neg (by omega), if_pos rfl, if_neg (by unfold Kid at hcd; omega), if_neg (by unfold Kid at *; omega)]
  exact h.1 c d (by omega) (by omega) hcd hd
/-- What 'down' tells of its answer. -/
def DownOk (lo n : Nat) (xs ys : List S25) : Prop := ys.length = xs.length ∧ Heap lo n ys ∧ (∀ j, n ≤ j → g ys j = g xs j) ∧ ∀ x, has ys n x ↔ has xs n x
theorem dn_ok (lo n : Nat) : ∀ (k i : Nat) (xs : List S25), n - i < k → n ≤ xs.length → lo ≤ i → Hole lo n i xs → ∃ ys, dn k xs i n = some ys ∧ DownOk lo n xs ys
 | 0, _, _, h, _, _, _ => absurd h (by omega)
 | k + 1, i, xs, hk, hn, hlo, h => by
  have stop : (∀ c, Kid i c → c < n → ge (g xs i) (g xs c)) → DownOk lo n xs xs := fun h2 => ⟨rfl, hole_end h h2, fun _ _ => rfl, fun _ => Iff.rfl⟩
  have down : ∀ c, Kid i c → c < n → ge (g xs c) (g xs i) → (∀ d, Kid i d → d < n → ge (g xs c) (g xs d)) → ∃ ys, dn k (swapL xs i c) c n = some ys ∧ DownOk lo n xs ys := by
   intro c hkc hc h1 h2
   have hic : i < c := by unfold Kid at hkc; omega
   obtain ⟨ys, e, l, hh, far, mem⟩ := dn_ok lo n k c (swapL xs i c) (by omega) (by rw [swapL_length]; exact hn) (by omega) (hole_down h hlo hkc hc hn h1 h2)
   refine ⟨ys, e, by rw [l, swapL_length], hh, fun j hj => ?_, fun x => (mem x).trans (has_swap xs i c n (by omega) hc hn x)⟩
   rw [far j hj, g_swap xs i c j (by omega) (by omega), if_neg (by omega), if_neg (by omega)]
  rw [dn]
  by_cases c1 : 2 * i + 1 < n
  ·rw [if_pos c1]
   by_cases c2 : 2 * i + 2 < n
   ·rw [if_pos c2]
    by_cases c3 : lessB (rd_T25 xs ((2 * i + 2 : Nat) : Int)) (rd_T25 xs ((2 * i + 1 : Nat) : Int)) = true
    ·rw [if_pos c3]
     have g3 : ge (g xs (2 * i + 2)) (g xs (2 * i + 1)) := ge_less c3
     by_cases c4 : lessB (rd_T25 xs ((2 * i + 2 : Nat) : Int)) (rd_T25 xs (i : Int)) = true
     ·rw [if_pos c4]
      refine down _ (Or.inr rfl) c2 (ge_less c4) fun d hd _ => ?_
      rcases hd with rfl | rfl
      ·exact g3
      ·exact ge_refl _
     ·rw [if_neg c4]
      refine ⟨xs, rfl, stop fun c hc _ => ?_⟩
      have g4 : ge (g xs i) (g xs (2 * i + 2)) := ge_not c4
      rcases hc with rfl | rfl
      ·exact ge_trans g4 g3
      ·exact g4
    ·rw [if_neg c3]
     have g3 : ge (g xs (2 * i + 1)) (g xs (2 * i + 2)) := ge_not c3
     by_cases c4 : lessB (rd_T25 xs ((2 * i + 1 : Nat) : Int)) (rd_T25 xs (i : Int)) = true
     ·rw [if_pos c4]
      refine down _ (Or.inl rfl) c1 (ge_less c4) fun d hd _ => ?_
      rcases hd with rfl | rfl
      ·exact ge_refl _
      ·exact g3
     ·rw [if_neg c4]
      refine ⟨xs, rfl, stop fun c hc _ => ?_⟩
      have g4 : ge (g xs i) (g xs (2 * i + 1)) := ge_not c4
      rcases hc with rfl | rfl
      ·exact g4
      ·exact ge_trans g4 g3
   ·rw [if_neg c2]
    by_cases c4 : lessB (rd_T25 xs ((2 * i + 1 : Nat) : Int)) (rd_T25 xs (i : Int)) = true
    ·rw [if_pos c4]
     refine down _ (Or.inl rfl) c1 (ge_less c4) fun d hd hdn => ?_
     rcases hd with rfl | rfl
     ·exact ge_refl _
     ·exact absurd hdn c2
    ·rw [if_neg c4]
     refine ⟨xs, rfl, stop fun c hc hcn => ?_⟩
     rcases hc with rfl | rfl
     ·exact ge_not c4
     ·exact absurd hcn c2
  ·rw [if_neg c1]
   exact ⟨xs, rfl, stop fun c hc hcn => by unfold Kid at hc; omega⟩
theorem down_heap {lo n : Nat} {xs : List S25} (h : Heap (lo + 1) n xs) : Hole lo n lo xs :=
 ⟨fun p c hp hne hk hc => h p c (by omega) hk hc, fun p c hp hk _ _ => by unfold Kid at hk; omega⟩
theorem ini_ok (n : Nat) : ∀ (m k : Nat) (xs : List S25), n < k → n ≤ xs.length → Heap m n xs → ∃ ys, ini k m xs n = some ys ∧ DownOk 0 n xs ys
 | 0, k, xs, _, _, h => ⟨xs, rfl, rfl, h, fun _ _ => rfl, fun _ => Iff.rfl⟩
 | m + 1, k, xs, hk, hn, h => by
  obtain ⟨ys, e, l, hh, far, mem⟩ := dn_ok m n k m xs (by omega) hn (Nat.le_refl _) (down_heap h)
  obtain ⟨zs, e2, l2, hh2, far2, mem2⟩ := ini_ok n m k ys hk (by omega) hh
  exact ⟨zs, by rw [ini, e]; exact e2, by omega, hh2, fun j hj => by rw [far2 j hj, far j hj], fun x => (mem2 x).trans (mem x)⟩
theorem heap_half (n : Nat) (xs : List S25) : Heap (n / 2) n xs := fun p c hp hk hc => by unfold Kid at hk; omega
/-- The first one is the greatest. -/
theorem heap_top {n : Nat} {xs : List S25} (h : Heap 0 n xs) : ∀ j, j < n → ge (g xs 0) (g xs j) := by
 intro j
 induction j using Nat.strongRecOn with
 | _ j ih =>
  intro hj
  by_cases c : j = 0
  ·subst c; exact ge_refl _
  ·exact ge_trans (ih ((j - 1) / 2) (by omega) (by omega)) (h ((j - 1) / 2) j (by omega) (by unfold Kid; omega) hj)
theorem g_take (xs : List S25) (m i : Nat) (h : i < m) : g (xs.take m) i = g xs i := by
 rw [g_eq, g_eq, List.getD_eq_getElem?_getD, List.getD_eq_getElem?_getD, List.getElem?_take_of_lt h]
theorem pop_ok (m k : Nat) (xs : List S25) (hk : m < k) (hl : xs.length = m + 1) (h : Heap 0 (m + 1) xs) :
  ∃ ys, popF k xs m = some ys ∧ g ys m = g xs 0 ∧ (ys.take m).length = m ∧ Heap 0 m (ys.take m) ∧ (∀ x, has xs (m + 1) x ↔ has (ys.take m) m x ∨ x = g xs 0) := by
 have hs := fun t => g_swap xs 0 m t (by omega) (by omega)
 have hole : Hole 0 m 0 (swapL xs 0 m) := by
  constructor
  ·intro p c _ hp hk hc
   rw [hs p, hs c, if_neg (by unfold Kid at hk; omega), if_neg hp, if_neg (by omega), if_neg (by unfold Kid at hk; omega)]
   exact h p c (by omega) hk (by omega)
  ·intro p c _ hk; unfold Kid at hk; omega
 obtain ⟨ys, e, l, hh, far, mem⟩ := dn_ok 0 m k 0 (swapL xs 0 m) (by omega) (by rw [swapL_length]; omega) (Nat.le_refl _) hole
 rw [swapL_length] at l
 have top : g ys m = g xs 0 := by rw [far m (Nat.le_refl _), hs m, if_pos rfl]
 refine ⟨ys, e, top, by rw [List.length_take]; omega, ?_, fun x => ?_⟩
 ·intro p c hp hk hc
  rw [g_take _ _ _ (by unfold Kid at hk; omega), g_take _ _ _ hc]
  exact hh p c hp hk hc
 ·have e1 : has (ys.take m) m x ↔ has (swapL xs 0 m) m x := by
   refine Iff.trans ?_ (mem x)
   constructor
   ·rintro ⟨i, hi, hx⟩; exact ⟨i, hi, by rw [← g_take ys m i hi]; exact hx⟩
   ·rintro ⟨i, hi, hx⟩; exact ⟨i, hi, by rw [g_take ys m i hi]; exact hx⟩
  rw [e1, ← has_swap xs 0 m (m + 1) (by omega) (by omega) (by omega) x]
  constructor
  ·rintro ⟨i, hi, hx⟩
   by_cases c : i = m
   ·subst c; rw [hs i, if_pos rfl] at hx; exact Or.inr hx.symm
   ·exact Or.inl ⟨i, by omega, hx⟩
  ·rintro (⟨i, hi, hx⟩ | rfl)
   ·exact ⟨i, by omega, hx⟩
   ·exact ⟨m, by omega, by rw [hs m, if_pos rfl]⟩
/-- The answer of Active, told of a list: the greatest of those that are good. -/
def Best (good : S25 → Bool) (P : S25 → Prop) (r : Option S25) : Prop :=
 (∃ x, r = some x ∧ P x ∧ good x = true ∧ ∀ y, P y → good y = true → ge x y) ∨ (r = none ∧ ∀ y, P y → good y = false)
def ans : Option S25 → Int × Int × Int × Int × Int × Int
 | some x => (x.f0, x.f1.f0, x.f1.f1, x.f1.f2, x.f1.f3, 0)
 | none => (0, 0, 0, 0, 0, 701)
theorem act_ok (f : ByteArray) (good : S25 → Bool) (hg : ∀ x : S25, ∃ e, image_Good.f f x.f1.f0 x.f1.f1 x.f1.f2 x.f1.f3 = some (good x, e)) :
  ∀ (m k : Nat) (xs : List S25), m < k → xs.length = m → Heap 0 m xs → ∃ r, actL k f m xs = some (ans r) ∧ Best good (has xs m) r
 | 0, k, xs, _, _, _ => ⟨none, rfl, Or.inr ⟨rfl, fun y ⟨i, hi, _⟩ => absurd hi (by omega)⟩⟩
 | m + 1, k, xs, hk, hl, h => by
  obtain ⟨ys, e, top, l, hh, mem⟩ := pop_ok m k xs (by omega) hl h
  obtain ⟨er, he⟩ := hg (g xs 0)
  have he2 : image_Good.f f (rd_T25 ys m).f1.f0 (rd_T25 ys m).f1.f1 (rd_T25 ys m).f1.f2 (rd_T25 ys m).f1.f3 = some (good (g xs 0), er) := by
   rw [show rd_T25 ys (m : Int) = g xs 0 from top]; exact he
  rw [actL, e, Option.bind_some, he2, Option.bind_some]
  rw [show rd_T25 ys (m : Int) = g xs 0 from top]
  by_cases c : good (g xs 0) = true
  ·rw [if_pos c]
   refine ⟨some (g xs 0), rfl, Or.inl ⟨_, rfl, ⟨0, by omega, rfl⟩, c, fun y ⟨i, hi, hy⟩ _ => ?_⟩⟩
   rw [← hy]; exact heap_top h i hi
  ·rw [if_neg c]
   obtain ⟨r, e3, hb⟩ := act_ok f good hg m k (ys.take m) (by omega) l hh
   refine ⟨r, e3, ?_⟩
   rcases hb with ⟨x, hr, hx, hgx, hmax⟩ | ⟨hr, hno⟩
   ·refine Or.inl ⟨x, hr, (mem x).2 (Or.inl hx), hgx, fun y hy hgy => ?_⟩
    rcases (mem y).1 hy with h1 | rfl
    ·exact hmax y h1 hgy
    ·exact absurd hgy c
   ·refine Or.inr ⟨hr, fun y hy => ?_⟩
    rcases (mem y).1 hy with h1 | rfl
    ·exact hno y h1
    ·simpa using c
theorem has_mem (xs : List S25) (x : S25) : has xs xs.length x ↔ x ∈ xs := by
 constructor
 ·rintro ⟨i, hi, hx⟩; rw [← hx, g_at xs i hi]; exact List.getElem_mem hi
 ·intro h
  obtain ⟨i, hi, e⟩ := List.getElem_of_mem h
  exact ⟨i, hi, by rw [g_at xs i hi]; exact e⟩
theorem Best_of_iff {good : S25 → Bool} {P Q : S25 → Prop} {r : Option S25} (h : Best good P r) (e : ∀ x, Q x ↔ P x) : Best good Q r := by
 rcases h with ⟨x, hr, hx, hgx, hmax⟩ | ⟨hr, hno⟩
 ·exact Or.inl ⟨x, hr, (e x).2 hx, hgx, fun y hy => hmax y ((e y).1 hy)⟩
 ·exact Or.inr ⟨hr, fun y hy => hno y ((e y).1 hy)⟩
/-- One answer alone is right, where no two places are one. -/
theorem Best_one {good : S25 → Bool} {P : S25 → Prop} {r s : Option S25} (hP : ∀ x y, P x → P y → x.f0 = y.f0 → x = y) (h1 : Best good P r) (h2 : Best good P s) : r = s := by
 rcases h1 with ⟨x, hr, hx, hgx, hmx⟩ | ⟨hr, hn⟩ <;> rcases h2 with ⟨y, hs, hy, hgy, hmy⟩ | ⟨hs, hn2⟩
 ·have a := hmx y hy hgy
  have b := hmy x hx hgx
  have : x.f0 = y.f0 := by unfold ge at a b; omega
  rw [hr, hs, hP x y hx hy this]
 ·rw [hn2 x hx] at hgx; cases hgx
 ·rw [hn y hy] at hgy; cases hgy
 ·rw [hr, hs]
/-- choose.Active behind the scan. -/
theorem queue_ok (f : ByteArray) (good : S25 → Bool) (hg : ∀ x : S25, ∃ e, image_Good.f f x.f1.f0 x.f1.f1 x.f1.f2 x.f1.f3 = some (good x, e)) (xs : List S25) (k : Nat) (hk : xs.length < k) :
  ∃ r, ((ini k (xs.length / 2) xs xs.length).bind fun ys => actL k f xs.length ys) = some (ans r) ∧ Best good (fun x => x ∈ xs) r := by
 obtain ⟨ys, e, l, hh, _, mem⟩ := ini_ok xs.length (xs.length / 2) k xs hk (Nat.le_refl _) (heap_half _ xs)
 obtain ⟨r, e2, hb⟩ := act_ok f good hg xs.length k ys hk l hh
 refine ⟨r, by rw [e]; exact e2, Best_of_iff hb fun x => ?_⟩
 rw [mem x, has_mem]
end Go.Proofs.Ytjadcjkjpkkmkaa.M

