import Derived.Test.YtjadcjkjpkkmkaaShT5
-- Laid together from this session's own texts by its program wip/tools/shake.py.
-- Written by this session's own program (wip/tools/myprint.py), which runs the kit's print over functions proved by hand.
namespace Go.Proofs.Ytjadcjkjpkkmkaa.PAll
open Go.RowKit Go.Proofs.YtjadcjkjpkkmkaaW.PrintWords Go.Proofs.YtjadcjkjpkkmkaaW.PrintLast Go.Proofs.YtjadcjkjpkkmkaaW.PrintMore
attribute [local go_sem] max2_int min2_int max_two min_two max_three min_three max_four min_four   -- for this text's walks alone
set_option linter.unusedVariables false
set_option linter.unusedSimpArgs false
mutual
def skiffref1_FreePlace.j0 : Nat → ByteArray → Int → Bool → Option (Int × Bool × Int)
 | 0, _, _, _ => none
 | k + 1, x0, x1, x15 => if x15 = true then (some (0, false, 500)) else (skiffref1_FreePlace.l0 k x0 x1 (wrap64 (x1 * 96)))
def skiffref1_FreePlace.l0 : Nat → ByteArray → Int → Int → Option (Int × Bool × Int)
 | 0, _, _, _ => none
 | k + 1, x0, x1, x7 => if (wrap64 (x7 + 24)) ≤ (wrap64 ((wrap64 (x1 + 1)) * 96)) then (if 0 ≤ x7 then (if x7 ≤ (wrap64 (x7 + 24)) then (if (wrap64 (x7 + 24)) ≤ (x0.size : Int) then ((skiffref1_full.f k 24).bind fun t223 => (if (x0.extract (x7 : Int).toNat ((wrap64 (x7 + 24)) : Int).toNat).toList = t223.toList then (some (x7, true, 0)) else (skiffref1_FreePlace.l0 k x0 x1 (wrap64 (x7 + 24))))) else (none)) else (none)) else (none)) else (some (0, false, 0))
end
def skiffref1_FreePlace.f (k : Nat) (a0 : ByteArray) (a1 : Int) : Option (Int × Bool × Int) := (skiffref1_FlashMay.f a0).bind fun t221 => (if t221 = true then ((PBase.skiffref1_upTo.f a1 0 1).bind fun t222 => (skiffref1_FreePlace.j0 k a0 a1 (!t222))) else (skiffref1_FreePlace.j0 k a0 a1 true))
set_option maxHeartbeats 8000000 in
set_option maxRecDepth 100000 in
theorem skiffref1_FreePlace.calls (k : Nat) (a0 : ByteArray) (a1 : Int) (r1 : Int) (r2 : Bool) (r3 : Int) (w : World) (h : skiffref1_FreePlace.f k a0 a1 = some (r1, r2, r3)) :
  Calls Try.prog 69 #[.string a0, .int .i64 a1] w fun e w' => e = .returned (.tuple #[.int .i64 r1, .bool r2, .int .i64 r3]) ∧ Below w.heap.size w w' := by
 have HB := Aside0.mk (Below.refl w.heap.size w)
 have H : ((skiffref1_FlashMay.f a0).bind fun t221 => (if t221 = true then ((PBase.skiffref1_upTo.f a1 0 1).bind fun t222 => (skiffref1_FreePlace.j0 k a0 a1 (!t222))) else (skiffref1_FreePlace.j0 k a0 a1 true))) = some (r1, r2, r3) := h
 clear h
 have HC3 := Aside0.mk H
 clear H
 go_enter Try.func69, Try.ntmps69
 go_upto_region 1 with (fail)
 go_cut [15] (fun v15 wc => ∃ (kq : Nat) (x15_2 : Bool), v15 = .bool x15_2 ∧ Aside0 (skiffref1_FreePlace.j0 kq a0 a1 x15_2 = some (r1, r2, r3)) ∧ Aside0 (kq ≤ k) ∧ Aside0 (Below w.heap.size w wc))
 case first =>
  have H := HC3.out
  clear HC3
  replace H := Option.bind_eq_some_iff.mp H
  obtain ⟨t221, A40, H⟩ := H
  replace H : (if t221 = true then ((PBase.skiffref1_upTo.f a1 0 1).bind fun t222 => (skiffref1_FreePlace.j0 k a0 a1 (!t222))) else (skiffref1_FreePlace.j0 k a0 a1 true)) = some (r1, r2, r3) := H
  have A4 := Aside0.mk A40
  clear A40
  by_cases c5 : t221 = true
  ·subst c5
   have H1 : ((PBase.skiffref1_upTo.f a1 0 1).bind fun t222 => (skiffref1_FreePlace.j0 k a0 a1 (!t222))) = some (r1, r2, r3) := by rw [if_pos rfl] at H; exact H
   clear H
   have H := H1
   clear H1
   replace H := Option.bind_eq_some_iff.mp H
   obtain ⟨t222, A60, H⟩ := H
   replace H : (skiffref1_FreePlace.j0 k a0 a1 (!t222)) = some (r1, r2, r3) := H
   have A6 := Aside0.mk A60
   clear A60
   have H' := Aside0.mk H
   clear H
   go_wp2_with (first | ((with_reducible refine gate_callee (f := 34) rfl ?_); refine goesL_ (some 9) rfl rfl Try.func34 (by kernel_rfl) rfl #[.string a0] rfl q1_ ?_; (with_reducible refine (skiffref1_FlashMay.calls a0 true _ A4.out).mono ?_); rintro e w' ⟨rfl, ⟨nd, rfl⟩⟩; refine ⟨_, rfl, ?_⟩) | (go_at_call 40; (with_reducible refine (PBase.skiffref1_upTo.calls a1 0 1 t222 _ A6.out).mono ?_); rintro e w' ⟨rfl, ⟨nd, rfl⟩⟩))
   go_meet
   case rel => exact ⟨_, (!t222), q15_, H', ⟨by first | omega | exact Nat.le_refl _⟩, ⟨by repeat (first | (with_reducible first | exact HB.out | apply below_alloc | apply pw_below_drewN | apply below_drew1) | exact HB.out)⟩⟩
  ·replace c5 := Bool.eq_false_iff.mpr c5
   subst c5
   have H1 : (skiffref1_FreePlace.j0 k a0 a1 true) = some (r1, r2, r3) := by rw [if_neg (show ¬ (false = true) by decide)] at H; exact H
   clear H
   have H := H1
   clear H1
   have H' := Aside0.mk H
   clear H
   go_wp2_with (first | ((with_reducible refine gate_callee (f := 34) rfl ?_); refine goesL_ (some 9) rfl rfl Try.func34 (by kernel_rfl) rfl #[.string a0] rfl q1_ ?_; (with_reducible refine (skiffref1_FlashMay.calls a0 false _ A4.out).mono ?_); rintro e w' ⟨rfl, ⟨nd, rfl⟩⟩; refine ⟨_, rfl, ?_⟩))
   go_meet
   case rel => exact ⟨_, (true), q15_, H', ⟨by first | omega | exact Nat.le_refl _⟩, ⟨by repeat (first | (with_reducible first | exact HB.out | apply below_alloc | apply pw_below_drewN | apply below_drew1) | exact HB.out)⟩⟩
 case rest =>
  clear HC3
  try clear p2
  try clear c3
  try clear c5
  try clear c6
  obtain ⟨kq, x15_2, rfl, HA, HJ2, HB⟩ := hcut
  cases kq with
  | zero => exact absurd HA.out (by simp [skiffref1_FreePlace.j0])
  | succ kj2 =>
   have H := HA.out
   clear HA
   simp only [skiffref1_FreePlace.j0] at H
   by_cases c7 : x15_2 = true
   ·subst c7
    have H1 : (some (0, false, 500)) = some (r1, r2, r3) := by rw [if_pos rfl] at H; exact H
    clear H
    have H := H1
    clear H1
    simp only [Option.some.injEq, Prod.mk.injEq] at H
    obtain ⟨rfl, rfl, rfl⟩ := H
    go_wp2
    go_ret3
    exact ⟨by first | rfl | (simp [errW_none, errW_some] <;> rfl) | (simp [*, errW_none, errW_some] <;> rfl), by repeat (first | (with_reducible first | exact HB.out | apply below_alloc | apply pw_below_drewN | apply below_drew1) | exact HB.out)⟩
   ·replace c7 := Bool.eq_false_iff.mpr c7
    subst c7
    have H1 : (skiffref1_FreePlace.l0 kj2 a0 a1 (wrap64 (a1 * 96))) = some (r1, r2, r3) := by rw [if_neg (show ¬ (false = true) by decide)] at H; exact H
    clear H
    have H := H1
    clear H1
    have H' := Aside0.mk H
    clear H
    go_wp2
    go_loopg [7] kj2 (fun kq v7 w' => ∃ (x7_2 : Int), v7 = .int .i64 x7_2 ∧ Aside0 (skiffref1_FreePlace.l0 kq a0 a1 x7_2 = some (r1, r2, r3)) ∧ Aside0 (kq ≤ kj2) ∧ Aside0 (Below w.heap.size w w'))
    case atStart => exact ⟨(wrap64 (a1 * 96)), q15_, H', ⟨Nat.le_refl _⟩, ⟨by repeat (first | (with_reducible first | exact HB.out | apply below_alloc | apply pw_below_drewN | apply below_drew1) | exact HB.out)⟩⟩
    case round =>
     clear H'
     try clear p2
     try clear c3
     try clear c5
     try clear c6
     try clear p6
     try clear c7
     try clear p2
     obtain ⟨x7_2, rfl, HA, HK2, HB⟩ := hrel
     cases gk with
     | zero => exact absurd HA.out (by simp [skiffref1_FreePlace.l0])
     | succ k2 =>
      have H := HA.out
      clear HA
      simp only [skiffref1_FreePlace.l0] at H
      by_cases c8 : (wrap64 (x7_2 + 24)) ≤ (wrap64 ((wrap64 (a1 + 1)) * 96))
      ·rw [if_pos c8] at H
       have c8b0 : decide ((wrap64 (x7_2 + 24)) ≤ (wrap64 ((wrap64 (a1 + 1)) * 96))) = true := decide_eq_true c8
       clear c8
       by_cases c9 : 0 ≤ x7_2
       ·rw [if_pos c9] at H
        have c9b0 := eq_true c9
        have c9b1 : decide (0 ≤ x7_2) = true := decide_eq_true c9
        clear c9
        by_cases c10 : x7_2 ≤ (wrap64 (x7_2 + 24))
        ·rw [if_pos c10] at H
         have c10b0 := eq_true c10
         have c10b1 : decide (x7_2 ≤ (wrap64 (x7_2 + 24))) = true := decide_eq_true c10
         by_cases c11 : (wrap64 (x7_2 + 24)) ≤ (a0.size : Int)
         ·rw [if_pos c11] at H
          have c11b0 := eq_true c11
          have c11b1 : decide ((wrap64 (x7_2 + 24)) ≤ (a0.size : Int)) = true := decide_eq_true c11
          replace H := Option.bind_eq_some_iff.mp H
          obtain ⟨t223, A120, H⟩ := H
          replace H : (if (a0.extract (x7_2 : Int).toNat ((wrap64 (x7_2 + 24)) : Int).toNat).toList = t223.toList then (some (x7_2, true, 0)) else (skiffref1_FreePlace.l0 k2 a0 a1 (wrap64 (x7_2 + 24)))) = some (r1, r2, r3) := H
          have A12 := Aside0.mk A120
          clear A120
          by_cases c13 : (a0.extract (x7_2 : Int).toNat ((wrap64 (x7_2 + 24)) : Int).toNat).toList = t223.toList
          ·rw [if_pos c13] at H
           have c13b0 : ((a0.extract (x7_2 : Int).toNat ((wrap64 (x7_2 + 24)) : Int).toNat).toList == t223.toList) = true := beq_iff_eq.mpr c13
           have c13b1 : ((a0.extract (x7_2 : Int).toNat ((wrap64 (x7_2 + 24)) : Int).toNat).toList != t223.toList) = false := bne_eq_false_iff_eq.mpr c13
           clear c13
           simp only [Option.some.injEq, Prod.mk.injEq] at H
           obtain ⟨rfl, rfl, rfl⟩ := H
           try go_wp2
           have n0_ := Aside0.mk (below_drew1 HB.out)
           clear HB
           have HB := n0_
           clear n0_
           refine start_ (n := 7) (S := fun w' => True) (ds := []) #[false, false, false, false, false, false, false] (by kernel_rfl) rfl rfl trivial (fun hHeld => ?_)
           generalize wr.drew = w14 at HB hHeld ⊢
           refine pure_ (i := 0) (N := some 26) (v := ?_) (a' := ?_) #[true, false, false, false, false, false, false] rfl rfl (by kernel_rfl) (fun _ _ _ h => h) (Or.inl ⟨by rfl, ?_⟩) ?_ ?_
           rotate_left
           ·intro w'
            go_simp
            with_reducible rfl
           rotate_left
           ·simp only [Act.put, List.setIfInBounds_toArray, List.set_cons_zero, List.set_cons_succ, i64_w, i32_w]
            rfl
           refine pure_ (i := 1) (N := some 27) (v := ?_) (a' := ?_) #[true, true, false, false, false, false, false] rfl rfl (by kernel_rfl) (fun _ _ _ h => h) (Or.inl ⟨by rfl, ?_⟩) ?_ ?_
           rotate_left
           ·intro w'
            go_simp
            with_reducible rfl
           rotate_left
           ·simp only [Act.put, List.setIfInBounds_toArray, List.set_cons_zero, List.set_cons_succ, i64_w, i32_w]
            rfl
           refine pure_ (i := 2) (N := some 28) (v := ?_) (a' := ?_) #[true, true, true, false, false, false, false] rfl rfl (by kernel_rfl) (fun _ _ _ h => h) (Or.inl ⟨by rfl, ?_⟩) ?_ ?_
           rotate_left
           ·intro w'
            go_simp
            with_reducible rfl
           rotate_left
           ·simp only [Act.put, List.setIfInBounds_toArray, List.set_cons_zero, List.set_cons_succ, i64_w, i32_w]
            rfl
           refine pure_ (i := 3) (N := some 29) (v := ?_) (a' := ?_) #[true, true, true, true, false, false, false] rfl rfl (by kernel_rfl) (fun _ _ _ h => h) (Or.inl ⟨by rfl, ?_⟩) ?_ ?_
           rotate_left
           ·intro w'
            go_simp
            with_reducible rfl
           rotate_left
           ·simp only [Act.put, List.setIfInBounds_toArray, List.set_cons_zero, List.set_cons_succ, i64_w, i32_w]
            rfl
           refine pure_ (i := 4) (N := some 30) (v := ?_) (a' := ?_) #[true, true, true, true, true, false, false] rfl rfl (by kernel_rfl) (fun _ _ _ h => h) (Or.inl ⟨by rfl, ?_⟩) ?_ ?_
           rotate_left
           ·intro w'
            go_simp
            with_reducible rfl
           rotate_left
           ·simp only [Act.put, List.setIfInBounds_toArray, List.set_cons_zero, List.set_cons_succ, i64_w, i32_w]
            rfl
           refine one_ (i := 5) (N := some 31) #[true, true, true, true, true, true, false] rfl rfl (by kernel_rfl) (by decide) (fun K hK => ?_)
           refine goes_ Try.func37 (by kernel_rfl) rfl #[.int .i64 24] (by rfl) rfl rfl q1_ ?_
           with_reducible refine (skiffref1_full.calls k2 24 t223 _ A12.out).mono ?_
           rintro e w15 ⟨rfl, hb⟩
           refine ⟨_, rfl, ?_⟩
           have n0_ := Aside0.mk (below_step q2_ hb)
           clear HB
           have HB := n0_
           clear n0_
           (try clear hb)
           (try clear hb2)
           (try clear hk)
           (try clear hi)
           refine hK.out _ _ trivial (fun hHeld => ?_)
           clear hK K
           refine norm_ (a' := ?_) ?_ ?_
           rotate_left
           ·show Act.put _ (some 31) _ = _
            simp only [Act.put, List.setIfInBounds_toArray, List.set_cons_zero, List.set_cons_succ, i64_w, i32_w]
            rfl
           refine pure_ (i := 6) (N := some 32) (v := ?_) (a' := ?_) #[true, true, true, true, true, true, true] rfl rfl (by kernel_rfl) (fun _ _ _ h => h) (Or.inl ⟨by rfl, ?_⟩) ?_ ?_
           rotate_left
           ·intro w'
            go_simp
            with_reducible rfl
           rotate_left
           ·simp only [Act.put, List.setIfInBounds_toArray, List.set_cons_zero, List.set_cons_succ, i64_w, i32_w]
            rfl
           refine done_ (by kernel_rfl) ?_
           try go_wp2
           go_ret3
           exact ⟨by first | rfl | (simp [errW_none, errW_some] <;> rfl) | (simp [*, errW_none, errW_some] <;> rfl), by repeat (first | (with_reducible first | exact HB.out | apply below_alloc | apply pw_below_drewN | apply below_drew1) | exact HB.out)⟩
          ·rw [if_neg c13] at H
           have c13b0 : ((a0.extract (x7_2 : Int).toNat ((wrap64 (x7_2 + 24)) : Int).toNat).toList == t223.toList) = false := beq_eq_false_iff_ne.mpr c13
           have c13b1 : ((a0.extract (x7_2 : Int).toNat ((wrap64 (x7_2 + 24)) : Int).toNat).toList != t223.toList) = true := bne_iff_ne.mpr c13
           have H' := Aside0.mk H
           clear H
           try go_wp2
           have n0_ := Aside0.mk (below_drew1 HB.out)
           clear HB
           have HB := n0_
           clear n0_
           refine start_ (n := 7) (S := fun w' => True) (ds := []) #[false, false, false, false, false, false, false] (by kernel_rfl) rfl rfl trivial (fun hHeld => ?_)
           generalize wr.drew = w16 at HB hHeld ⊢
           refine pure_ (i := 0) (N := some 26) (v := ?_) (a' := ?_) #[true, false, false, false, false, false, false] rfl rfl (by kernel_rfl) (fun _ _ _ h => h) (Or.inl ⟨by rfl, ?_⟩) ?_ ?_
           rotate_left
           ·intro w'
            go_simp
            with_reducible rfl
           rotate_left
           ·simp only [Act.put, List.setIfInBounds_toArray, List.set_cons_zero, List.set_cons_succ, i64_w, i32_w]
            rfl
           refine pure_ (i := 1) (N := some 27) (v := ?_) (a' := ?_) #[true, true, false, false, false, false, false] rfl rfl (by kernel_rfl) (fun _ _ _ h => h) (Or.inl ⟨by rfl, ?_⟩) ?_ ?_
           rotate_left
           ·intro w'
            go_simp
            with_reducible rfl
           rotate_left
           ·simp only [Act.put, List.setIfInBounds_toArray, List.set_cons_zero, List.set_cons_succ, i64_w, i32_w]
            rfl
           refine pure_ (i := 2) (N := some 28) (v := ?_) (a' := ?_) #[true, true, true, false, false, false, false] rfl rfl (by kernel_rfl) (fun _ _ _ h => h) (Or.inl ⟨by rfl, ?_⟩) ?_ ?_
           rotate_left
           ·intro w'
            go_simp
            with_reducible rfl
           rotate_left
           ·simp only [Act.put, List.setIfInBounds_toArray, List.set_cons_zero, List.set_cons_succ, i64_w, i32_w]
            rfl
           refine pure_ (i := 3) (N := some 29) (v := ?_) (a' := ?_) #[true, true, true, true, false, false, false] rfl rfl (by kernel_rfl) (fun _ _ _ h => h) (Or.inl ⟨by rfl, ?_⟩) ?_ ?_
           rotate_left
           ·intro w'
            go_simp
            with_reducible rfl
           rotate_left
           ·simp only [Act.put, List.setIfInBounds_toArray, List.set_cons_zero, List.set_cons_succ, i64_w, i32_w]
            rfl
           refine pure_ (i := 4) (N := some 30) (v := ?_) (a' := ?_) #[true, true, true, true, true, false, false] rfl rfl (by kernel_rfl) (fun _ _ _ h => h) (Or.inl ⟨by rfl, ?_⟩) ?_ ?_
           rotate_left
           ·intro w'
            go_simp
            with_reducible rfl
           rotate_left
           ·simp only [Act.put, List.setIfInBounds_toArray, List.set_cons_zero, List.set_cons_succ, i64_w, i32_w]
            rfl
           refine one_ (i := 5) (N := some 31) #[true, true, true, true, true, true, false] rfl rfl (by kernel_rfl) (by decide) (fun K hK => ?_)
           refine goes_ Try.func37 (by kernel_rfl) rfl #[.int .i64 24] (by rfl) rfl rfl q1_ ?_
           with_reducible refine (skiffref1_full.calls k2 24 t223 _ A12.out).mono ?_
           rintro e w17 ⟨rfl, hb⟩
           refine ⟨_, rfl, ?_⟩
           have n0_ := Aside0.mk (below_step q2_ hb)
           clear HB
           have HB := n0_
           clear n0_
           (try clear hb)
           (try clear hb2)
           (try clear hk)
           (try clear hi)
           refine hK.out _ _ trivial (fun hHeld => ?_)
           clear hK K
           refine norm_ (a' := ?_) ?_ ?_
           rotate_left
           ·show Act.put _ (some 31) _ = _
            simp only [Act.put, List.setIfInBounds_toArray, List.set_cons_zero, List.set_cons_succ, i64_w, i32_w]
            rfl
           refine pure_ (i := 6) (N := some 32) (v := ?_) (a' := ?_) #[true, true, true, true, true, true, true] rfl rfl (by kernel_rfl) (fun _ _ _ h => h) (Or.inl ⟨by rfl, ?_⟩) ?_ ?_
           rotate_left
           ·intro w'
            go_simp
            with_reducible rfl
           rotate_left
           ·simp only [Act.put, List.setIfInBounds_toArray, List.set_cons_zero, List.set_cons_succ, i64_w, i32_w]
            rfl
           refine done_ (by kernel_rfl) ?_
           try go_wp2
           go_roundg k2
           case measure => have := HJ2.out; have := HK2.out; omega
           case rel => exact ⟨(wrap64 (x7_2 + 24)), q15_, H', ⟨by have := HJ2.out; have := HK2.out; omega⟩, ⟨by repeat (first | (with_reducible first | exact HB.out | apply below_alloc | apply pw_below_drewN | apply below_drew1) | exact HB.out)⟩⟩
         ·rw [if_neg c11] at H
          exact absurd H (by simp)
        ·rw [if_neg c10] at H
         exact absurd H (by simp)
       ·rw [if_neg c9] at H
        exact absurd H (by simp)
      ·rw [if_neg c8] at H
       have c8b0 : decide ((wrap64 (x7_2 + 24)) ≤ (wrap64 ((wrap64 (a1 + 1)) * 96))) = false := decide_eq_false c8
       clear c8
       simp only [Option.some.injEq, Prod.mk.injEq] at H
       obtain ⟨rfl, rfl, rfl⟩ := H
       go_wp2
       go_ret3
       exact ⟨by first | rfl | (simp [errW_none, errW_some] <;> rfl) | (simp [*, errW_none, errW_some] <;> rfl), by repeat (first | (with_reducible first | exact HB.out | apply below_alloc | apply pw_below_drewN | apply below_drew1) | exact HB.out)⟩
mutual
def skiffref1_Append.j0 : Nat → ByteArray → ByteArray → Bool → Option ((List (S87)) × Int)
 | 0, _, _, _ => none
 | k + 1, x0, x6, x27 => if x27 = true then (some (([] : List (S87)), 800)) else ((skiffref1_Active.f k x0).bind fun bt228 => (if bt228.2.2.2.2.2 = 0 then (skiffref1_Append.j1 k x0 x6 (wrap64 (Int.tdiv bt228.1 96))) else (skiffref1_Append.j1 k x0 x6 0)))
def skiffref1_Append.j1 : Nat → ByteArray → ByteArray → Int → Option ((List (S87)) × Int)
 | 0, _, _, _ => none
 | k + 1, x0, x6, x8 => (skiffref1_FreePlace.f k x0 x8).bind fun bt235 => (if bt235.2.1 = true then ((skiffref1_Words.f k bt235.1 x6).bind fun bt238 => (if ([] : List (S87)).length + bt238.1.length < 4398046511104 then (some ((([] : List (S87)) ++ bt238.1), 0)) else (none))) else (if ([] : List (S87)).length < 4398046511104 then ((some (([] : List (S87)) ++ [(⟨true, wrap64 ((wrap64 (1 - x8)) * 96), (⟨#[]⟩ : ByteArray)⟩ : S87)] : List (S87))).bind fun y245 => ((skiffref1_Words.f k (wrap64 ((wrap64 (1 - x8)) * 96)) x6).bind fun bt248 => (if y245.length + bt248.1.length < 4398046511104 then (some ((y245 ++ bt248.1), 0)) else (none)))) else (none)))
end
def skiffref1_Append.f (k : Nat) (a0 : ByteArray) (a1_0 : Int) (a1_1 : Int) (a1_2 : Int) (a1_3 : Int) : Option ((List (S87)) × Int) := (Hand.skiffref1_PutEntry.f k a1_0 a1_1 a1_2 a1_3).bind fun bt225 => ((skiffref1_FlashMay.f a0).bind fun t227 => (if t227 = true then (skiffref1_Append.j0 k a0 bt225.1 (bt225.2 != 0)) else (skiffref1_Append.j0 k a0 bt225.1 true)))
set_option maxHeartbeats 8000000 in
set_option maxRecDepth 100000 in
theorem skiffref1_Append.calls (k : Nat) (a0 : ByteArray) (a1_0 : Int) (a1_1 : Int) (a1_2 : Int) (a1_3 : Int) (r1 : List (S87)) (r2 : Int) (w : World) (h : skiffref1_Append.f k a0 a1_0 a1_1 a1_2 a1_3 = some (r1, r2)) :
  Calls Try.prog 45 #[.string a0, .agg #[.int .i64 a1_0, .int .i64 a1_1, .int .i64 a1_2, .int .i64 a1_3]] w fun e w' => ∃ v0_ : Value, e = .returned (.tuple #[v0_, .int .i64 r2]) ∧ Kd.R k87 87 w' w.heap.size (fun _ => True) v0_ r1 ∧ Below w.heap.size w w' := by
 have hu23 := Try.underlying23
 have hu25 := Try.underlying25
 have hu87 := Try.underlying87
 have HB := Aside0.mk (Below.refl w.heap.size w)
 have H : ((Hand.skiffref1_PutEntry.f k a1_0 a1_1 a1_2 a1_3).bind fun bt225 => ((skiffref1_FlashMay.f a0).bind fun t227 => (if t227 = true then (skiffref1_Append.j0 k a0 bt225.1 (bt225.2 != 0)) else (skiffref1_Append.j0 k a0 bt225.1 true)))) = some (r1, r2) := h
 clear h
 replace H := Option.bind_eq_some_iff.mp H
 obtain ⟨⟨t225, t226⟩, A30, H⟩ := H
 replace H : ((skiffref1_FlashMay.f a0).bind fun t227 => (if t227 = true then (skiffref1_Append.j0 k a0 t225 (t226 != 0)) else (skiffref1_Append.j0 k a0 t225 true))) = some (r1, r2) := H
 have A3 := Aside0.mk A30
 clear A30
 have HC4 := Aside0.mk H
 clear H
 go_enter Try.func45, Try.ntmps45
 go_upto_region 2 with (first | ((with_reducible refine gate_dst (N := 3) rfl ?_); refine box_event ?hg (N := 3) ?hd (cs := #[.int .i64 a1_0, .int .i64 a1_1, .int .i64 a1_2, .int .i64 a1_3]) (t := 23) ?hr ?_; (case hd => rfl); (case hg => rfl); (case hr => first | (go_simp; done) | (go_simp; rfl)); intro gb224 hg w5 hbox hb; have n0_ := Aside0.mk (below_step q2_ hb); have n1_ := Aside0.mk (hbox); have n2_ := Aside0.mk ((by rw [hg]; exact (below_size q2_) : w.heap.size ≤ gb224)); have n3_ := Aside0.mk ((by rw [hg]; exact (below_size q2_) : w.heap.size ≤ gb224)); clear HB; have HB := n0_; have BK224 := n1_; have GW224 := n2_; have GE224 := n3_; clear n0_ n1_ n2_ n3_; clear hb hbox hg; have hcz6_0 : w5.cell? ⟨gb224, 0, none⟩ = some (.int .i64 a1_0) := (blk_cell BK224.out 0).trans rfl; have hcz6_1 : w5.cell? ⟨gb224, 1, none⟩ = some (.int .i64 a1_1) := (blk_cell BK224.out 1).trans rfl; have hcz6_2 : w5.cell? ⟨gb224, 2, none⟩ = some (.int .i64 a1_2) := (blk_cell BK224.out 2).trans rfl; have hcz6_3 : w5.cell? ⟨gb224, 3, none⟩ = some (.int .i64 a1_3) := (blk_cell BK224.out 3).trans rfl; have hfz6_0 := blk_frozen BK224.out 0; have hfz6_1 := blk_frozen BK224.out 1; have hfz6_2 := blk_frozen BK224.out 2; have hfz6_3 := blk_frozen BK224.out 3) | ((with_reducible refine gate_callee (f := 19) rfl ?_); refine goesL_ (some 18) rfl rfl Try.func19 (by kernel_rfl) rfl #[.agg #[.int .i64 a1_0, .int .i64 a1_1, .int .i64 a1_2, .int .i64 a1_3]] rfl q1_ ?_; (with_reducible refine (Hand.skiffref1_PutEntry.calls k a1_0 a1_1 a1_2 a1_3 t225 t226 _ A3.out).mono ?_); rintro e w7 ⟨rfl, hb⟩; refine ⟨_, rfl, ?_⟩; have n0_ := Aside0.mk (blk_below (g := gb224) (o := .cells #[.int .i64 a1_0, .int .i64 a1_1, .int .i64 a1_2, .int .i64 a1_3] 23 (0, 0)) (by (with_reducible repeat (first | refine blk_drewN ?_ _ | refine blk_drew ?_ | refine blk_alloc ?_ _)); exact BK224.out) hb); have n1_ := Aside0.mk (below_step (by repeat (first | (with_reducible first | exact HB.out | apply below_alloc | apply pw_below_drewN | apply below_drew1 | refine below_set ?_ GE224.out) | exact HB.out)) hb); clear BK224; clear HB; have BK224 := n0_; have HB := n1_; clear n0_ n1_; (try clear hb); (try clear hb2); (try clear hk); (try clear hi)))
 (try simp only [Act.put, List.setIfInBounds_toArray, List.set_cons_zero, List.set_cons_succ])
 go_cut [27] (fun v27 wc => ∃ (kq : Nat) (x27_3 : Bool), v27 = .bool x27_3 ∧ Aside0 (skiffref1_Append.j0 kq a0 t225 x27_3 = some (r1, r2)) ∧ Aside0 (kq ≤ k) ∧ Aside0 (wc.heap[gb224]? = some (.cells #[.int .i64 a1_0, .int .i64 a1_1, .int .i64 a1_2, .int .i64 a1_3] 23 (0, 0))) ∧ Aside0 (Below w.heap.size w wc))
 case first =>
  have H := HC4.out
  clear HC4
  replace H := Option.bind_eq_some_iff.mp H
  obtain ⟨t227, A80, H⟩ := H
  replace H : (if t227 = true then (skiffref1_Append.j0 k a0 t225 (t226 != 0)) else (skiffref1_Append.j0 k a0 t225 true)) = some (r1, r2) := H
  have A8 := Aside0.mk A80
  clear A80
  by_cases c9 : t227 = true
  ·subst c9
   have H1 : (skiffref1_Append.j0 k a0 t225 (t226 != 0)) = some (r1, r2) := by rw [if_pos rfl] at H; exact H
   clear H
   have H := H1
   clear H1
   have H' := Aside0.mk H
   clear H
   go_wp2_with (first | ((with_reducible refine gate_callee (f := 34) rfl ?_); refine goesL_ (some 22) rfl rfl Try.func34 (by kernel_rfl) rfl #[.string a0] rfl q1_ ?_; (with_reducible refine (skiffref1_FlashMay.calls a0 true _ A8.out).mono ?_); rintro e w' ⟨rfl, ⟨nd, rfl⟩⟩; refine ⟨_, rfl, ?_⟩))
   go_meet
   case rel => exact ⟨_, ((t226 != 0)), q15_, H', ⟨by first | omega | exact Nat.le_refl _⟩, ⟨by (with_reducible repeat (first | refine blk_drewN ?_ _ | refine blk_drew ?_ | refine blk_alloc ?_ _)); exact BK224.out⟩, ⟨by repeat (first | (with_reducible first | exact HB.out | apply below_alloc | apply pw_below_drewN | apply below_drew1 | refine below_set ?_ GE224.out) | exact HB.out)⟩⟩
  ·replace c9 := Bool.eq_false_iff.mpr c9
   subst c9
   have H1 : (skiffref1_Append.j0 k a0 t225 true) = some (r1, r2) := by rw [if_neg (show ¬ (false = true) by decide)] at H; exact H
   clear H
   have H := H1
   clear H1
   have H' := Aside0.mk H
   clear H
   go_wp2_with (first | ((with_reducible refine gate_callee (f := 34) rfl ?_); refine goesL_ (some 22) rfl rfl Try.func34 (by kernel_rfl) rfl #[.string a0] rfl q1_ ?_; (with_reducible refine (skiffref1_FlashMay.calls a0 false _ A8.out).mono ?_); rintro e w' ⟨rfl, ⟨nd, rfl⟩⟩; refine ⟨_, rfl, ?_⟩))
   go_meet
   case rel => exact ⟨_, (true), q15_, H', ⟨by first | omega | exact Nat.le_refl _⟩, ⟨by (with_reducible repeat (first | refine blk_drewN ?_ _ | refine blk_drew ?_ | refine blk_alloc ?_ _)); exact BK224.out⟩, ⟨by repeat (first | (with_reducible first | exact HB.out | apply below_alloc | apply pw_below_drewN | apply below_drew1 | refine below_set ?_ GE224.out) | exact HB.out)⟩⟩
 case rest =>
  clear HC4
  try clear c1
  try clear p2
  try clear c3
  try clear c4
  try clear c9
  try clear hcz6_0
  try clear hcz6_1
  try clear hcz6_2
  try clear hcz6_3
  try clear hfz6_0
  try clear hfz6_1
  try clear hfz6_2
  try clear hfz6_3
  obtain ⟨kq, x27_3, rfl, HA, HJ3, BK224, HB⟩ := hcut
  cases kq with
  | zero => exact absurd HA.out (by simp [skiffref1_Append.j0])
  | succ kj3 =>
   have H := HA.out
   clear HA
   simp only [skiffref1_Append.j0] at H
   by_cases c10 : x27_3 = true
   ·subst c10
    have H1 : (some (([] : List (S87)), 800)) = some (r1, r2) := by rw [if_pos rfl] at H; exact H
    clear H
    have H := H1
    clear H1
    simp only [Option.some.injEq, Prod.mk.injEq] at H
    obtain ⟨rfl, rfl⟩ := H
    go_wp2
    go_ret2
    exact ⟨_, by first | rfl | (simp [errW_none, errW_some] <;> rfl) | (simp [*, errW_none, errW_some] <;> rfl), by first | exact Kd.R_nil _ _ _ _ _ | exact Kd.N_nil _ _ _ _ _ | exact Kd.V_nil _ _ _ _ _ | exact Kd.Q_nil _ _ _ _ _ | exact Kd.S_nil _ _ _ _ _, by repeat (first | (with_reducible first | exact HB.out | apply below_alloc | apply pw_below_drewN | apply below_drew1 | refine below_set ?_ GE224.out) | exact HB.out)⟩
   ·replace c10 := Bool.eq_false_iff.mpr c10
    subst c10
    have H1 : ((skiffref1_Active.f kj3 a0).bind fun bt228 => (if bt228.2.2.2.2.2 = 0 then (skiffref1_Append.j1 kj3 a0 t225 (wrap64 (Int.tdiv bt228.1 96))) else (skiffref1_Append.j1 kj3 a0 t225 0))) = some (r1, r2) := by rw [if_neg (show ¬ (false = true) by decide)] at H; exact H
    clear H
    have H := H1
    clear H1
    replace H := Option.bind_eq_some_iff.mp H
    obtain ⟨⟨t228, t229, t230, t231, t232, t233⟩, A110, H⟩ := H
    replace H : (if t233 = 0 then (skiffref1_Append.j1 kj3 a0 t225 (wrap64 (Int.tdiv t228 96))) else (skiffref1_Append.j1 kj3 a0 t225 0)) = some (r1, r2) := H
    have A11 := Aside0.mk A110
    clear A110
    have HC12 := Aside0.mk H
    clear H
    go_upto_if 34 with (first | ((with_reducible refine gate_callee (f := 10) rfl ?_); refine goesL_ (some 30) rfl rfl Try.func10 (by kernel_rfl) rfl #[.string a0] rfl q1_ ?_; (with_reducible refine (skiffref1_Active.calls kj3 a0 t228 t229 t230 t231 t232 t233 _ A11.out).mono ?_); rintro e w13 ⟨rfl, hb⟩; refine ⟨_, rfl, ?_⟩; have n0_ := Aside0.mk (blk_below (g := gb224) (o := .cells #[.int .i64 a1_0, .int .i64 a1_1, .int .i64 a1_2, .int .i64 a1_3] 23 (0, 0)) (by (with_reducible repeat (first | refine blk_drewN ?_ _ | refine blk_drew ?_ | refine blk_alloc ?_ _)); exact BK224.out) hb); have n1_ := Aside0.mk (below_step (by repeat (first | (with_reducible first | exact HB.out | apply below_alloc | apply pw_below_drewN | apply below_drew1 | refine below_set ?_ GE224.out) | exact HB.out)) hb); clear BK224; clear HB; have BK224 := n0_; have HB := n1_; clear n0_ n1_; (try clear hb); (try clear hb2); (try clear hk); (try clear hi)) | ((with_reducible refine gate_dst (N := 9) rfl ?_); refine box_event ?hg (N := 9) ?hd (cs := #[.int .i64 0, .int .i64 0, .int .i64 0, .int .i64 0, .int .i64 0]) (t := 25) ?hr ?_; (case hd => rfl); (case hg => rfl); (case hr => first | (go_simp; done) | (go_simp; rfl)); intro gb234 hg w14 hbox hb; have n0_ := Aside0.mk (blk_below (g := gb224) (o := .cells #[.int .i64 a1_0, .int .i64 a1_1, .int .i64 a1_2, .int .i64 a1_3] 23 (0, 0)) (by (with_reducible repeat (first | refine blk_drewN ?_ _ | refine blk_drew ?_ | refine blk_alloc ?_ _)); exact BK224.out) hb); have n1_ := Aside0.mk (below_step (by repeat (first | (with_reducible first | exact HB.out | apply below_alloc | apply pw_below_drewN | apply below_drew1 | refine below_set ?_ GE224.out) | exact HB.out)) hb); have n2_ := Aside0.mk (hbox); have n3_ := Aside0.mk ((by rw [hg]; exact (below_size (by repeat (first | (with_reducible first | exact HB.out | apply below_alloc | apply pw_below_drewN | apply below_drew1 | refine below_set ?_ GE224.out) | exact HB.out))) : w.heap.size ≤ gb234)); have n4_ := Aside0.mk ((by rw [hg]; exact (below_size (by repeat (first | (with_reducible first | exact HB.out | apply below_alloc | apply pw_below_drewN | apply below_drew1 | refine below_set ?_ GE224.out) | exact HB.out))) : w.heap.size ≤ gb234)); have n5_ := Aside0.mk ((by rw [hg]; exact Nat.ne_of_lt (blk_lt (g := gb224) (o := .cells #[.int .i64 a1_0, .int .i64 a1_1, .int .i64 a1_2, .int .i64 a1_3] 23 (0, 0)) (by (with_reducible repeat (first | refine blk_drewN ?_ _ | refine blk_drew ?_ | refine blk_alloc ?_ _)); exact BK224.out)) : gb224 ≠ gb234)); have n6_ := Aside0.mk ((by rw [hg]; exact Nat.ne_of_gt (blk_lt (g := gb224) (o := .cells #[.int .i64 a1_0, .int .i64 a1_1, .int .i64 a1_2, .int .i64 a1_3] 23 (0, 0)) (by (with_reducible repeat (first | refine blk_drewN ?_ _ | refine blk_drew ?_ | refine blk_alloc ?_ _)); exact BK224.out)) : gb234 ≠ gb224)); clear BK224; clear HB; have BK224 := n0_; have HB := n1_; have BK234 := n2_; have GW234 := n3_; have GE234 := n4_; have NB224_234 := n5_; have NB234_224 := n6_; clear n0_ n1_ n2_ n3_ n4_ n5_ n6_; clear hb hbox hg; have hnb15 := NB234_224.out; have hnc15 := NB224_234.out; have hcz16_0 : w14.cell? ⟨gb234, 0, none⟩ = some (.int .i64 0) := (blk_cell BK234.out 0).trans rfl; have hcz16_1 : w14.cell? ⟨gb234, 1, none⟩ = some (.int .i64 0) := (blk_cell BK234.out 1).trans rfl; have hcz16_2 : w14.cell? ⟨gb234, 2, none⟩ = some (.int .i64 0) := (blk_cell BK234.out 2).trans rfl; have hcz16_3 : w14.cell? ⟨gb234, 3, none⟩ = some (.int .i64 0) := (blk_cell BK234.out 3).trans rfl; have hcz16_4 : w14.cell? ⟨gb234, 4, none⟩ = some (.int .i64 0) := (blk_cell BK234.out 4).trans rfl; have hfz16_0 := blk_frozen BK234.out 0; have hfz16_1 := blk_frozen BK234.out 1; have hfz16_2 := blk_frozen BK234.out 2; have hfz16_3 := blk_frozen BK234.out 3; have hfz16_4 := blk_frozen BK234.out 4))
    (try simp only [Act.put, List.setIfInBounds_toArray, List.set_cons_zero, List.set_cons_succ])
    go_cut [8] (fun v8 wc => ∃ (kq : Nat) (x8_11 : Int), v8 = .int .i64 x8_11 ∧ Aside0 (skiffref1_Append.j1 kq a0 t225 x8_11 = some (r1, r2)) ∧ Aside0 (kq ≤ kj3) ∧ Aside0 (wc.heap[gb224]? = some (.cells #[.int .i64 a1_0, .int .i64 a1_1, .int .i64 a1_2, .int .i64 a1_3] 23 (0, 0))) ∧ Aside0 (wc.heap[gb234]? = some (.cells #[.int .i64 t228, .int .i64 t229, .int .i64 t230, .int .i64 t231, .int .i64 t232] 25 (0, 0))) ∧ Aside0 (Below w.heap.size w wc))
    case first =>
     have H := HC12.out
     clear HC12
     by_cases c17 : t233 = 0
     ·rw [if_pos c17] at H
      have c17b0 : (t233 == 0) = true := beq_iff_eq.mpr c17
      have c17b1 : (t233 != 0) = false := bne_eq_false_iff_eq.mpr c17
      clear c17
      (first | rw [c17b0] | (simp only [i64_w, i32_w]; rw [c17b0]) | skip)
      have H' := Aside0.mk H
      clear H
      have hnb18 := NB234_224.out
      have hnc18 := NB224_234.out
      have hcz19_0 : w14.cell? ⟨gb234, 0, none⟩ = some (.int .i64 0) := (blk_cell BK234.out 0).trans rfl
      have hcz19_1 : w14.cell? ⟨gb234, 1, none⟩ = some (.int .i64 0) := (blk_cell BK234.out 1).trans rfl
      have hcz19_2 : w14.cell? ⟨gb234, 2, none⟩ = some (.int .i64 0) := (blk_cell BK234.out 2).trans rfl
      have hcz19_3 : w14.cell? ⟨gb234, 3, none⟩ = some (.int .i64 0) := (blk_cell BK234.out 3).trans rfl
      have hcz19_4 : w14.cell? ⟨gb234, 4, none⟩ = some (.int .i64 0) := (blk_cell BK234.out 4).trans rfl
      have hfz19_0 := blk_frozen BK234.out 0
      have hfz19_1 := blk_frozen BK234.out 1
      have hfz19_2 := blk_frozen BK234.out 2
      have hfz19_3 := blk_frozen BK234.out 3
      have hfz19_4 := blk_frozen BK234.out 4
      go_wp2
      go_meet
      case rel => exact ⟨_, (wrap64 (Int.tdiv t228 96)), q15_, H', ⟨by have := HJ3.out; first | omega | exact Nat.le_refl _⟩, ⟨by (with_reducible repeat (first | refine blk_drewN ?_ _ | refine blk_drew ?_ | refine blk_alloc ?_ _)); refine blk_far ?_ NB224_234.out _; (with_reducible repeat (first | refine blk_drewN ?_ _ | refine blk_drew ?_ | refine blk_alloc ?_ _)); refine blk_far ?_ NB224_234.out _; (with_reducible repeat (first | refine blk_drewN ?_ _ | refine blk_drew ?_ | refine blk_alloc ?_ _)); refine blk_far ?_ NB224_234.out _; (with_reducible repeat (first | refine blk_drewN ?_ _ | refine blk_drew ?_ | refine blk_alloc ?_ _)); refine blk_far ?_ NB224_234.out _; (with_reducible repeat (first | refine blk_drewN ?_ _ | refine blk_drew ?_ | refine blk_alloc ?_ _)); refine blk_far ?_ NB224_234.out _; (with_reducible repeat (first | refine blk_drewN ?_ _ | refine blk_drew ?_ | refine blk_alloc ?_ _)); exact BK224.out⟩, ⟨by (with_reducible repeat (first | refine blk_drewN ?_ _ | refine blk_drew ?_ | refine blk_alloc ?_ _)); refine blk_put (cs := #[.int .i64 t228, .int .i64 t229, .int .i64 t230, .int .i64 t231, .int .i64 0]) ?_ 4 _ rfl; (with_reducible repeat (first | refine blk_drewN ?_ _ | refine blk_drew ?_ | refine blk_alloc ?_ _)); refine blk_put (cs := #[.int .i64 t228, .int .i64 t229, .int .i64 t230, .int .i64 0, .int .i64 0]) ?_ 3 _ rfl; (with_reducible repeat (first | refine blk_drewN ?_ _ | refine blk_drew ?_ | refine blk_alloc ?_ _)); refine blk_put (cs := #[.int .i64 t228, .int .i64 t229, .int .i64 0, .int .i64 0, .int .i64 0]) ?_ 2 _ rfl; (with_reducible repeat (first | refine blk_drewN ?_ _ | refine blk_drew ?_ | refine blk_alloc ?_ _)); refine blk_put (cs := #[.int .i64 t228, .int .i64 0, .int .i64 0, .int .i64 0, .int .i64 0]) ?_ 1 _ rfl; (with_reducible repeat (first | refine blk_drewN ?_ _ | refine blk_drew ?_ | refine blk_alloc ?_ _)); refine blk_put (cs := #[.int .i64 0, .int .i64 0, .int .i64 0, .int .i64 0, .int .i64 0]) ?_ 0 _ rfl; (with_reducible repeat (first | refine blk_drewN ?_ _ | refine blk_drew ?_ | refine blk_alloc ?_ _)); exact BK234.out⟩, ⟨by repeat (first | (with_reducible first | exact HB.out | apply below_alloc | apply pw_below_drewN | apply below_drew1 | refine below_set ?_ GE224.out | refine below_set ?_ GE234.out) | exact HB.out)⟩⟩
     ·rw [if_neg c17] at H
      have c17b0 : (t233 == 0) = false := beq_eq_false_iff_ne.mpr c17
      have c17b1 : (t233 != 0) = true := bne_iff_ne.mpr c17
      (first | rw [c17b0] | (simp only [i64_w, i32_w]; rw [c17b0]) | skip)
      have H' := Aside0.mk H
      clear H
      go_wp2
      go_meet
      case rel => exact ⟨_, (0), q15_, H', ⟨by have := HJ3.out; first | omega | exact Nat.le_refl _⟩, ⟨by (with_reducible repeat (first | refine blk_drewN ?_ _ | refine blk_drew ?_ | refine blk_alloc ?_ _)); refine blk_far ?_ NB224_234.out _; (with_reducible repeat (first | refine blk_drewN ?_ _ | refine blk_drew ?_ | refine blk_alloc ?_ _)); refine blk_far ?_ NB224_234.out _; (with_reducible repeat (first | refine blk_drewN ?_ _ | refine blk_drew ?_ | refine blk_alloc ?_ _)); refine blk_far ?_ NB224_234.out _; (with_reducible repeat (first | refine blk_drewN ?_ _ | refine blk_drew ?_ | refine blk_alloc ?_ _)); refine blk_far ?_ NB224_234.out _; (with_reducible repeat (first | refine blk_drewN ?_ _ | refine blk_drew ?_ | refine blk_alloc ?_ _)); refine blk_far ?_ NB224_234.out _; (with_reducible repeat (first | refine blk_drewN ?_ _ | refine blk_drew ?_ | refine blk_alloc ?_ _)); exact BK224.out⟩, ⟨by (with_reducible repeat (first | refine blk_drewN ?_ _ | refine blk_drew ?_ | refine blk_alloc ?_ _)); refine blk_put (cs := #[.int .i64 t228, .int .i64 t229, .int .i64 t230, .int .i64 t231, .int .i64 0]) ?_ 4 _ rfl; (with_reducible repeat (first | refine blk_drewN ?_ _ | refine blk_drew ?_ | refine blk_alloc ?_ _)); refine blk_put (cs := #[.int .i64 t228, .int .i64 t229, .int .i64 t230, .int .i64 0, .int .i64 0]) ?_ 3 _ rfl; (with_reducible repeat (first | refine blk_drewN ?_ _ | refine blk_drew ?_ | refine blk_alloc ?_ _)); refine blk_put (cs := #[.int .i64 t228, .int .i64 t229, .int .i64 0, .int .i64 0, .int .i64 0]) ?_ 2 _ rfl; (with_reducible repeat (first | refine blk_drewN ?_ _ | refine blk_drew ?_ | refine blk_alloc ?_ _)); refine blk_put (cs := #[.int .i64 t228, .int .i64 0, .int .i64 0, .int .i64 0, .int .i64 0]) ?_ 1 _ rfl; (with_reducible repeat (first | refine blk_drewN ?_ _ | refine blk_drew ?_ | refine blk_alloc ?_ _)); refine blk_put (cs := #[.int .i64 0, .int .i64 0, .int .i64 0, .int .i64 0, .int .i64 0]) ?_ 0 _ rfl; (with_reducible repeat (first | refine blk_drewN ?_ _ | refine blk_drew ?_ | refine blk_alloc ?_ _)); exact BK234.out⟩, ⟨by repeat (first | (with_reducible first | exact HB.out | apply below_alloc | apply pw_below_drewN | apply below_drew1 | refine below_set ?_ GE224.out | refine below_set ?_ GE234.out) | exact HB.out)⟩⟩
    case rest =>
     clear HC12
     try clear c1
     try clear p2
     try clear c3
     try clear c4
     try clear p6
     try clear c9
     try clear c10
     try clear c15
     try clear c17
     try clear c17b0
     try clear c17b1
     try clear c18
     try clear c19
     try clear hcz16_0
     try clear hcz16_1
     try clear hcz16_2
     try clear hcz16_3
     try clear hcz16_4
     try clear hcz19_0
     try clear hcz19_1
     try clear hcz19_2
     try clear hcz19_3
     try clear hcz19_4
     try clear hcz6_0
     try clear hcz6_1
     try clear hcz6_2
     try clear hcz6_3
     try clear hfz16_0
     try clear hfz16_1
     try clear hfz16_2
     try clear hfz16_3
     try clear hfz16_4
     try clear hfz19_0
     try clear hfz19_1
     try clear hfz19_2
     try clear hfz19_3
     try clear hfz19_4
     try clear hfz6_0
     try clear hfz6_1
     try clear hfz6_2
     try clear hfz6_3
     try clear p2
     obtain ⟨kq, x8_11, rfl, HA, HJ11, BK224, BK234, HB⟩ := hcut
     cases kq with
     | zero => exact absurd HA.out (by simp [skiffref1_Append.j1])
     | succ kj11 =>
      have H := HA.out
      clear HA
      simp only [skiffref1_Append.j1] at H
      replace H := Option.bind_eq_some_iff.mp H
      obtain ⟨⟨t235, t236, t237⟩, A200, H⟩ := H
      replace H : (if t236 = true then ((skiffref1_Words.f kj11 t235 t225).bind fun bt238 => (if ([] : List (S87)).length + bt238.1.length < 4398046511104 then (some ((([] : List (S87)) ++ bt238.1), 0)) else (none))) else (if ([] : List (S87)).length < 4398046511104 then ((some (([] : List (S87)) ++ [(⟨true, wrap64 ((wrap64 (1 - x8_11)) * 96), (⟨#[]⟩ : ByteArray)⟩ : S87)] : List (S87))).bind fun y245 => ((skiffref1_Words.f kj11 (wrap64 ((wrap64 (1 - x8_11)) * 96)) t225).bind fun bt248 => (if y245.length + bt248.1.length < 4398046511104 then (some ((y245 ++ bt248.1), 0)) else (none)))) else (none))) = some (r1, r2) := H
      have A20 := Aside0.mk A200
      clear A200
      by_cases c21 : t236 = true
      ·subst c21
       have H1 : ((skiffref1_Words.f kj11 t235 t225).bind fun bt238 => (if ([] : List (S87)).length + bt238.1.length < 4398046511104 then (some ((([] : List (S87)) ++ bt238.1), 0)) else (none))) = some (r1, r2) := by rw [if_pos rfl] at H; exact H
       clear H
       have H := H1
       clear H1
       replace H := Option.bind_eq_some_iff.mp H
       obtain ⟨⟨t238, t239⟩, A220, H⟩ := H
       replace H : (if ([] : List (S87)).length + t238.length < 4398046511104 then (some ((([] : List (S87)) ++ t238), 0)) else (none)) = some (r1, r2) := H
       have A22 := Aside0.mk A220
       clear A220
       by_cases c23 : ([] : List (S87)).length + t238.length < 4398046511104
       ·rw [if_pos c23] at H
        have LMc23 := Aside0.mk c23
        clear c23
        obtain ⟨y242, hy242⟩ : ∃ y_ : List (S87), y_ = (([] : List (S87)) ++ t238) := ⟨_, rfl⟩
        replace H : (some (y242, 0)) = some (r1, r2) := by first | (rw [hy242]; with_reducible exact H) | (have H2_ := (Option.bind_some _ _).symm.trans H; rw [hy242]; with_reducible exact H2_) | (have H2_ := (Option.bind_some _ _).symm.trans H; with_reducible exact H2_) | with_reducible exact H | (rw [hy242]; exact H) | exact H
        have Ny242 := Aside0.mk hy242
        clear hy242
        simp only [Option.some.injEq, Prod.mk.injEq] at H
        obtain ⟨rfl, rfl⟩ := H
        go_wp2_with (first | ((with_reducible refine gate_callee (f := 69) rfl ?_); refine goesL_ (some 41) rfl rfl Try.func69 (by kernel_rfl) rfl #[.string a0, .int .i64 x8_11] rfl q1_ ?_; (with_reducible refine (skiffref1_FreePlace.calls kj11 a0 x8_11 t235 true t237 _ A20.out).mono ?_); rintro e w24 ⟨rfl, hb⟩; refine ⟨_, rfl, ?_⟩; have n0_ := Aside0.mk (blk_below (g := gb224) (o := .cells #[.int .i64 a1_0, .int .i64 a1_1, .int .i64 a1_2, .int .i64 a1_3] 23 (0, 0)) (by (with_reducible repeat (first | refine blk_drewN ?_ _ | refine blk_drew ?_ | refine blk_alloc ?_ _)); exact BK224.out) hb); have n1_ := Aside0.mk (blk_below (g := gb234) (o := .cells #[.int .i64 t228, .int .i64 t229, .int .i64 t230, .int .i64 t231, .int .i64 t232] 25 (0, 0)) (by (with_reducible repeat (first | refine blk_drewN ?_ _ | refine blk_drew ?_ | refine blk_alloc ?_ _)); exact BK234.out) hb); have n2_ := Aside0.mk (below_step (by repeat (first | (with_reducible first | exact HB.out | apply below_alloc | apply pw_below_drewN | apply below_drew1 | refine below_set ?_ GE224.out | refine below_set ?_ GE234.out) | exact HB.out)) hb); clear BK224; clear BK234; clear HB; have BK224 := n0_; have BK234 := n1_; have HB := n2_; clear n0_ n1_ n2_; (try clear hb); (try clear hb2); (try clear hk); (try clear hi)) | ((with_reducible refine gate_callee (f := 42) rfl ?_); refine goesL_ (some 58) rfl rfl Try.func42 (by kernel_rfl) rfl #[.int .i64 t235, .string t225] rfl q1_ ?_; (with_reducible refine (skiffref1_Words.calls kj11 t235 t225 t238 t239 _ A22.out).mono ?_); rintro e w25 ⟨v240, rfl, ho0, hb⟩; refine ⟨_, rfl, ?_⟩; have n0_ := Aside0.mk (Kd.R_lower ho0 (below_size (by repeat (first | (with_reducible first | exact HB.out | apply below_alloc | apply pw_below_drewN | apply below_drew1 | refine below_set ?_ GE224.out | refine below_set ?_ GE234.out) | exact HB.out)))); have n1_ := Aside0.mk (blk_below (g := gb224) (o := .cells #[.int .i64 a1_0, .int .i64 a1_1, .int .i64 a1_2, .int .i64 a1_3] 23 (0, 0)) (by (with_reducible repeat (first | refine blk_drewN ?_ _ | refine blk_drew ?_ | refine blk_alloc ?_ _)); exact BK224.out) hb); have n2_ := Aside0.mk (blk_below (g := gb234) (o := .cells #[.int .i64 t228, .int .i64 t229, .int .i64 t230, .int .i64 t231, .int .i64 t232] 25 (0, 0)) (by (with_reducible repeat (first | refine blk_drewN ?_ _ | refine blk_drew ?_ | refine blk_alloc ?_ _)); exact BK234.out) hb); have n3_ := Aside0.mk (below_step (by repeat (first | (with_reducible first | exact HB.out | apply below_alloc | apply pw_below_drewN | apply below_drew1 | refine below_set ?_ GE224.out | refine below_set ?_ GE234.out) | exact HB.out)) hb); clear BK224; clear BK234; clear HB; have HO241 := n0_; have BK224 := n1_; have BK234 := n2_; have HB := n3_; clear n0_ n1_ n2_ n3_; (try clear hb); (try clear hb2); (try clear hk); (try clear hi); (try clear ho0); obtain ⟨Ao27, co27, eo27⟩ := Kd.R_slice HO241.out; subst eo27) | ((with_reducible refine gate_builtin (b := .append) (xs := #[.tmp 61, .tmp 62]) rfl ?_); at_builtin; refine Kd.R_append_rows k87 (w0 := w) w.heap.size rfl (.tmp 61) (.tmp 62) 54 87 (.agg #[(.bool false), (.int .i64 0), (.string ⟨#[]⟩)]) 32 rfl Try.underlying54 info87 rfl (by decide) (by omega) (.slice none 0 0) ([] : List (S87)) t238 _ _ _ (fun k_ => some k_ ≠ (.slice Ao27 t238.length co27 : Value).ownBlock) (fun _ => False) rfl rfl ?aO ?aR (fun _ _ h => h) (fun _ h => h.elim) ?aF ?aB ?aS ?aL ?_; (case aR => repeat (first | exact (Kd.R_reads' HO241.out).2.2 | (with_reducible refine Kd.C_alloc ?_ _) | (with_reducible refine Kd.C_drewN ?_ _) | (with_reducible refine Kd.C_drew ?_))); (case aB => exact (by repeat (first | (with_reducible first | exact HB.out | apply below_alloc | apply pw_below_drewN | apply below_drew1 | refine below_set ?_ GE224.out | refine below_set ?_ GE234.out) | exact HB.out))); (case aF => exact (fun k_ hk => Kd.fresh' (Kd.R_lt (by (with_reducible repeat (first | apply Kd.R_alloc | apply Kd.R_drewN | apply Kd.R_drew)); exact HO241.out)) k_ hk)); (case aO => exact ((Kd.R_nil _ _ _ _ (fun k_ => some k_ ≠ (.slice Ao27 t238.length co27 : Value).ownBlock)))); (case aS => exact (below_size (by repeat (first | (with_reducible first | exact HB.out | apply below_alloc | apply pw_below_drewN | apply below_drew1 | refine below_set ?_ GE224.out | refine below_set ?_ GE234.out) | exact HB.out)))); (case aL => have := LMc23.out; omega); intro v243 w26 ho hb hg hat; rw [← Ny242.out] at ho; have n0_ := Aside0.mk (blk_grown (g := gb224) (o := .cells #[.int .i64 a1_0, .int .i64 a1_1, .int .i64 a1_2, .int .i64 a1_3] 23 (0, 0)) (by (with_reducible repeat (first | refine blk_drewN ?_ _ | refine blk_drew ?_ | refine blk_alloc ?_ _)); exact BK224.out) hg (by simp [Value.ownBlock])); have n1_ := Aside0.mk (blk_grown (g := gb234) (o := .cells #[.int .i64 t228, .int .i64 t229, .int .i64 t230, .int .i64 t231, .int .i64 t232] 25 (0, 0)) (by (with_reducible repeat (first | refine blk_drewN ?_ _ | refine blk_drew ?_ | refine blk_alloc ?_ _)); exact BK234.out) hg (by simp [Value.ownBlock])); have n2_ := Aside0.mk (Kd.R_after (Kd.R_apart_nil (by (with_reducible repeat (first | apply Kd.R_alloc | apply Kd.R_drewN | apply Kd.R_drew)); exact HO241.out)) hg hat); have n3_ := Aside0.mk (hb); have n4_ := Aside0.mk (ho); clear BK224; clear BK234; clear HO241; clear HB; have BK224 := n0_; have BK234 := n1_; have HO241 := n2_; have HB := n3_; have HO244 := n4_; clear n0_ n1_ n2_ n3_ n4_; clear ho hb hg hat))
        go_ret2
        exact ⟨_, by first | rfl | (simp [errW_none, errW_some] <;> rfl) | (simp [*, errW_none, errW_some] <;> rfl), by (with_reducible repeat (first | apply Kd.R_alloc | apply Kd.R_drewN | apply Kd.R_drew)); exact Kd.R_mono HO244.out (fun _ hk => trivial), by repeat (first | (with_reducible first | exact HB.out | apply below_alloc | apply pw_below_drewN | apply below_drew1 | refine below_set ?_ GE224.out | refine below_set ?_ GE234.out) | exact HB.out)⟩
       ·rw [if_neg c23] at H
        exact absurd H (by simp)
      ·replace c21 := Bool.eq_false_iff.mpr c21
       subst c21
       have H1 : (if ([] : List (S87)).length < 4398046511104 then ((some (([] : List (S87)) ++ [(⟨true, wrap64 ((wrap64 (1 - x8_11)) * 96), (⟨#[]⟩ : ByteArray)⟩ : S87)] : List (S87))).bind fun y245 => ((skiffref1_Words.f kj11 (wrap64 ((wrap64 (1 - x8_11)) * 96)) t225).bind fun bt248 => (if y245.length + bt248.1.length < 4398046511104 then (some ((y245 ++ bt248.1), 0)) else (none)))) else (none)) = some (r1, r2) := by rw [if_neg (show ¬ (false = true) by decide)] at H; exact H
       clear H
       have H := H1
       clear H1
       by_cases c28 : ([] : List (S87)).length < 4398046511104
       ·rw [if_pos c28] at H
        have LMc28 := Aside0.mk c28
        clear c28
        obtain ⟨y245, hy245⟩ : ∃ y_ : List (S87), y_ = (([] : List (S87)) ++ [(⟨true, wrap64 ((wrap64 (1 - x8_11)) * 96), (⟨#[]⟩ : ByteArray)⟩ : S87)]) := ⟨_, rfl⟩
        replace H : ((skiffref1_Words.f kj11 (wrap64 ((wrap64 (1 - x8_11)) * 96)) t225).bind fun bt248 => (if y245.length + bt248.1.length < 4398046511104 then (some ((y245 ++ bt248.1), 0)) else (none))) = some (r1, r2) := by first | (rw [hy245]; with_reducible exact H) | (have H2_ := (Option.bind_some _ _).symm.trans H; rw [hy245]; with_reducible exact H2_) | (have H2_ := (Option.bind_some _ _).symm.trans H; with_reducible exact H2_) | with_reducible exact H | (rw [hy245]; exact H) | exact H
        have Ny245 := Aside0.mk hy245
        clear hy245
        replace H := Option.bind_eq_some_iff.mp H
        obtain ⟨⟨t248, t249⟩, A290, H⟩ := H
        replace H : (if y245.length + t248.length < 4398046511104 then (some ((y245 ++ t248), 0)) else (none)) = some (r1, r2) := H
        have A29 := Aside0.mk A290
        clear A290
        by_cases c30 : y245.length + t248.length < 4398046511104
        ·rw [if_pos c30] at H
         have LMc30 := Aside0.mk c30
         clear c30
         obtain ⟨y252, hy252⟩ : ∃ y_ : List (S87), y_ = (y245 ++ t248) := ⟨_, rfl⟩
         replace H : (some (y252, 0)) = some (r1, r2) := by first | (rw [hy252]; with_reducible exact H) | (have H2_ := (Option.bind_some _ _).symm.trans H; rw [hy252]; with_reducible exact H2_) | (have H2_ := (Option.bind_some _ _).symm.trans H; with_reducible exact H2_) | with_reducible exact H | (rw [hy252]; exact H) | exact H
         have Ny252 := Aside0.mk hy252
         clear hy252
         simp only [Option.some.injEq, Prod.mk.injEq] at H
         obtain ⟨rfl, rfl⟩ := H
         go_wp2_with (first | ((with_reducible refine gate_callee (f := 69) rfl ?_); refine goesL_ (some 41) rfl rfl Try.func69 (by kernel_rfl) rfl #[.string a0, .int .i64 x8_11] rfl q1_ ?_; (with_reducible refine (skiffref1_FreePlace.calls kj11 a0 x8_11 t235 false t237 _ A20.out).mono ?_); rintro e w31 ⟨rfl, hb⟩; refine ⟨_, rfl, ?_⟩; have n0_ := Aside0.mk (blk_below (g := gb224) (o := .cells #[.int .i64 a1_0, .int .i64 a1_1, .int .i64 a1_2, .int .i64 a1_3] 23 (0, 0)) (by (with_reducible repeat (first | refine blk_drewN ?_ _ | refine blk_drew ?_ | refine blk_alloc ?_ _)); exact BK224.out) hb); have n1_ := Aside0.mk (blk_below (g := gb234) (o := .cells #[.int .i64 t228, .int .i64 t229, .int .i64 t230, .int .i64 t231, .int .i64 t232] 25 (0, 0)) (by (with_reducible repeat (first | refine blk_drewN ?_ _ | refine blk_drew ?_ | refine blk_alloc ?_ _)); exact BK234.out) hb); have n2_ := Aside0.mk (below_step (by repeat (first | (with_reducible first | exact HB.out | apply below_alloc | apply pw_below_drewN | apply below_drew1 | refine below_set ?_ GE224.out | refine below_set ?_ GE234.out) | exact HB.out)) hb); clear BK224; clear BK234; clear HB; have BK224 := n0_; have BK234 := n1_; have HB := n2_; clear n0_ n1_ n2_; (try clear hb); (try clear hb2); (try clear hk); (try clear hi)) | ((with_reducible refine gate_builtin (b := .append) (xs := #[.tmp 50, .tmp 53]) rfl ?_); at_builtin; refine Kd.R_append k87 (w0 := w) w.heap.size rfl (.tmp 50) (.tmp 53) 54 87 (.agg #[(.bool false), (.int .i64 0), (.string ⟨#[]⟩)]) 32 rfl Try.underlying54 info87 rfl (by decide) (by omega) (.slice none 0 0) ([] : List (S87)) (⟨true, wrap64 ((wrap64 (1 - x8_11)) * 96), (⟨#[]⟩ : ByteArray)⟩ : S87) [.bool true, .int .i64 (wrap64 ((wrap64 (1 - x8_11)) * 96)), .string (⟨#[]⟩ : ByteArray)] (fun _ => True) (fun _ => False) rfl rfl ?aP (fun _ hk => hk.elim) ?aF ?aO ?aB ?aS ?aL ?_; (case aP => exact k87_mkM _ _ _ (⟨true, wrap64 ((wrap64 (1 - x8_11)) * 96), (⟨#[]⟩ : ByteArray)⟩ : S87)); (case aB => exact (by repeat (first | (with_reducible first | exact HB.out | apply below_alloc | apply pw_below_drewN | apply below_drew1 | refine below_set ?_ GE224.out | refine below_set ?_ GE234.out) | exact HB.out))); (case aF => exact (fun _ _ => trivial)); (case aO => exact ((Kd.R_nil _ _ _ _ (fun _ => True)))); (case aS => exact (below_size (by repeat (first | (with_reducible first | exact HB.out | apply below_alloc | apply pw_below_drewN | apply below_drew1 | refine below_set ?_ GE224.out | refine below_set ?_ GE234.out) | exact HB.out)))); (case aL => have := LMc28.out; omega); intro v246 w32 ho hb hg hat; rw [← Ny245.out] at ho; have n0_ := Aside0.mk (blk_grown (g := gb224) (o := .cells #[.int .i64 a1_0, .int .i64 a1_1, .int .i64 a1_2, .int .i64 a1_3] 23 (0, 0)) (by (with_reducible repeat (first | refine blk_drewN ?_ _ | refine blk_drew ?_ | refine blk_alloc ?_ _)); exact BK224.out) hg (by simp [Value.ownBlock])); have n1_ := Aside0.mk (blk_grown (g := gb234) (o := .cells #[.int .i64 t228, .int .i64 t229, .int .i64 t230, .int .i64 t231, .int .i64 t232] 25 (0, 0)) (by (with_reducible repeat (first | refine blk_drewN ?_ _ | refine blk_drew ?_ | refine blk_alloc ?_ _)); exact BK234.out) hg (by simp [Value.ownBlock])); have n2_ := Aside0.mk (hb); have n3_ := Aside0.mk (ho); clear BK224; clear BK234; clear HB; have BK224 := n0_; have BK234 := n1_; have HB := n2_; have HO247 := n3_; clear n0_ n1_ n2_ n3_; clear ho hb hg hat) | ((with_reducible refine gate_callee (f := 42) rfl ?_); refine goesL_ (some 58) rfl rfl Try.func42 (by kernel_rfl) rfl #[.int .i64 (wrap64 ((wrap64 (1 - x8_11)) * 96)), .string t225] rfl q1_ ?_; (with_reducible refine (skiffref1_Words.calls kj11 (wrap64 ((wrap64 (1 - x8_11)) * 96)) t225 t248 t249 _ A29.out).mono ?_); rintro e w33 ⟨v250, rfl, ho0, hb⟩; refine ⟨_, rfl, ?_⟩; have n0_ := Aside0.mk (Kd.R_elder' (by (with_reducible repeat (first | apply Kd.R_alloc | apply Kd.R_drewN | apply Kd.R_drew)); exact HO247.out) (Kd.R_base ho0) hb); have n1_ := Aside0.mk (Kd.R_lower (Kd.R_new' ho0 (Kd.R_lt (by (with_reducible repeat (first | apply Kd.R_alloc | apply Kd.R_drewN | apply Kd.R_drew)); exact HO247.out))) (below_size (by repeat (first | (with_reducible first | exact HB.out | apply below_alloc | apply pw_below_drewN | apply below_drew1 | refine below_set ?_ GE224.out | refine below_set ?_ GE234.out) | exact HB.out)))); have n2_ := Aside0.mk (blk_below (g := gb224) (o := .cells #[.int .i64 a1_0, .int .i64 a1_1, .int .i64 a1_2, .int .i64 a1_3] 23 (0, 0)) (by (with_reducible repeat (first | refine blk_drewN ?_ _ | refine blk_drew ?_ | refine blk_alloc ?_ _)); exact BK224.out) hb); have n3_ := Aside0.mk (blk_below (g := gb234) (o := .cells #[.int .i64 t228, .int .i64 t229, .int .i64 t230, .int .i64 t231, .int .i64 t232] 25 (0, 0)) (by (with_reducible repeat (first | refine blk_drewN ?_ _ | refine blk_drew ?_ | refine blk_alloc ?_ _)); exact BK234.out) hb); have n4_ := Aside0.mk (below_step (by repeat (first | (with_reducible first | exact HB.out | apply below_alloc | apply pw_below_drewN | apply below_drew1 | refine below_set ?_ GE224.out | refine below_set ?_ GE234.out) | exact HB.out)) hb); clear HO247; clear BK224; clear BK234; clear HB; have HO247 := n0_; have HO251 := n1_; have BK224 := n2_; have BK234 := n3_; have HB := n4_; clear n0_ n1_ n2_ n3_ n4_; (try clear hb); (try clear hb2); (try clear hk); (try clear hi); (try clear ho0); obtain ⟨Ao35, co35, eo35⟩ := Kd.R_slice HO251.out; subst eo35) | ((with_reducible refine gate_builtin (b := .append) (xs := #[.tmp 61, .tmp 62]) rfl ?_); at_builtin; refine Kd.R_append_rows k87 (w0 := w) w.heap.size rfl (.tmp 61) (.tmp 62) 54 87 (.agg #[(.bool false), (.int .i64 0), (.string ⟨#[]⟩)]) 32 rfl Try.underlying54 info87 rfl (by decide) (by omega) v246 y245 t248 _ _ _ (fun k_ => some k_ ≠ (.slice Ao35 t248.length co35 : Value).ownBlock) (fun _ => False) rfl rfl ?aO ?aR (fun _ _ h => h) (fun _ h => h.elim) ?aF ?aB ?aS ?aL ?_; (case aR => repeat (first | exact (Kd.R_reads' HO251.out).2.2 | (with_reducible refine Kd.C_alloc ?_ _) | (with_reducible refine Kd.C_drewN ?_ _) | (with_reducible refine Kd.C_drew ?_))); (case aB => exact (by repeat (first | (with_reducible first | exact HB.out | apply below_alloc | apply pw_below_drewN | apply below_drew1 | refine below_set ?_ GE224.out | refine below_set ?_ GE234.out) | exact HB.out))); (case aF => exact (fun k_ hk => Kd.fresh' (Kd.R_lt (by (with_reducible repeat (first | apply Kd.R_alloc | apply Kd.R_drewN | apply Kd.R_drew)); exact HO251.out)) k_ hk)); (case aO => exact (by (with_reducible repeat (first | apply Kd.R_alloc | apply Kd.R_drewN | apply Kd.R_drew)); exact Kd.R_mono HO247.out (fun _ hk => hk.2))); (case aS => exact (below_size (by repeat (first | (with_reducible first | exact HB.out | apply below_alloc | apply pw_below_drewN | apply below_drew1 | refine below_set ?_ GE224.out | refine below_set ?_ GE234.out) | exact HB.out)))); (case aL => have := LMc30.out; omega); intro v253 w34 ho hb hg hat; rw [← Ny252.out] at ho; have n0_ := Aside0.mk (blk_grown (g := gb224) (o := .cells #[.int .i64 a1_0, .int .i64 a1_1, .int .i64 a1_2, .int .i64 a1_3] 23 (0, 0)) (by (with_reducible repeat (first | refine blk_drewN ?_ _ | refine blk_drew ?_ | refine blk_alloc ?_ _)); exact BK224.out) hg (Kd.R_ne HO247.out BK224.out (by decide))); have n1_ := Aside0.mk (blk_grown (g := gb234) (o := .cells #[.int .i64 t228, .int .i64 t229, .int .i64 t230, .int .i64 t231, .int .i64 t232] 25 (0, 0)) (by (with_reducible repeat (first | refine blk_drewN ?_ _ | refine blk_drew ?_ | refine blk_alloc ?_ _)); exact BK234.out) hg (Kd.R_ne HO247.out BK234.out (by decide))); have n2_ := Aside0.mk (Kd.R_after (ok := (fun _ => True)) (by (with_reducible repeat (first | apply Kd.R_alloc | apply Kd.R_drewN | apply Kd.R_drew)); exact HO251.out) hg hat); have n3_ := Aside0.mk (hb); have n4_ := Aside0.mk (ho); clear BK224; clear BK234; clear HO251; clear HB; clear HO247; have BK224 := n0_; have BK234 := n1_; have HO251 := n2_; have HB := n3_; have HO254 := n4_; clear n0_ n1_ n2_ n3_ n4_; clear ho hb hg hat))
         go_ret2
         exact ⟨_, by first | rfl | (simp [errW_none, errW_some] <;> rfl) | (simp [*, errW_none, errW_some] <;> rfl), by (with_reducible repeat (first | apply Kd.R_alloc | apply Kd.R_drewN | apply Kd.R_drew)); exact Kd.R_mono HO254.out (fun _ hk => trivial), by repeat (first | (with_reducible first | exact HB.out | apply below_alloc | apply pw_below_drewN | apply below_drew1 | refine below_set ?_ GE224.out | refine below_set ?_ GE234.out) | exact HB.out)⟩
        ·rw [if_neg c30] at H
         exact absurd H (by simp)
       ·rw [if_neg c28] at H
        exact absurd H (by simp)
end Go.Proofs.Ytjadcjkjpkkmkaa.PAll

-- Written by this session's own program (wip/tools/myprint.py), which runs the kit's print over functions proved by hand.
namespace Go.Proofs.Ytjadcjkjpkkmkaa.PAll
open Go.RowKit Go.Proofs.YtjadcjkjpkkmkaaW.PrintWords Go.Proofs.YtjadcjkjpkkmkaaW.PrintLast Go.Proofs.YtjadcjkjpkkmkaaW.PrintMore
attribute [local go_sem] max2_int min2_int max_two min_two max_three min_three max_four min_four   -- for this text's walks alone
set_option linter.unusedVariables false
set_option linter.unusedSimpArgs false
attribute [local go_sem high] eqA25
mutual
def skifflaw7_held.l0 : Nat → ByteArray → List (S87) → Int → Option (ByteArray)
 | 0, _, _, _ => none
 | k + 1, x1, x2, x4 => if x4 < (x2.length : Int) then (if 0 ≤ x4 then ((skiffref1_Do.f k x1 ((rd_T87 x2 x4).f0) ((rd_T87 x2 x4).f1) ((rd_T87 x2 x4).f2)).bind fun bt261 => (skifflaw7_held.l0 k bt261.1 x2 (wrap64 (x4 + 1)))) else (none)) else ((skiffref1_RecordOf.f k x1 0 12).bind fun bt263 => ((skiffref1_Append.f k x1 bt263.1 bt263.2.1 bt263.2.2.1 bt263.2.2.2.1).bind fun bt269 => (skifflaw7_held.l1 k x1 bt269.1 0)))
def skifflaw7_held.l1 : Nat → ByteArray → List (S87) → Int → Option (ByteArray)
 | 0, _, _, _ => none
 | k + 1, x1, x2, x7 => if x7 < (x2.length : Int) then (if 0 ≤ x7 then ((skiffref1_Do.f k x1 ((rd_T87 x2 x7).f0) ((rd_T87 x2 x7).f1) ((rd_T87 x2 x7).f2)).bind fun bt274 => (skifflaw7_held.l1 k bt274.1 x2 (wrap64 (x7 + 1)))) else (none)) else (some x1)
end
def skifflaw7_held.f (k : Nat)  : Option (ByteArray) := (skiffref1_Blank.f k).bind fun t255 => ((skiffref1_Words.f k 192 (⟨#[97, 98, 97, 98, 97, 98, 97, 98, 97, 98, 97, 98]⟩ : ByteArray)).bind fun bt256 => (skifflaw7_held.l0 k t255 bt256.1 0))
set_option maxHeartbeats 8000000 in
set_option maxRecDepth 100000 in
theorem skifflaw7_held.calls (k : Nat)  (r : ByteArray) (w : World) (h : skifflaw7_held.f k  = some r) :
  Calls Try.prog 22 #[] w fun e w' => e = .returned (.string r) ∧ Below w.heap.size w w' := by
 have hu87 := Try.underlying87
 have hu23 := Try.underlying23
 have HB := Aside0.mk (Below.refl w.heap.size w)
 have H : ((skiffref1_Blank.f k).bind fun t255 => ((skiffref1_Words.f k 192 (⟨#[97, 98, 97, 98, 97, 98, 97, 98, 97, 98, 97, 98]⟩ : ByteArray)).bind fun bt256 => (skifflaw7_held.l0 k t255 bt256.1 0))) = some r := h
 clear h
 replace H := Option.bind_eq_some_iff.mp H
 obtain ⟨t255, A10, H⟩ := H
 replace H : ((skiffref1_Words.f k 192 (⟨#[97, 98, 97, 98, 97, 98, 97, 98, 97, 98, 97, 98]⟩ : ByteArray)).bind fun bt256 => (skifflaw7_held.l0 k t255 bt256.1 0)) = some r := H
 have A1 := Aside0.mk A10
 clear A10
 replace H := Option.bind_eq_some_iff.mp H
 obtain ⟨⟨t256, t257⟩, A20, H⟩ := H
 replace H : (skifflaw7_held.l0 k t255 t256 0) = some r := H
 have A2 := Aside0.mk A20
 clear A20
 have H' := Aside0.mk H
 clear H
 go_enter Try.func22, Try.ntmps22
 go_wp2_with (first | ((with_reducible refine gate_callee (f := 17) rfl ?_); refine goesL_ (some 8) rfl rfl Try.func17 (by kernel_rfl) rfl #[] rfl q1_ ?_; (with_reducible refine (skiffref1_Blank.calls k  t255 _ A1.out).mono ?_); rintro e w3 ⟨rfl, hb⟩; refine ⟨_, rfl, ?_⟩; have n0_ := Aside0.mk (below_step q2_ hb); clear HB; have HB := n0_; clear n0_; (try clear hb); (try clear hb2); (try clear hk); (try clear hi)) | ((with_reducible refine gate_callee (f := 42) rfl ?_); refine goesL_ (some 10) rfl rfl Try.func42 (by kernel_rfl) rfl #[.int .i64 192, .string (⟨#[97, 98, 97, 98, 97, 98, 97, 98, 97, 98, 97, 98]⟩ : ByteArray)] rfl q1_ ?_; (with_reducible refine (skiffref1_Words.calls k 192 (⟨#[97, 98, 97, 98, 97, 98, 97, 98, 97, 98, 97, 98]⟩ : ByteArray) t256 t257 _ A2.out).mono ?_); rintro e w4 ⟨v258, rfl, ho0, hb⟩; refine ⟨_, rfl, ?_⟩; have n0_ := Aside0.mk (Kd.R_lower ho0 (below_size q2_)); have n1_ := Aside0.mk (below_step q2_ hb); clear HB; have HO259 := n0_; have HB := n1_; clear n0_ n1_; (try clear hb); (try clear hb2); (try clear hk); (try clear hi); (try clear ho0)))
 go_loopg [1, 4] k (fun kq v1 v4 w' => ∃ (x1_1 : ByteArray) (x4_1 : Int), v1 = .string x1_1 ∧ v4 = .int .i64 x4_1 ∧ Aside0 (skifflaw7_held.l0 kq x1_1 t256 x4_1 = some r) ∧ Aside0 (kq ≤ k) ∧ Aside0 (Kd.R k87 87 w' w.heap.size (fun _ => True) v258 t256) ∧ Aside0 (Below w.heap.size w w'))
 case atStart => exact ⟨(t255), (0), q15_, q15_, H', ⟨Nat.le_refl _⟩, ⟨by (with_reducible repeat (first | apply Kd.R_alloc | apply Kd.R_drewN | apply Kd.R_drew)); exact HO259.out⟩, ⟨by repeat (first | (with_reducible first | exact HB.out | apply below_alloc | apply pw_below_drewN | apply below_drew1) | exact HB.out)⟩⟩
 case round =>
  clear H'
  try clear c1
  try clear c2
  try clear p2
  try clear c4
  obtain ⟨x1_1, x4_1, rfl, rfl, HA, HK1, HO_2, HB⟩ := hrel
  cases gk with
  | zero => exact absurd HA.out (by simp [skifflaw7_held.l0])
  | succ k1 =>
   have H := HA.out
   clear HA
   simp only [skifflaw7_held.l0] at H
   by_cases c5 : x4_1 < (t256.length : Int)
   ·rw [if_pos c5] at H
    have c5b0 : decide (x4_1 < (t256.length : Int)) = true := decide_eq_true c5
    clear c5
    by_cases c6 : 0 ≤ x4_1
    ·rw [if_pos c6] at H
     have c6b0 : decide (0 ≤ x4_1) = true := decide_eq_true c6
     clear c6
     replace H := Option.bind_eq_some_iff.mp H
     obtain ⟨⟨t261, t262⟩, A70, H⟩ := H
     replace H : (skifflaw7_held.l0 k1 t261 t256 (wrap64 (x4_1 + 1))) = some r := H
     have A7 := Aside0.mk A70
     clear A70
     have H' := Aside0.mk H
     clear H
     obtain ⟨Ao8, co8, eo8⟩ := Kd.R_slice HO_2.out
     subst eo8
     have p260 : 0 ≤ (x4_1 : Int) := of_decide_eq_true q14_
     have q260 : x4_1 < (t256.length : Int) := of_decide_eq_true q14_
     obtain ⟨ad260, e260, hx260_0, hx260_1, hx260_2⟩ := at_T87 (Kd.R_reads' HO_2.out).2.2 x4_1 p260 q260
     cases e260
     replace p260 := eq_true p260
     replace q260 := eq_true q260
     go_wp2_with (first | ((with_reducible refine gate_callee (f := 43) rfl ?_); refine goesL_ (some 25) rfl rfl Try.func43 (by kernel_rfl) rfl #[.string x1_1, .agg #[.bool ((rd_T87 t256 x4_1).f0), .int .i64 ((rd_T87 t256 x4_1).f1), .string ((rd_T87 t256 x4_1).f2)]] rfl q1_ ?_; (with_reducible refine (skiffref1_Do.calls k1 x1_1 ((rd_T87 t256 x4_1).f0) ((rd_T87 t256 x4_1).f1) ((rd_T87 t256 x4_1).f2) t261 t262 _ A7.out).mono ?_); rintro e w9 ⟨rfl, hb⟩; refine ⟨_, rfl, ?_⟩; have n0_ := Aside0.mk (Kd.R_below (by (with_reducible repeat (first | apply Kd.R_alloc | apply Kd.R_drewN | apply Kd.R_drew)); exact HO_2.out) hb); have n1_ := Aside0.mk (below_step q2_ hb); clear HO_2; clear HB; have HO_2 := n0_; have HB := n1_; clear n0_ n1_; (try clear hb); (try clear hb2); (try clear hk); (try clear hi)))
     go_roundg k1
     case measure => have := HK1.out; omega
     case rel => exact ⟨(t261), (wrap64 (x4_1 + 1)), q15_, q15_, H', ⟨by have := HK1.out; omega⟩, ⟨by (with_reducible repeat (first | apply Kd.R_alloc | apply Kd.R_drewN | apply Kd.R_drew)); exact HO_2.out⟩, ⟨by repeat (first | (with_reducible first | exact HB.out | apply below_alloc | apply pw_below_drewN | apply below_drew1) | exact HB.out)⟩⟩
    ·rw [if_neg c6] at H
     exact absurd H (by simp)
   ·rw [if_neg c5] at H
    have c5b0 : decide (x4_1 < (t256.length : Int)) = false := decide_eq_false c5
    clear c5
    replace H := Option.bind_eq_some_iff.mp H
    obtain ⟨⟨t263, t264, t265, t266, t267⟩, A100, H⟩ := H
    replace H : ((skiffref1_Append.f k1 x1_1 t263 t264 t265 t266).bind fun bt269 => (skifflaw7_held.l1 k1 x1_1 bt269.1 0)) = some r := H
    have A10 := Aside0.mk A100
    clear A100
    replace H := Option.bind_eq_some_iff.mp H
    obtain ⟨⟨t269, t272⟩, A110, H⟩ := H
    replace H : (skifflaw7_held.l1 k1 x1_1 t269 0) = some r := H
    have A11 := Aside0.mk A110
    clear A110
    have H' := Aside0.mk H
    clear H
    obtain ⟨Ao12, co12, eo12⟩ := Kd.R_slice HO_2.out
    subst eo12
    go_wp2_with (first | ((with_reducible refine gate_callee (f := 44) rfl ?_); refine goesL_ (some 30) rfl rfl Try.func44 (by kernel_rfl) rfl #[.string x1_1, .int .i64 0, .int .i64 12] rfl q1_ ?_; (with_reducible refine (skiffref1_RecordOf.calls k1 x1_1 0 12 t263 t264 t265 t266 t267 _ A10.out).mono ?_); rintro e w13 ⟨rfl, hb⟩; refine ⟨_, rfl, ?_⟩; have n0_ := Aside0.mk (Kd.R_below (by (with_reducible repeat (first | apply Kd.R_alloc | apply Kd.R_drewN | apply Kd.R_drew)); exact HO_2.out) hb); have n1_ := Aside0.mk (below_step q2_ hb); clear HO_2; clear HB; have HO_2 := n0_; have HB := n1_; clear n0_ n1_; (try clear hb); (try clear hb2); (try clear hk); (try clear hi)) | ((with_reducible refine gate_dst (N := 5) rfl ?_); refine box_event ?hg (N := 5) ?hd (cs := #[.int .i64 0, .int .i64 0, .int .i64 0, .int .i64 0]) (t := 23) ?hr ?_; (case hd => rfl); (case hg => rfl); (case hr => first | (go_simp; done) | (go_simp; rfl)); intro gb268 hg w14 hbox hb; have n0_ := Aside0.mk (Kd.R_below (by (with_reducible repeat (first | apply Kd.R_alloc | apply Kd.R_drewN | apply Kd.R_drew)); exact HO_2.out) hb); have n1_ := Aside0.mk (below_step q2_ hb); have n2_ := Aside0.mk (hbox); have n3_ := Aside0.mk ((by rw [hg]; exact (below_size q2_) : w.heap.size ≤ gb268)); have n4_ := Aside0.mk ((by rw [hg]; exact (below_size q2_) : w.heap.size ≤ gb268)); clear HO_2; clear HB; have HO_2 := n0_; have HB := n1_; have BK268 := n2_; have GW268 := n3_; have GE268 := n4_; clear n0_ n1_ n2_ n3_ n4_; clear hb hbox hg; have hcz15_0 : w14.cell? ⟨gb268, 0, none⟩ = some (.int .i64 0) := (blk_cell BK268.out 0).trans rfl; have hcz15_1 : w14.cell? ⟨gb268, 1, none⟩ = some (.int .i64 0) := (blk_cell BK268.out 1).trans rfl; have hcz15_2 : w14.cell? ⟨gb268, 2, none⟩ = some (.int .i64 0) := (blk_cell BK268.out 2).trans rfl; have hcz15_3 : w14.cell? ⟨gb268, 3, none⟩ = some (.int .i64 0) := (blk_cell BK268.out 3).trans rfl; have hfz15_0 := blk_frozen BK268.out 0; have hfz15_1 := blk_frozen BK268.out 1; have hfz15_2 := blk_frozen BK268.out 2; have hfz15_3 := blk_frozen BK268.out 3) | ((with_reducible refine gate_callee (f := 45) rfl ?_); refine goesL_ (some 36) rfl rfl Try.func45 (by kernel_rfl) rfl #[.string x1_1, .agg #[.int .i64 t263, .int .i64 t264, .int .i64 t265, .int .i64 t266]] rfl q1_ ?_; (with_reducible refine (skiffref1_Append.calls k1 x1_1 t263 t264 t265 t266 t269 t272 _ A11.out).mono ?_); rintro e w16 ⟨v270, rfl, ho0, hb⟩; refine ⟨_, rfl, ?_⟩; have n0_ := Aside0.mk (Kd.R_elder' (by (with_reducible repeat (first | apply Kd.R_alloc | apply Kd.R_drewN | apply Kd.R_drew)); exact (Kd.R_mono (Kd.R_far (p := ⟨gb268, 3, none⟩) (Kd.R_far (p := ⟨gb268, 2, none⟩) (Kd.R_far (p := ⟨gb268, 1, none⟩) (Kd.R_far (p := ⟨gb268, 0, none⟩) (Kd.R_types HO_2.out BK268.out (by decide)) (fun _ hk => hk.2) (.int .i64 t263)) (fun _ hk => hk.2) (.int .i64 t264)) (fun _ hk => hk.2) (.int .i64 t265)) (fun _ hk => hk.2) (.int .i64 t266)) (fun _ h_ => h_.1))) (Kd.R_base ho0) hb); have n1_ := Aside0.mk (Kd.R_lower (Kd.R_new' ho0 (Kd.R_lt (by (with_reducible repeat (first | apply Kd.R_alloc | apply Kd.R_drewN | apply Kd.R_drew)); exact (Kd.R_mono (Kd.R_far (p := ⟨gb268, 3, none⟩) (Kd.R_far (p := ⟨gb268, 2, none⟩) (Kd.R_far (p := ⟨gb268, 1, none⟩) (Kd.R_far (p := ⟨gb268, 0, none⟩) (Kd.R_types HO_2.out BK268.out (by decide)) (fun _ hk => hk.2) (.int .i64 t263)) (fun _ hk => hk.2) (.int .i64 t264)) (fun _ hk => hk.2) (.int .i64 t265)) (fun _ hk => hk.2) (.int .i64 t266)) (fun _ h_ => h_.1))))) (below_size (by repeat (first | (with_reducible first | exact HB.out | apply below_alloc | apply pw_below_drewN | apply below_drew1 | refine below_set ?_ GE268.out) | exact HB.out)))); have n2_ := Aside0.mk (blk_below (g := gb268) (o := .cells #[.int .i64 t263, .int .i64 t264, .int .i64 t265, .int .i64 t266] 23 (0, 0)) (by (with_reducible repeat (first | refine blk_drewN ?_ _ | refine blk_drew ?_ | refine blk_alloc ?_ _)); refine blk_put (cs := #[.int .i64 t263, .int .i64 t264, .int .i64 t265, .int .i64 0]) ?_ 3 _ rfl; (with_reducible repeat (first | refine blk_drewN ?_ _ | refine blk_drew ?_ | refine blk_alloc ?_ _)); refine blk_put (cs := #[.int .i64 t263, .int .i64 t264, .int .i64 0, .int .i64 0]) ?_ 2 _ rfl; (with_reducible repeat (first | refine blk_drewN ?_ _ | refine blk_drew ?_ | refine blk_alloc ?_ _)); refine blk_put (cs := #[.int .i64 t263, .int .i64 0, .int .i64 0, .int .i64 0]) ?_ 1 _ rfl; (with_reducible repeat (first | refine blk_drewN ?_ _ | refine blk_drew ?_ | refine blk_alloc ?_ _)); refine blk_put (cs := #[.int .i64 0, .int .i64 0, .int .i64 0, .int .i64 0]) ?_ 0 _ rfl; (with_reducible repeat (first | refine blk_drewN ?_ _ | refine blk_drew ?_ | refine blk_alloc ?_ _)); exact BK268.out) hb); have n3_ := Aside0.mk (below_step (by repeat (first | (with_reducible first | exact HB.out | apply below_alloc | apply pw_below_drewN | apply below_drew1 | refine below_set ?_ GE268.out) | exact HB.out)) hb); clear HO_2; clear BK268; clear HB; have HO_2 := n0_; have HO271 := n1_; have BK268 := n2_; have HB := n3_; clear n0_ n1_ n2_ n3_; (try clear hb); (try clear hb2); (try clear hk); (try clear hi); (try clear ho0)))
    go_loopg [1, 7] k1 (fun kq v1 v7 w' => ∃ (x1_2 : ByteArray) (x7_2 : Int), v1 = .string x1_2 ∧ v7 = .int .i64 x7_2 ∧ Aside0 (skifflaw7_held.l1 kq x1_2 t269 x7_2 = some r) ∧ Aside0 (kq ≤ k1) ∧ Aside0 (Kd.R k87 87 w' w.heap.size (fun _ => True) v270 t269) ∧ Aside0 (w'.heap[gb268]? = some (.cells #[.int .i64 t263, .int .i64 t264, .int .i64 t265, .int .i64 t266] 23 (0, 0))) ∧ Aside0 (Below w.heap.size w w'))
    case atStart => exact ⟨(x1_1), (0), q15_, q15_, H', ⟨Nat.le_refl _⟩, ⟨by (with_reducible repeat (first | apply Kd.R_alloc | apply Kd.R_drewN | apply Kd.R_drew)); exact Kd.R_mono HO271.out (fun _ hk => trivial)⟩, ⟨by (with_reducible repeat (first | refine blk_drewN ?_ _ | refine blk_drew ?_ | refine blk_alloc ?_ _)); exact BK268.out⟩, ⟨by repeat (first | (with_reducible first | exact HB.out | apply below_alloc | apply pw_below_drewN | apply below_drew1 | refine below_set ?_ GE268.out) | exact HB.out)⟩⟩
    case round =>
     clear H'
     try clear c1
     try clear c2
     try clear p2
     try clear q2
     try clear hx2
     try clear c4
     try clear c5
     try clear c5b0
     try clear c6
     try clear c6b0
     try clear p6
     try clear hcz15_0
     try clear hcz15_1
     try clear hcz15_2
     try clear hcz15_3
     try clear hfz15_0
     try clear hfz15_1
     try clear hfz15_2
     try clear hfz15_3
     try clear hx260_0
     try clear hx260_1
     try clear hx260_2
     try clear p2
     try clear p260
     try clear q260
     obtain ⟨x1_2, x7_2, rfl, rfl, HA, HK2, HO_2, BK268, HB⟩ := hrel
     cases gk with
     | zero => exact absurd HA.out (by simp [skifflaw7_held.l1])
     | succ k2 =>
      have H := HA.out
      clear HA
      simp only [skifflaw7_held.l1] at H
      by_cases c17 : x7_2 < (t269.length : Int)
      ·rw [if_pos c17] at H
       have c17b0 : decide (x7_2 < (t269.length : Int)) = true := decide_eq_true c17
       clear c17
       by_cases c18 : 0 ≤ x7_2
       ·rw [if_pos c18] at H
        have c18b0 : decide (0 ≤ x7_2) = true := decide_eq_true c18
        clear c18
        replace H := Option.bind_eq_some_iff.mp H
        obtain ⟨⟨t274, t275⟩, A190, H⟩ := H
        replace H : (skifflaw7_held.l1 k2 t274 t269 (wrap64 (x7_2 + 1))) = some r := H
        have A19 := Aside0.mk A190
        clear A190
        have H' := Aside0.mk H
        clear H
        obtain ⟨Ao20, co20, eo20⟩ := Kd.R_slice HO_2.out
        subst eo20
        have p273 : 0 ≤ (x7_2 : Int) := of_decide_eq_true q14_
        have q273 : x7_2 < (t269.length : Int) := of_decide_eq_true q14_
        obtain ⟨ad273, e273, hx273_0, hx273_1, hx273_2⟩ := at_T87 (Kd.R_reads' HO_2.out).2.2 x7_2 p273 q273
        cases e273
        replace p273 := eq_true p273
        replace q273 := eq_true q273
        go_wp2_with (first | ((with_reducible refine gate_callee (f := 43) rfl ?_); refine goesL_ (some 51) rfl rfl Try.func43 (by kernel_rfl) rfl #[.string x1_2, .agg #[.bool ((rd_T87 t269 x7_2).f0), .int .i64 ((rd_T87 t269 x7_2).f1), .string ((rd_T87 t269 x7_2).f2)]] rfl q1_ ?_; (with_reducible refine (skiffref1_Do.calls k2 x1_2 ((rd_T87 t269 x7_2).f0) ((rd_T87 t269 x7_2).f1) ((rd_T87 t269 x7_2).f2) t274 t275 _ A19.out).mono ?_); rintro e w21 ⟨rfl, hb⟩; refine ⟨_, rfl, ?_⟩; have n0_ := Aside0.mk (Kd.R_below (by (with_reducible repeat (first | apply Kd.R_alloc | apply Kd.R_drewN | apply Kd.R_drew)); exact HO_2.out) hb); have n1_ := Aside0.mk (blk_below (g := gb268) (o := .cells #[.int .i64 t263, .int .i64 t264, .int .i64 t265, .int .i64 t266] 23 (0, 0)) (by (with_reducible repeat (first | refine blk_drewN ?_ _ | refine blk_drew ?_ | refine blk_alloc ?_ _)); exact BK268.out) hb); have n2_ := Aside0.mk (below_step (by repeat (first | (with_reducible first | exact HB.out | apply below_alloc | apply pw_below_drewN | apply below_drew1 | refine below_set ?_ GE268.out) | exact HB.out)) hb); clear HO_2; clear BK268; clear HB; have HO_2 := n0_; have BK268 := n1_; have HB := n2_; clear n0_ n1_ n2_; (try clear hb); (try clear hb2); (try clear hk); (try clear hi)))
        go_roundg k2
        case measure => have := HK1.out; have := HK2.out; omega
        case rel => exact ⟨(t274), (wrap64 (x7_2 + 1)), q15_, q15_, H', ⟨by have := HK1.out; have := HK2.out; omega⟩, ⟨by (with_reducible repeat (first | apply Kd.R_alloc | apply Kd.R_drewN | apply Kd.R_drew)); exact HO_2.out⟩, ⟨by (with_reducible repeat (first | refine blk_drewN ?_ _ | refine blk_drew ?_ | refine blk_alloc ?_ _)); exact BK268.out⟩, ⟨by repeat (first | (with_reducible first | exact HB.out | apply below_alloc | apply pw_below_drewN | apply below_drew1 | refine below_set ?_ GE268.out) | exact HB.out)⟩⟩
       ·rw [if_neg c18] at H
        exact absurd H (by simp)
      ·rw [if_neg c17] at H
       have c17b0 : decide (x7_2 < (t269.length : Int)) = false := decide_eq_false c17
       clear c17
       obtain rfl := Option.some.inj H
       obtain ⟨Ao22, co22, eo22⟩ := Kd.R_slice HO_2.out
       subst eo22
       go_wp2
       go_ret
       exact ⟨by first | rfl | (simp [errW_none, errW_some] <;> rfl) | (simp [*, errW_none, errW_some] <;> rfl), by repeat (first | (with_reducible first | exact HB.out | apply below_alloc | apply pw_below_drewN | apply below_drew1 | refine below_set ?_ GE268.out) | exact HB.out)⟩
def skifflaw7_awake.f (k : Nat)  : Option (Bool) := (skifflaw7_held.f k).bind fun t276 => ((Hand.choose_Active.f k t276).bind fun bt277 => ((skifflaw7_held.f k).bind fun t284 => ((choose_Other.f k t284).bind fun bt285 => ((skiffref1_Blank.f k).bind fun t287 => ((Hand.choose_Active.f k t287).bind fun bt288 => ((skiffref1_Blank.f k).bind fun t295 => ((choose_Other.f k t295).bind fun bt296 => ((Hand.choose_Active.f k (⟨#[]⟩ : ByteArray)).bind fun bt298 => (if bt277.1 = 0 then (if bt277.2.1 = 1 then ((skifflaw0_Num.f bt277.2.2.2.2.2).bind fun t305 => (if t305 = 0 then (if bt285.1 = 1 then ((skifflaw0_Num.f bt285.2).bind fun t306 => (if t306 = 0 then ((skifflaw0_Num.f bt288.2.2.2.2.2).bind fun t307 => (if t307 = 701 then (if bt296.1 = 0 then ((skifflaw0_Num.f bt296.2).bind fun t308 => (if t308 = 0 then ((skifflaw0_Num.f bt298.2.2.2.2.2).bind fun t309 => (some (t309 == 700))) else (none))) else (none)) else (none))) else (none))) else (none)) else (none))) else (none)) else (none))))))))))
set_option maxHeartbeats 8000000 in
set_option maxRecDepth 100000 in
theorem skifflaw7_awake.calls (k : Nat)  (r : Bool) (w : World) (h : skifflaw7_awake.f k  = some r) :
  Calls Try.prog 14 #[] w fun e w' => e = .returned (.bool r) ∧ Below w.heap.size w w' := by
 have hu25 := Try.underlying25
 have HB := Aside0.mk (Below.refl w.heap.size w)
 have H : ((skifflaw7_held.f k).bind fun t276 => ((Hand.choose_Active.f k t276).bind fun bt277 => ((skifflaw7_held.f k).bind fun t284 => ((choose_Other.f k t284).bind fun bt285 => ((skiffref1_Blank.f k).bind fun t287 => ((Hand.choose_Active.f k t287).bind fun bt288 => ((skiffref1_Blank.f k).bind fun t295 => ((choose_Other.f k t295).bind fun bt296 => ((Hand.choose_Active.f k (⟨#[]⟩ : ByteArray)).bind fun bt298 => (if bt277.1 = 0 then (if bt277.2.1 = 1 then ((skifflaw0_Num.f bt277.2.2.2.2.2).bind fun t305 => (if t305 = 0 then (if bt285.1 = 1 then ((skifflaw0_Num.f bt285.2).bind fun t306 => (if t306 = 0 then ((skifflaw0_Num.f bt288.2.2.2.2.2).bind fun t307 => (if t307 = 701 then (if bt296.1 = 0 then ((skifflaw0_Num.f bt296.2).bind fun t308 => (if t308 = 0 then ((skifflaw0_Num.f bt298.2.2.2.2.2).bind fun t309 => (some (t309 == 700))) else (none))) else (none)) else (none))) else (none))) else (none)) else (none))) else (none)) else (none))))))))))) = some r := h
 clear h
 replace H := Option.bind_eq_some_iff.mp H
 obtain ⟨t276, A10, H⟩ := H
 replace H : ((Hand.choose_Active.f k t276).bind fun bt277 => ((skifflaw7_held.f k).bind fun t284 => ((choose_Other.f k t284).bind fun bt285 => ((skiffref1_Blank.f k).bind fun t287 => ((Hand.choose_Active.f k t287).bind fun bt288 => ((skiffref1_Blank.f k).bind fun t295 => ((choose_Other.f k t295).bind fun bt296 => ((Hand.choose_Active.f k (⟨#[]⟩ : ByteArray)).bind fun bt298 => (if bt277.1 = 0 then (if bt277.2.1 = 1 then ((skifflaw0_Num.f bt277.2.2.2.2.2).bind fun t305 => (if t305 = 0 then (if bt285.1 = 1 then ((skifflaw0_Num.f bt285.2).bind fun t306 => (if t306 = 0 then ((skifflaw0_Num.f bt288.2.2.2.2.2).bind fun t307 => (if t307 = 701 then (if bt296.1 = 0 then ((skifflaw0_Num.f bt296.2).bind fun t308 => (if t308 = 0 then ((skifflaw0_Num.f bt298.2.2.2.2.2).bind fun t309 => (some (t309 == 700))) else (none))) else (none)) else (none))) else (none))) else (none)) else (none))) else (none)) else (none)))))))))) = some r := H
 have A1 := Aside0.mk A10
 clear A10
 replace H := Option.bind_eq_some_iff.mp H
 obtain ⟨⟨t277, t278, t279, t280, t281, t282⟩, A20, H⟩ := H
 replace H : ((skifflaw7_held.f k).bind fun t284 => ((choose_Other.f k t284).bind fun bt285 => ((skiffref1_Blank.f k).bind fun t287 => ((Hand.choose_Active.f k t287).bind fun bt288 => ((skiffref1_Blank.f k).bind fun t295 => ((choose_Other.f k t295).bind fun bt296 => ((Hand.choose_Active.f k (⟨#[]⟩ : ByteArray)).bind fun bt298 => (if t277 = 0 then (if t278 = 1 then ((skifflaw0_Num.f t282).bind fun t305 => (if t305 = 0 then (if bt285.1 = 1 then ((skifflaw0_Num.f bt285.2).bind fun t306 => (if t306 = 0 then ((skifflaw0_Num.f bt288.2.2.2.2.2).bind fun t307 => (if t307 = 701 then (if bt296.1 = 0 then ((skifflaw0_Num.f bt296.2).bind fun t308 => (if t308 = 0 then ((skifflaw0_Num.f bt298.2.2.2.2.2).bind fun t309 => (some (t309 == 700))) else (none))) else (none)) else (none))) else (none))) else (none)) else (none))) else (none)) else (none))))))))) = some r := H
 have A2 := Aside0.mk A20
 clear A20
 replace H := Option.bind_eq_some_iff.mp H
 obtain ⟨t284, A30, H⟩ := H
 replace H : ((choose_Other.f k t284).bind fun bt285 => ((skiffref1_Blank.f k).bind fun t287 => ((Hand.choose_Active.f k t287).bind fun bt288 => ((skiffref1_Blank.f k).bind fun t295 => ((choose_Other.f k t295).bind fun bt296 => ((Hand.choose_Active.f k (⟨#[]⟩ : ByteArray)).bind fun bt298 => (if t277 = 0 then (if t278 = 1 then ((skifflaw0_Num.f t282).bind fun t305 => (if t305 = 0 then (if bt285.1 = 1 then ((skifflaw0_Num.f bt285.2).bind fun t306 => (if t306 = 0 then ((skifflaw0_Num.f bt288.2.2.2.2.2).bind fun t307 => (if t307 = 701 then (if bt296.1 = 0 then ((skifflaw0_Num.f bt296.2).bind fun t308 => (if t308 = 0 then ((skifflaw0_Num.f bt298.2.2.2.2.2).bind fun t309 => (some (t309 == 700))) else (none))) else (none)) else (none))) else (none))) else (none)) else (none))) else (none)) else (none)))))))) = some r := H
 have A3 := Aside0.mk A30
 clear A30
 replace H := Option.bind_eq_some_iff.mp H
 obtain ⟨⟨t285, t286⟩, A40, H⟩ := H
 replace H : ((skiffref1_Blank.f k).bind fun t287 => ((Hand.choose_Active.f k t287).bind fun bt288 => ((skiffref1_Blank.f k).bind fun t295 => ((choose_Other.f k t295).bind fun bt296 => ((Hand.choose_Active.f k (⟨#[]⟩ : ByteArray)).bind fun bt298 => (if t277 = 0 then (if t278 = 1 then ((skifflaw0_Num.f t282).bind fun t305 => (if t305 = 0 then (if t285 = 1 then ((skifflaw0_Num.f t286).bind fun t306 => (if t306 = 0 then ((skifflaw0_Num.f bt288.2.2.2.2.2).bind fun t307 => (if t307 = 701 then (if bt296.1 = 0 then ((skifflaw0_Num.f bt296.2).bind fun t308 => (if t308 = 0 then ((skifflaw0_Num.f bt298.2.2.2.2.2).bind fun t309 => (some (t309 == 700))) else (none))) else (none)) else (none))) else (none))) else (none)) else (none))) else (none)) else (none))))))) = some r := H
 have A4 := Aside0.mk A40
 clear A40
 replace H := Option.bind_eq_some_iff.mp H
 obtain ⟨t287, A50, H⟩ := H
 replace H : ((Hand.choose_Active.f k t287).bind fun bt288 => ((skiffref1_Blank.f k).bind fun t295 => ((choose_Other.f k t295).bind fun bt296 => ((Hand.choose_Active.f k (⟨#[]⟩ : ByteArray)).bind fun bt298 => (if t277 = 0 then (if t278 = 1 then ((skifflaw0_Num.f t282).bind fun t305 => (if t305 = 0 then (if t285 = 1 then ((skifflaw0_Num.f t286).bind fun t306 => (if t306 = 0 then ((skifflaw0_Num.f bt288.2.2.2.2.2).bind fun t307 => (if t307 = 701 then (if bt296.1 = 0 then ((skifflaw0_Num.f bt296.2).bind fun t308 => (if t308 = 0 then ((skifflaw0_Num.f bt298.2.2.2.2.2).bind fun t309 => (some (t309 == 700))) else (none))) else (none)) else (none))) else (none))) else (none)) else (none))) else (none)) else (none)))))) = some r := H
 have A5 := Aside0.mk A50
 clear A50
 replace H := Option.bind_eq_some_iff.mp H
 obtain ⟨⟨t288, t289, t290, t291, t292, t293⟩, A60, H⟩ := H
 replace H : ((skiffref1_Blank.f k).bind fun t295 => ((choose_Other.f k t295).bind fun bt296 => ((Hand.choose_Active.f k (⟨#[]⟩ : ByteArray)).bind fun bt298 => (if t277 = 0 then (if t278 = 1 then ((skifflaw0_Num.f t282).bind fun t305 => (if t305 = 0 then (if t285 = 1 then ((skifflaw0_Num.f t286).bind fun t306 => (if t306 = 0 then ((skifflaw0_Num.f t293).bind fun t307 => (if t307 = 701 then (if bt296.1 = 0 then ((skifflaw0_Num.f bt296.2).bind fun t308 => (if t308 = 0 then ((skifflaw0_Num.f bt298.2.2.2.2.2).bind fun t309 => (some (t309 == 700))) else (none))) else (none)) else (none))) else (none))) else (none)) else (none))) else (none)) else (none))))) = some r := H
 have A6 := Aside0.mk A60
 clear A60
 replace H := Option.bind_eq_some_iff.mp H
 obtain ⟨t295, A70, H⟩ := H
 replace H : ((choose_Other.f k t295).bind fun bt296 => ((Hand.choose_Active.f k (⟨#[]⟩ : ByteArray)).bind fun bt298 => (if t277 = 0 then (if t278 = 1 then ((skifflaw0_Num.f t282).bind fun t305 => (if t305 = 0 then (if t285 = 1 then ((skifflaw0_Num.f t286).bind fun t306 => (if t306 = 0 then ((skifflaw0_Num.f t293).bind fun t307 => (if t307 = 701 then (if bt296.1 = 0 then ((skifflaw0_Num.f bt296.2).bind fun t308 => (if t308 = 0 then ((skifflaw0_Num.f bt298.2.2.2.2.2).bind fun t309 => (some (t309 == 700))) else (none))) else (none)) else (none))) else (none))) else (none)) else (none))) else (none)) else (none)))) = some r := H
 have A7 := Aside0.mk A70
 clear A70
 replace H := Option.bind_eq_some_iff.mp H
 obtain ⟨⟨t296, t297⟩, A80, H⟩ := H
 replace H : ((Hand.choose_Active.f k (⟨#[]⟩ : ByteArray)).bind fun bt298 => (if t277 = 0 then (if t278 = 1 then ((skifflaw0_Num.f t282).bind fun t305 => (if t305 = 0 then (if t285 = 1 then ((skifflaw0_Num.f t286).bind fun t306 => (if t306 = 0 then ((skifflaw0_Num.f t293).bind fun t307 => (if t307 = 701 then (if t296 = 0 then ((skifflaw0_Num.f t297).bind fun t308 => (if t308 = 0 then ((skifflaw0_Num.f bt298.2.2.2.2.2).bind fun t309 => (some (t309 == 700))) else (none))) else (none)) else (none))) else (none))) else (none)) else (none))) else (none)) else (none))) = some r := H
 have A8 := Aside0.mk A80
 clear A80
 replace H := Option.bind_eq_some_iff.mp H
 obtain ⟨⟨t298, t299, t300, t301, t302, t303⟩, A90, H⟩ := H
 replace H : (if t277 = 0 then (if t278 = 1 then ((skifflaw0_Num.f t282).bind fun t305 => (if t305 = 0 then (if t285 = 1 then ((skifflaw0_Num.f t286).bind fun t306 => (if t306 = 0 then ((skifflaw0_Num.f t293).bind fun t307 => (if t307 = 701 then (if t296 = 0 then ((skifflaw0_Num.f t297).bind fun t308 => (if t308 = 0 then ((skifflaw0_Num.f t303).bind fun t309 => (some (t309 == 700))) else (none))) else (none)) else (none))) else (none))) else (none)) else (none))) else (none)) else (none)) = some r := H
 have A9 := Aside0.mk A90
 clear A90
 by_cases c10 : t277 = 0
 ·rw [if_pos c10] at H
  have c10b0 : (t277 == 0) = true := beq_iff_eq.mpr c10
  have c10b1 : (t277 != 0) = false := bne_eq_false_iff_eq.mpr c10
  clear c10
  by_cases c11 : t278 = 1
  ·rw [if_pos c11] at H
   have c11b0 : (t278 == 1) = true := beq_iff_eq.mpr c11
   have c11b1 : (t278 != 1) = false := bne_eq_false_iff_eq.mpr c11
   clear c11
   replace H := Option.bind_eq_some_iff.mp H
   obtain ⟨t305, A120, H⟩ := H
   replace H : (if t305 = 0 then (if t285 = 1 then ((skifflaw0_Num.f t286).bind fun t306 => (if t306 = 0 then ((skifflaw0_Num.f t293).bind fun t307 => (if t307 = 701 then (if t296 = 0 then ((skifflaw0_Num.f t297).bind fun t308 => (if t308 = 0 then ((skifflaw0_Num.f t303).bind fun t309 => (some (t309 == 700))) else (none))) else (none)) else (none))) else (none))) else (none)) else (none)) = some r := H
   have A12 := Aside0.mk A120
   clear A120
   by_cases c13 : t305 = 0
   ·rw [if_pos c13] at H
    have c13b0 : (t305 == 0) = true := beq_iff_eq.mpr c13
    have c13b1 : (t305 != 0) = false := bne_eq_false_iff_eq.mpr c13
    clear c13
    by_cases c14 : t285 = 1
    ·rw [if_pos c14] at H
     have c14b0 : (t285 == 1) = true := beq_iff_eq.mpr c14
     have c14b1 : (t285 != 1) = false := bne_eq_false_iff_eq.mpr c14
     clear c14
     replace H := Option.bind_eq_some_iff.mp H
     obtain ⟨t306, A150, H⟩ := H
     replace H : (if t306 = 0 then ((skifflaw0_Num.f t293).bind fun t307 => (if t307 = 701 then (if t296 = 0 then ((skifflaw0_Num.f t297).bind fun t308 => (if t308 = 0 then ((skifflaw0_Num.f t303).bind fun t309 => (some (t309 == 700))) else (none))) else (none)) else (none))) else (none)) = some r := H
     have A15 := Aside0.mk A150
     clear A150
     by_cases c16 : t306 = 0
     ·rw [if_pos c16] at H
      have c16b0 : (t306 == 0) = true := beq_iff_eq.mpr c16
      have c16b1 : (t306 != 0) = false := bne_eq_false_iff_eq.mpr c16
      clear c16
      replace H := Option.bind_eq_some_iff.mp H
      obtain ⟨t307, A170, H⟩ := H
      replace H : (if t307 = 701 then (if t296 = 0 then ((skifflaw0_Num.f t297).bind fun t308 => (if t308 = 0 then ((skifflaw0_Num.f t303).bind fun t309 => (some (t309 == 700))) else (none))) else (none)) else (none)) = some r := H
      have A17 := Aside0.mk A170
      clear A170
      by_cases c18 : t307 = 701
      ·rw [if_pos c18] at H
       have c18b0 : (t307 == 701) = true := beq_iff_eq.mpr c18
       have c18b1 : (t307 != 701) = false := bne_eq_false_iff_eq.mpr c18
       clear c18
       by_cases c19 : t296 = 0
       ·rw [if_pos c19] at H
        have c19b0 : (t296 == 0) = true := beq_iff_eq.mpr c19
        have c19b1 : (t296 != 0) = false := bne_eq_false_iff_eq.mpr c19
        clear c19
        replace H := Option.bind_eq_some_iff.mp H
        obtain ⟨t308, A200, H⟩ := H
        replace H : (if t308 = 0 then ((skifflaw0_Num.f t303).bind fun t309 => (some (t309 == 700))) else (none)) = some r := H
        have A20 := Aside0.mk A200
        clear A200
        by_cases c21 : t308 = 0
        ·rw [if_pos c21] at H
         have c21b0 : (t308 == 0) = true := beq_iff_eq.mpr c21
         have c21b1 : (t308 != 0) = false := bne_eq_false_iff_eq.mpr c21
         clear c21
         replace H := Option.bind_eq_some_iff.mp H
         obtain ⟨t309, A220, H⟩ := H
         replace H : (some (t309 == 700)) = some r := H
         have A22 := Aside0.mk A220
         clear A220
         obtain rfl := Option.some.inj H
         go_enter Try.func14, Try.ntmps14
         go_wp2_with (first | ((with_reducible refine gate_callee (f := 22) rfl ?_); refine goesL_ (some 12) rfl rfl Try.func22 (by kernel_rfl) rfl #[] rfl q1_ ?_; (with_reducible refine (skifflaw7_held.calls k  t276 _ A1.out).mono ?_); rintro e w23 ⟨rfl, hb⟩; refine ⟨_, rfl, ?_⟩; have n0_ := Aside0.mk (below_step q2_ hb); clear HB; have HB := n0_; clear n0_; (try clear hb); (try clear hb2); (try clear hk); (try clear hi)) | ((with_reducible refine gate_callee (f := 9) rfl ?_); refine goesL_ (some 13) rfl rfl Try.func9 (by kernel_rfl) rfl #[.string t276] rfl q1_ ?_; (with_reducible refine (Hand.choose_Active.calls k t276 t277 t278 t279 t280 t281 t282 _ A2.out).mono ?_); rintro e w24 ⟨rfl, hb⟩; refine ⟨_, rfl, ?_⟩; have n0_ := Aside0.mk (below_step q2_ hb); clear HB; have HB := n0_; clear n0_; (try clear hb); (try clear hb2); (try clear hk); (try clear hi)) | ((with_reducible refine gate_dst (N := 1) rfl ?_); refine box_event ?hg (N := 1) ?hd (cs := #[.int .i64 0, .int .i64 0, .int .i64 0, .int .i64 0, .int .i64 0]) (t := 25) ?hr ?_; (case hd => rfl); (case hg => rfl); (case hr => first | (go_simp; done) | (go_simp; rfl)); intro gb283 hg w25 hbox hb; have n0_ := Aside0.mk (below_step q2_ hb); have n1_ := Aside0.mk (hbox); have n2_ := Aside0.mk ((by rw [hg]; exact (below_size q2_) : w.heap.size ≤ gb283)); have n3_ := Aside0.mk ((by rw [hg]; exact (below_size q2_) : w.heap.size ≤ gb283)); clear HB; have HB := n0_; have BK283 := n1_; have GW283 := n2_; have GE283 := n3_; clear n0_ n1_ n2_ n3_; clear hb hbox hg; have hcz26_0 : w25.cell? ⟨gb283, 0, none⟩ = some (.int .i64 0) := (blk_cell BK283.out 0).trans rfl; have hcz26_1 : w25.cell? ⟨gb283, 1, none⟩ = some (.int .i64 0) := (blk_cell BK283.out 1).trans rfl; have hcz26_2 : w25.cell? ⟨gb283, 2, none⟩ = some (.int .i64 0) := (blk_cell BK283.out 2).trans rfl; have hcz26_3 : w25.cell? ⟨gb283, 3, none⟩ = some (.int .i64 0) := (blk_cell BK283.out 3).trans rfl; have hcz26_4 : w25.cell? ⟨gb283, 4, none⟩ = some (.int .i64 0) := (blk_cell BK283.out 4).trans rfl; have hfz26_0 := blk_frozen BK283.out 0; have hfz26_1 := blk_frozen BK283.out 1; have hfz26_2 := blk_frozen BK283.out 2; have hfz26_3 := blk_frozen BK283.out 3; have hfz26_4 := blk_frozen BK283.out 4) | ((with_reducible refine gate_callee (f := 22) rfl ?_); refine goesL_ (some 17) rfl rfl Try.func22 (by kernel_rfl) rfl #[] rfl q1_ ?_; (with_reducible refine (skifflaw7_held.calls k  t284 _ A3.out).mono ?_); rintro e w27 ⟨rfl, hb⟩; refine ⟨_, rfl, ?_⟩; have n0_ := Aside0.mk (blk_below (g := gb283) (o := .cells #[.int .i64 t277, .int .i64 t278, .int .i64 t279, .int .i64 t280, .int .i64 t281] 25 (0, 0)) (by (with_reducible repeat (first | refine blk_drewN ?_ _ | refine blk_drew ?_ | refine blk_alloc ?_ _)); refine blk_put (cs := #[.int .i64 t277, .int .i64 t278, .int .i64 t279, .int .i64 t280, .int .i64 0]) ?_ 4 _ rfl; (with_reducible repeat (first | refine blk_drewN ?_ _ | refine blk_drew ?_ | refine blk_alloc ?_ _)); refine blk_put (cs := #[.int .i64 t277, .int .i64 t278, .int .i64 t279, .int .i64 0, .int .i64 0]) ?_ 3 _ rfl; (with_reducible repeat (first | refine blk_drewN ?_ _ | refine blk_drew ?_ | refine blk_alloc ?_ _)); refine blk_put (cs := #[.int .i64 t277, .int .i64 t278, .int .i64 0, .int .i64 0, .int .i64 0]) ?_ 2 _ rfl; (with_reducible repeat (first | refine blk_drewN ?_ _ | refine blk_drew ?_ | refine blk_alloc ?_ _)); refine blk_put (cs := #[.int .i64 t277, .int .i64 0, .int .i64 0, .int .i64 0, .int .i64 0]) ?_ 1 _ rfl; (with_reducible repeat (first | refine blk_drewN ?_ _ | refine blk_drew ?_ | refine blk_alloc ?_ _)); refine blk_put (cs := #[.int .i64 0, .int .i64 0, .int .i64 0, .int .i64 0, .int .i64 0]) ?_ 0 _ rfl; (with_reducible repeat (first | refine blk_drewN ?_ _ | refine blk_drew ?_ | refine blk_alloc ?_ _)); exact BK283.out) hb); have n1_ := Aside0.mk (below_step (by repeat (first | (with_reducible first | exact HB.out | apply below_alloc | apply pw_below_drewN | apply below_drew1 | refine below_set ?_ GE283.out) | exact HB.out)) hb); clear BK283; clear HB; have BK283 := n0_; have HB := n1_; clear n0_ n1_; (try clear hb); (try clear hb2); (try clear hk); (try clear hi)) | ((with_reducible refine gate_callee (f := 11) rfl ?_); refine goesL_ (some 18) rfl rfl Try.func11 (by kernel_rfl) rfl #[.string t284] rfl q1_ ?_; (with_reducible refine (choose_Other.calls k t284 t285 t286 _ A4.out).mono ?_); rintro e w28 ⟨rfl, hb⟩; refine ⟨_, rfl, ?_⟩; have n0_ := Aside0.mk (blk_below (g := gb283) (o := .cells #[.int .i64 t277, .int .i64 t278, .int .i64 t279, .int .i64 t280, .int .i64 t281] 25 (0, 0)) (by (with_reducible repeat (first | refine blk_drewN ?_ _ | refine blk_drew ?_ | refine blk_alloc ?_ _)); exact BK283.out) hb); have n1_ := Aside0.mk (below_step (by repeat (first | (with_reducible first | exact HB.out | apply below_alloc | apply pw_below_drewN | apply below_drew1 | refine below_set ?_ GE283.out) | exact HB.out)) hb); clear BK283; clear HB; have BK283 := n0_; have HB := n1_; clear n0_ n1_; (try clear hb); (try clear hb2); (try clear hk); (try clear hi)) | ((with_reducible refine gate_callee (f := 17) rfl ?_); refine goesL_ (some 22) rfl rfl Try.func17 (by kernel_rfl) rfl #[] rfl q1_ ?_; (with_reducible refine (skiffref1_Blank.calls k  t287 _ A5.out).mono ?_); rintro e w29 ⟨rfl, hb⟩; refine ⟨_, rfl, ?_⟩; have n0_ := Aside0.mk (blk_below (g := gb283) (o := .cells #[.int .i64 t277, .int .i64 t278, .int .i64 t279, .int .i64 t280, .int .i64 t281] 25 (0, 0)) (by (with_reducible repeat (first | refine blk_drewN ?_ _ | refine blk_drew ?_ | refine blk_alloc ?_ _)); exact BK283.out) hb); have n1_ := Aside0.mk (below_step (by repeat (first | (with_reducible first | exact HB.out | apply below_alloc | apply pw_below_drewN | apply below_drew1 | refine below_set ?_ GE283.out) | exact HB.out)) hb); clear BK283; clear HB; have BK283 := n0_; have HB := n1_; clear n0_ n1_; (try clear hb); (try clear hb2); (try clear hk); (try clear hi)) | ((with_reducible refine gate_callee (f := 9) rfl ?_); refine goesL_ (some 23) rfl rfl Try.func9 (by kernel_rfl) rfl #[.string t287] rfl q1_ ?_; (with_reducible refine (Hand.choose_Active.calls k t287 t288 t289 t290 t291 t292 t293 _ A6.out).mono ?_); rintro e w30 ⟨rfl, hb⟩; refine ⟨_, rfl, ?_⟩; have n0_ := Aside0.mk (blk_below (g := gb283) (o := .cells #[.int .i64 t277, .int .i64 t278, .int .i64 t279, .int .i64 t280, .int .i64 t281] 25 (0, 0)) (by (with_reducible repeat (first | refine blk_drewN ?_ _ | refine blk_drew ?_ | refine blk_alloc ?_ _)); exact BK283.out) hb); have n1_ := Aside0.mk (below_step (by repeat (first | (with_reducible first | exact HB.out | apply below_alloc | apply pw_below_drewN | apply below_drew1 | refine below_set ?_ GE283.out) | exact HB.out)) hb); clear BK283; clear HB; have BK283 := n0_; have HB := n1_; clear n0_ n1_; (try clear hb); (try clear hb2); (try clear hk); (try clear hi)) | ((with_reducible refine gate_dst (N := 5) rfl ?_); refine box_event ?hg (N := 5) ?hd (cs := #[.int .i64 0, .int .i64 0, .int .i64 0, .int .i64 0, .int .i64 0]) (t := 25) ?hr ?_; (case hd => rfl); (case hg => rfl); (case hr => first | (go_simp; done) | (go_simp; rfl)); intro gb294 hg w31 hbox hb; have n0_ := Aside0.mk (blk_below (g := gb283) (o := .cells #[.int .i64 t277, .int .i64 t278, .int .i64 t279, .int .i64 t280, .int .i64 t281] 25 (0, 0)) (by (with_reducible repeat (first | refine blk_drewN ?_ _ | refine blk_drew ?_ | refine blk_alloc ?_ _)); exact BK283.out) hb); have n1_ := Aside0.mk (below_step (by repeat (first | (with_reducible first | exact HB.out | apply below_alloc | apply pw_below_drewN | apply below_drew1 | refine below_set ?_ GE283.out) | exact HB.out)) hb); have n2_ := Aside0.mk (hbox); have n3_ := Aside0.mk ((by rw [hg]; exact (below_size (by repeat (first | (with_reducible first | exact HB.out | apply below_alloc | apply pw_below_drewN | apply below_drew1 | refine below_set ?_ GE283.out) | exact HB.out))) : w.heap.size ≤ gb294)); have n4_ := Aside0.mk ((by rw [hg]; exact (below_size (by repeat (first | (with_reducible first | exact HB.out | apply below_alloc | apply pw_below_drewN | apply below_drew1 | refine below_set ?_ GE283.out) | exact HB.out))) : w.heap.size ≤ gb294)); have n5_ := Aside0.mk ((by rw [hg]; exact Nat.ne_of_lt (blk_lt (g := gb283) (o := .cells #[.int .i64 t277, .int .i64 t278, .int .i64 t279, .int .i64 t280, .int .i64 t281] 25 (0, 0)) (by (with_reducible repeat (first | refine blk_drewN ?_ _ | refine blk_drew ?_ | refine blk_alloc ?_ _)); exact BK283.out)) : gb283 ≠ gb294)); have n6_ := Aside0.mk ((by rw [hg]; exact Nat.ne_of_gt (blk_lt (g := gb283) (o := .cells #[.int .i64 t277, .int .i64 t278, .int .i64 t279, .int .i64 t280, .int .i64 t281] 25 (0, 0)) (by (with_reducible repeat (first | refine blk_drewN ?_ _ | refine blk_drew ?_ | refine blk_alloc ?_ _)); exact BK283.out)) : gb294 ≠ gb283)); clear BK283; clear HB; have BK283 := n0_; have HB := n1_; have BK294 := n2_; have GW294 := n3_; have GE294 := n4_; have NB283_294 := n5_; have NB294_283 := n6_; clear n0_ n1_ n2_ n3_ n4_ n5_ n6_; clear hb hbox hg; have hnb32 := NB294_283.out; have hnc32 := NB283_294.out; have hcz33_0 : w31.cell? ⟨gb294, 0, none⟩ = some (.int .i64 0) := (blk_cell BK294.out 0).trans rfl; have hcz33_1 : w31.cell? ⟨gb294, 1, none⟩ = some (.int .i64 0) := (blk_cell BK294.out 1).trans rfl; have hcz33_2 : w31.cell? ⟨gb294, 2, none⟩ = some (.int .i64 0) := (blk_cell BK294.out 2).trans rfl; have hcz33_3 : w31.cell? ⟨gb294, 3, none⟩ = some (.int .i64 0) := (blk_cell BK294.out 3).trans rfl; have hcz33_4 : w31.cell? ⟨gb294, 4, none⟩ = some (.int .i64 0) := (blk_cell BK294.out 4).trans rfl; have hfz33_0 := blk_frozen BK294.out 0; have hfz33_1 := blk_frozen BK294.out 1; have hfz33_2 := blk_frozen BK294.out 2; have hfz33_3 := blk_frozen BK294.out 3; have hfz33_4 := blk_frozen BK294.out 4) | ((with_reducible refine gate_callee (f := 17) rfl ?_); refine goesL_ (some 27) rfl rfl Try.func17 (by kernel_rfl) rfl #[] rfl q1_ ?_; (with_reducible refine (skiffref1_Blank.calls k  t295 _ A7.out).mono ?_); rintro e w34 ⟨rfl, hb⟩; refine ⟨_, rfl, ?_⟩; have n0_ := Aside0.mk (blk_below (g := gb283) (o := .cells #[.int .i64 t277, .int .i64 t278, .int .i64 t279, .int .i64 t280, .int .i64 t281] 25 (0, 0)) (by (with_reducible repeat (first | refine blk_drewN ?_ _ | refine blk_drew ?_ | refine blk_alloc ?_ _)); refine blk_far ?_ NB283_294.out _; (with_reducible repeat (first | refine blk_drewN ?_ _ | refine blk_drew ?_ | refine blk_alloc ?_ _)); refine blk_far ?_ NB283_294.out _; (with_reducible repeat (first | refine blk_drewN ?_ _ | refine blk_drew ?_ | refine blk_alloc ?_ _)); refine blk_far ?_ NB283_294.out _; (with_reducible repeat (first | refine blk_drewN ?_ _ | refine blk_drew ?_ | refine blk_alloc ?_ _)); refine blk_far ?_ NB283_294.out _; (with_reducible repeat (first | refine blk_drewN ?_ _ | refine blk_drew ?_ | refine blk_alloc ?_ _)); refine blk_far ?_ NB283_294.out _; (with_reducible repeat (first | refine blk_drewN ?_ _ | refine blk_drew ?_ | refine blk_alloc ?_ _)); exact BK283.out) hb); have n1_ := Aside0.mk (blk_below (g := gb294) (o := .cells #[.int .i64 t288, .int .i64 t289, .int .i64 t290, .int .i64 t291, .int .i64 t292] 25 (0, 0)) (by (with_reducible repeat (first | refine blk_drewN ?_ _ | refine blk_drew ?_ | refine blk_alloc ?_ _)); refine blk_put (cs := #[.int .i64 t288, .int .i64 t289, .int .i64 t290, .int .i64 t291, .int .i64 0]) ?_ 4 _ rfl; (with_reducible repeat (first | refine blk_drewN ?_ _ | refine blk_drew ?_ | refine blk_alloc ?_ _)); refine blk_put (cs := #[.int .i64 t288, .int .i64 t289, .int .i64 t290, .int .i64 0, .int .i64 0]) ?_ 3 _ rfl; (with_reducible repeat (first | refine blk_drewN ?_ _ | refine blk_drew ?_ | refine blk_alloc ?_ _)); refine blk_put (cs := #[.int .i64 t288, .int .i64 t289, .int .i64 0, .int .i64 0, .int .i64 0]) ?_ 2 _ rfl; (with_reducible repeat (first | refine blk_drewN ?_ _ | refine blk_drew ?_ | refine blk_alloc ?_ _)); refine blk_put (cs := #[.int .i64 t288, .int .i64 0, .int .i64 0, .int .i64 0, .int .i64 0]) ?_ 1 _ rfl; (with_reducible repeat (first | refine blk_drewN ?_ _ | refine blk_drew ?_ | refine blk_alloc ?_ _)); refine blk_put (cs := #[.int .i64 0, .int .i64 0, .int .i64 0, .int .i64 0, .int .i64 0]) ?_ 0 _ rfl; (with_reducible repeat (first | refine blk_drewN ?_ _ | refine blk_drew ?_ | refine blk_alloc ?_ _)); exact BK294.out) hb); have n2_ := Aside0.mk (below_step (by repeat (first | (with_reducible first | exact HB.out | apply below_alloc | apply pw_below_drewN | apply below_drew1 | refine below_set ?_ GE283.out | refine below_set ?_ GE294.out) | exact HB.out)) hb); clear BK283; clear BK294; clear HB; have BK283 := n0_; have BK294 := n1_; have HB := n2_; clear n0_ n1_ n2_; (try clear hb); (try clear hb2); (try clear hk); (try clear hi)) | ((with_reducible refine gate_callee (f := 11) rfl ?_); refine goesL_ (some 28) rfl rfl Try.func11 (by kernel_rfl) rfl #[.string t295] rfl q1_ ?_; (with_reducible refine (choose_Other.calls k t295 t296 t297 _ A8.out).mono ?_); rintro e w35 ⟨rfl, hb⟩; refine ⟨_, rfl, ?_⟩; have n0_ := Aside0.mk (blk_below (g := gb283) (o := .cells #[.int .i64 t277, .int .i64 t278, .int .i64 t279, .int .i64 t280, .int .i64 t281] 25 (0, 0)) (by (with_reducible repeat (first | refine blk_drewN ?_ _ | refine blk_drew ?_ | refine blk_alloc ?_ _)); exact BK283.out) hb); have n1_ := Aside0.mk (blk_below (g := gb294) (o := .cells #[.int .i64 t288, .int .i64 t289, .int .i64 t290, .int .i64 t291, .int .i64 t292] 25 (0, 0)) (by (with_reducible repeat (first | refine blk_drewN ?_ _ | refine blk_drew ?_ | refine blk_alloc ?_ _)); exact BK294.out) hb); have n2_ := Aside0.mk (below_step (by repeat (first | (with_reducible first | exact HB.out | apply below_alloc | apply pw_below_drewN | apply below_drew1 | refine below_set ?_ GE283.out | refine below_set ?_ GE294.out) | exact HB.out)) hb); clear BK283; clear BK294; clear HB; have BK283 := n0_; have BK294 := n1_; have HB := n2_; clear n0_ n1_ n2_; (try clear hb); (try clear hb2); (try clear hk); (try clear hi)) | ((with_reducible refine gate_callee (f := 9) rfl ?_); refine goesL_ (some 32) rfl rfl Try.func9 (by kernel_rfl) rfl #[.string (⟨#[]⟩ : ByteArray)] rfl q1_ ?_; (with_reducible refine (Hand.choose_Active.calls k (⟨#[]⟩ : ByteArray) t298 t299 t300 t301 t302 t303 _ A9.out).mono ?_); rintro e w36 ⟨rfl, hb⟩; refine ⟨_, rfl, ?_⟩; have n0_ := Aside0.mk (blk_below (g := gb283) (o := .cells #[.int .i64 t277, .int .i64 t278, .int .i64 t279, .int .i64 t280, .int .i64 t281] 25 (0, 0)) (by (with_reducible repeat (first | refine blk_drewN ?_ _ | refine blk_drew ?_ | refine blk_alloc ?_ _)); exact BK283.out) hb); have n1_ := Aside0.mk (blk_below (g := gb294) (o := .cells #[.int .i64 t288, .int .i64 t289, .int .i64 t290, .int .i64 t291, .int .i64 t292] 25 (0, 0)) (by (with_reducible repeat (first | refine blk_drewN ?_ _ | refine blk_drew ?_ | refine blk_alloc ?_ _)); exact BK294.out) hb); have n2_ := Aside0.mk (below_step (by repeat (first | (with_reducible first | exact HB.out | apply below_alloc | apply pw_below_drewN | apply below_drew1 | refine below_set ?_ GE283.out | refine below_set ?_ GE294.out) | exact HB.out)) hb); clear BK283; clear BK294; clear HB; have BK283 := n0_; have BK294 := n1_; have HB := n2_; clear n0_ n1_ n2_; (try clear hb); (try clear hb2); (try clear hk); (try clear hi)) | ((with_reducible refine gate_dst (N := 9) rfl ?_); refine box_event ?hg (N := 9) ?hd (cs := #[.int .i64 0, .int .i64 0, .int .i64 0, .int .i64 0, .int .i64 0]) (t := 25) ?hr ?_; (case hd => rfl); (case hg => rfl); (case hr => first | (go_simp; done) | (go_simp; rfl)); intro gb304 hg w37 hbox hb; have n0_ := Aside0.mk (blk_below (g := gb283) (o := .cells #[.int .i64 t277, .int .i64 t278, .int .i64 t279, .int .i64 t280, .int .i64 t281] 25 (0, 0)) (by (with_reducible repeat (first | refine blk_drewN ?_ _ | refine blk_drew ?_ | refine blk_alloc ?_ _)); exact BK283.out) hb); have n1_ := Aside0.mk (blk_below (g := gb294) (o := .cells #[.int .i64 t288, .int .i64 t289, .int .i64 t290, .int .i64 t291, .int .i64 t292] 25 (0, 0)) (by (with_reducible repeat (first | refine blk_drewN ?_ _ | refine blk_drew ?_ | refine blk_alloc ?_ _)); exact BK294.out) hb); have n2_ := Aside0.mk (below_step (by repeat (first | (with_reducible first | exact HB.out | apply below_alloc | apply pw_below_drewN | apply below_drew1 | refine below_set ?_ GE283.out | refine below_set ?_ GE294.out) | exact HB.out)) hb); have n3_ := Aside0.mk (hbox); have n4_ := Aside0.mk ((by rw [hg]; exact (below_size (by repeat (first | (with_reducible first | exact HB.out | apply below_alloc | apply pw_below_drewN | apply below_drew1 | refine below_set ?_ GE283.out | refine below_set ?_ GE294.out) | exact HB.out))) : w.heap.size ≤ gb304)); have n5_ := Aside0.mk ((by rw [hg]; exact (below_size (by repeat (first | (with_reducible first | exact HB.out | apply below_alloc | apply pw_below_drewN | apply below_drew1 | refine below_set ?_ GE283.out | refine below_set ?_ GE294.out) | exact HB.out))) : w.heap.size ≤ gb304)); have n6_ := Aside0.mk ((by rw [hg]; exact Nat.ne_of_lt (blk_lt (g := gb283) (o := .cells #[.int .i64 t277, .int .i64 t278, .int .i64 t279, .int .i64 t280, .int .i64 t281] 25 (0, 0)) (by (with_reducible repeat (first | refine blk_drewN ?_ _ | refine blk_drew ?_ | refine blk_alloc ?_ _)); exact BK283.out)) : gb283 ≠ gb304)); have n7_ := Aside0.mk ((by rw [hg]; exact Nat.ne_of_gt (blk_lt (g := gb283) (o := .cells #[.int .i64 t277, .int .i64 t278, .int .i64 t279, .int .i64 t280, .int .i64 t281] 25 (0, 0)) (by (with_reducible repeat (first | refine blk_drewN ?_ _ | refine blk_drew ?_ | refine blk_alloc ?_ _)); exact BK283.out)) : gb304 ≠ gb283)); have n8_ := Aside0.mk ((by rw [hg]; exact Nat.ne_of_lt (blk_lt (g := gb294) (o := .cells #[.int .i64 t288, .int .i64 t289, .int .i64 t290, .int .i64 t291, .int .i64 t292] 25 (0, 0)) (by (with_reducible repeat (first | refine blk_drewN ?_ _ | refine blk_drew ?_ | refine blk_alloc ?_ _)); exact BK294.out)) : gb294 ≠ gb304)); have n9_ := Aside0.mk ((by rw [hg]; exact Nat.ne_of_gt (blk_lt (g := gb294) (o := .cells #[.int .i64 t288, .int .i64 t289, .int .i64 t290, .int .i64 t291, .int .i64 t292] 25 (0, 0)) (by (with_reducible repeat (first | refine blk_drewN ?_ _ | refine blk_drew ?_ | refine blk_alloc ?_ _)); exact BK294.out)) : gb304 ≠ gb294)); clear BK283; clear BK294; clear HB; have BK283 := n0_; have BK294 := n1_; have HB := n2_; have BK304 := n3_; have GW304 := n4_; have GE304 := n5_; have NB283_304 := n6_; have NB304_283 := n7_; have NB294_304 := n8_; have NB304_294 := n9_; clear n0_ n1_ n2_ n3_ n4_ n5_ n6_ n7_ n8_ n9_; clear hb hbox hg; have hnb38 := NB304_283.out; have hnc38 := NB283_304.out; have hnb39 := NB304_294.out; have hnc39 := NB294_304.out; have hcz40_0 : w37.cell? ⟨gb304, 0, none⟩ = some (.int .i64 0) := (blk_cell BK304.out 0).trans rfl; have hcz40_1 : w37.cell? ⟨gb304, 1, none⟩ = some (.int .i64 0) := (blk_cell BK304.out 1).trans rfl; have hcz40_2 : w37.cell? ⟨gb304, 2, none⟩ = some (.int .i64 0) := (blk_cell BK304.out 2).trans rfl; have hcz40_3 : w37.cell? ⟨gb304, 3, none⟩ = some (.int .i64 0) := (blk_cell BK304.out 3).trans rfl; have hcz40_4 : w37.cell? ⟨gb304, 4, none⟩ = some (.int .i64 0) := (blk_cell BK304.out 4).trans rfl; have hfz40_0 := blk_frozen BK304.out 0; have hfz40_1 := blk_frozen BK304.out 1; have hfz40_2 := blk_frozen BK304.out 2; have hfz40_3 := blk_frozen BK304.out 3; have hfz40_4 := blk_frozen BK304.out 4; have hcz41_0 : w37.cell? ⟨gb283, 0, none⟩ = some (.int .i64 t277) := (blk_cell BK283.out 0).trans rfl; have hcz41_1 : w37.cell? ⟨gb283, 1, none⟩ = some (.int .i64 t278) := (blk_cell BK283.out 1).trans rfl; have hcz41_2 : w37.cell? ⟨gb283, 2, none⟩ = some (.int .i64 t279) := (blk_cell BK283.out 2).trans rfl; have hcz41_3 : w37.cell? ⟨gb283, 3, none⟩ = some (.int .i64 t280) := (blk_cell BK283.out 3).trans rfl; have hcz41_4 : w37.cell? ⟨gb283, 4, none⟩ = some (.int .i64 t281) := (blk_cell BK283.out 4).trans rfl; have hfz41_0 := blk_frozen BK283.out 0; have hfz41_1 := blk_frozen BK283.out 1; have hfz41_2 := blk_frozen BK283.out 2; have hfz41_3 := blk_frozen BK283.out 3; have hfz41_4 := blk_frozen BK283.out 4) | (go_at_call 13; (with_reducible refine (skifflaw0_Num.calls t282 t305 _ A12.out).mono ?_); rintro e w' ⟨rfl, ⟨nd, rfl⟩⟩) | (go_at_call 13; (with_reducible refine (skifflaw0_Num.calls t286 t306 _ A15.out).mono ?_); rintro e w' ⟨rfl, ⟨nd, rfl⟩⟩) | (go_at_call 13; (with_reducible refine (skifflaw0_Num.calls t293 t307 _ A17.out).mono ?_); rintro e w' ⟨rfl, ⟨nd, rfl⟩⟩) | (go_at_call 13; (with_reducible refine (skifflaw0_Num.calls t297 t308 _ A20.out).mono ?_); rintro e w' ⟨rfl, ⟨nd, rfl⟩⟩) | (go_at_call 13; (with_reducible refine (skifflaw0_Num.calls t303 t309 _ A22.out).mono ?_); rintro e w' ⟨rfl, ⟨nd, rfl⟩⟩))
         go_ret
         exact ⟨by first | rfl | (simp [errW_none, errW_some] <;> rfl) | (simp [*, errW_none, errW_some] <;> rfl), by repeat (first | (with_reducible first | exact HB.out | apply below_alloc | apply pw_below_drewN | apply below_drew1 | refine below_set ?_ GE283.out | refine below_set ?_ GE294.out | refine below_set ?_ GE304.out) | exact HB.out)⟩
        ·rw [if_neg c21] at H
         exact absurd H (by simp)
       ·rw [if_neg c19] at H
        exact absurd H (by simp)
      ·rw [if_neg c18] at H
       exact absurd H (by simp)
     ·rw [if_neg c16] at H
      exact absurd H (by simp)
    ·rw [if_neg c14] at H
     exact absurd H (by simp)
   ·rw [if_neg c13] at H
    exact absurd H (by simp)
  ·rw [if_neg c11] at H
   exact absurd H (by simp)
 ·rw [if_neg c10] at H
  exact absurd H (by simp)
end Go.Proofs.Ytjadcjkjpkkmkaa.PAll

