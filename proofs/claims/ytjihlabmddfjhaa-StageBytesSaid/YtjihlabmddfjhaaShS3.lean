import Derived.Test.YtjihlabmddfjhaaShS2
-- Laid together from this session's own texts by its program wip/tools/shake.py.
-- Written by this session's own program (wip/tools/myprint.py), which runs the kit's print over functions proved by hand.
namespace Go.Proofs.Ytjihlabmddfjhaa.PAll
open Go.RowKit Go.Proofs.YtjihlabmddfjhaaW.PrintWords Go.Proofs.YtjihlabmddfjhaaW.PrintLast Go.Proofs.YtjihlabmddfjhaaW.PrintMore
attribute [local go_sem] max2_int min2_int max_two min_two max_three min_three max_four min_four   -- for this text's walks alone
set_option linter.unusedVariables false
set_option linter.unusedSimpArgs false
def skiffref1_GetEntry.f (k : Nat) (a0 : ByteArray) : Option (Int × Int × Int × Int × Int) := if (a0.size : Int) = 24 then (if 0 ≤ 4 then (if 4 ≤ (a0.size : Int) then ((skiffref1_Of.f k (a0.extract 0 4)).bind fun t354 => (if 4 < (a0.size : Int) then (if 6 ≤ 8 then (if 8 ≤ (a0.size : Int) then ((skiffref1_Of.f k (a0.extract 6 8)).bind fun t355 => (if 8 ≤ 12 then (if 12 ≤ (a0.size : Int) then ((skiffref1_Of.f k (a0.extract 8 12)).bind fun t356 => ((Hand.skiffref1_PutEntry.f k t354 (wrap64 (bt a0 4)) t355 t356).bind fun bt358 => (if bt358.2 = 0 then (if bt358.1.toList = a0.toList then (some (t354, wrap64 (bt a0 4), t355, t356, 0)) else (some (0, 0, 0, 0, 400))) else (some (0, 0, 0, 0, 400))))) else (none)) else (none))) else (none)) else (none)) else (none))) else (none)) else (none)) else (some (0, 0, 0, 0, 400))
theorem skiffref1_GetEntry.mono : ∀ a0 k, LeO (skiffref1_GetEntry.f k a0) (skiffref1_GetEntry.f (k + 1) a0) := by
 intro a0 k
 unfold skiffref1_GetEntry.f
 repeat' first
   | (with_reducible exact Hand.skiffref1_PutEntry.mono _ _ _ _ _)
   | (with_reducible exact skiffref1_Of.mono _ _)
   | (with_reducible exact LeO.refl _)
   | (with_reducible exact LeO.none _)
   | (with_reducible refine LeO.ite ?_ ?_)
   | (with_reducible refine LeO.bind ?_ (fun _ => ?_))
   | exact Hand.skiffref1_PutEntry.mono _ _ _ _ _
   | exact skiffref1_Of.mono _ _
   | exact LeO.none _
   | refine LeO.ite ?_ ?_
   | refine LeO.bind ?_ (fun _ => ?_)
def skiffref1_GetEntry.T3 : Bool × List (List Nat × List Nat) := (true, [([], []), ([0], [0]), ([1], [1]), ([], []), ([3], [3]), ([4], [4]), ([], []), ([6], [6]), ([7, 2], [7]), ([], []), ([9], [9]), ([10, 8], [10]), ([2, 5, 8, 11], [2, 5, 8, 11]), ([], []), ([13, 12, 11, 0, 1, 2, 3, 4, 5, 6, 7, 8, 9, 10, 11, 12, 13], [12, 13])])
def skiffref1_GetEntry.B3 : List Nat := [0, 1, 3, 0, 8, 24, 0, 64, 199, 0, 512, 1991, 4095, 0, 16383]
theorem skiffref1_GetEntry.tab3 : rtab .any (opsOf Try.f84 3) = skiffref1_GetEntry.T3 := by kernel_rfl
theorem skiffref1_GetEntry.bits3 : waitsOk skiffref1_GetEntry.T3.2 skiffref1_GetEntry.B3 = true := by kernel_rfl
set_option maxHeartbeats 8000000 in
set_option maxRecDepth 100000 in
theorem skiffref1_GetEntry.calls (k : Nat) (a0 : ByteArray) (r1 : Int) (r2 : Int) (r3 : Int) (r4 : Int) (r5 : Int) (w : World) (h : skiffref1_GetEntry.f k a0 = some (r1, r2, r3, r4, r5)) :
  Calls Try.prog 84 #[.string a0] w fun e w' => e = .returned (.tuple #[.agg #[.int .i64 r1, .int .i64 r2, .int .i64 r3, .int .i64 r4], .int .i64 r5]) ∧ Below w.heap.size w w' := by
 have hu25 := Try.underlying25
 have HB := Aside0.mk (Below.refl w.heap.size w)
 have H : (if (a0.size : Int) = 24 then (if 0 ≤ 4 then (if 4 ≤ (a0.size : Int) then ((skiffref1_Of.f k (a0.extract 0 4)).bind fun t354 => (if 4 < (a0.size : Int) then (if 6 ≤ 8 then (if 8 ≤ (a0.size : Int) then ((skiffref1_Of.f k (a0.extract 6 8)).bind fun t355 => (if 8 ≤ 12 then (if 12 ≤ (a0.size : Int) then ((skiffref1_Of.f k (a0.extract 8 12)).bind fun t356 => ((Hand.skiffref1_PutEntry.f k t354 (wrap64 (bt a0 4)) t355 t356).bind fun bt358 => (if bt358.2 = 0 then (if bt358.1.toList = a0.toList then (some (t354, wrap64 (bt a0 4), t355, t356, 0)) else (some (0, 0, 0, 0, 400))) else (some (0, 0, 0, 0, 400))))) else (none)) else (none))) else (none)) else (none)) else (none))) else (none)) else (none)) else (some (0, 0, 0, 0, 400))) = some (r1, r2, r3, r4, r5) := h
 clear h
 by_cases c2 : (a0.size : Int) = 24
 ·rw [if_pos c2] at H
  have c2b0 : ((a0.size : Int) == 24) = true := beq_iff_eq.mpr c2
  have c2b1 : ((a0.size : Int) != 24) = false := bne_eq_false_iff_eq.mpr c2
  clear c2
  by_cases c3 : 0 ≤ 4
  ·rw [if_pos c3] at H
   have c3b0 := eq_true c3
   have c3b1 : decide (0 ≤ 4) = true := decide_eq_true c3
   clear c3
   by_cases c4 : 4 ≤ (a0.size : Int)
   ·rw [if_pos c4] at H
    have c4b0 := eq_true c4
    have c4b1 : decide (4 ≤ (a0.size : Int)) = true := decide_eq_true c4
    clear c4
    replace H := Option.bind_eq_some_iff.mp H
    obtain ⟨t354, A50, H⟩ := H
    replace H : (if 4 < (a0.size : Int) then (if 6 ≤ 8 then (if 8 ≤ (a0.size : Int) then ((skiffref1_Of.f k (a0.extract 6 8)).bind fun t355 => (if 8 ≤ 12 then (if 12 ≤ (a0.size : Int) then ((skiffref1_Of.f k (a0.extract 8 12)).bind fun t356 => ((Hand.skiffref1_PutEntry.f k t354 (wrap64 (bt a0 4)) t355 t356).bind fun bt358 => (if bt358.2 = 0 then (if bt358.1.toList = a0.toList then (some (t354, wrap64 (bt a0 4), t355, t356, 0)) else (some (0, 0, 0, 0, 400))) else (some (0, 0, 0, 0, 400))))) else (none)) else (none))) else (none)) else (none)) else (none)) = some (r1, r2, r3, r4, r5) := H
    have A5 := Aside0.mk A50
    clear A50
    by_cases c6 : 4 < (a0.size : Int)
    ·rw [if_pos c6] at H
     have c6b0 : decide (4 < (a0.size : Int)) = true := decide_eq_true c6
     have c6b1 : decide (4 < a0.size) = true := decide_eq_true (by omega)
     clear c6
     by_cases c8 : 6 ≤ 8
     ·rw [if_pos c8] at H
      have c8b0 := eq_true c8
      have c8b1 : decide (6 ≤ 8) = true := decide_eq_true c8
      clear c8
      by_cases c9 : 8 ≤ (a0.size : Int)
      ·rw [if_pos c9] at H
       have c9b0 := eq_true c9
       have c9b1 : decide (8 ≤ (a0.size : Int)) = true := decide_eq_true c9
       clear c9
       replace H := Option.bind_eq_some_iff.mp H
       obtain ⟨t355, A100, H⟩ := H
       replace H : (if 8 ≤ 12 then (if 12 ≤ (a0.size : Int) then ((skiffref1_Of.f k (a0.extract 8 12)).bind fun t356 => ((Hand.skiffref1_PutEntry.f k t354 (wrap64 (bt a0 4)) t355 t356).bind fun bt358 => (if bt358.2 = 0 then (if bt358.1.toList = a0.toList then (some (t354, wrap64 (bt a0 4), t355, t356, 0)) else (some (0, 0, 0, 0, 400))) else (some (0, 0, 0, 0, 400))))) else (none)) else (none)) = some (r1, r2, r3, r4, r5) := H
       have A10 := Aside0.mk A100
       clear A100
       by_cases c11 : 8 ≤ 12
       ·rw [if_pos c11] at H
        have c11b0 := eq_true c11
        have c11b1 : decide (8 ≤ 12) = true := decide_eq_true c11
        clear c11
        by_cases c12 : 12 ≤ (a0.size : Int)
        ·rw [if_pos c12] at H
         have c12b0 := eq_true c12
         have c12b1 : decide (12 ≤ (a0.size : Int)) = true := decide_eq_true c12
         clear c12
         replace H := Option.bind_eq_some_iff.mp H
         obtain ⟨t356, A130, H⟩ := H
         replace H : ((Hand.skiffref1_PutEntry.f k t354 (wrap64 (bt a0 4)) t355 t356).bind fun bt358 => (if bt358.2 = 0 then (if bt358.1.toList = a0.toList then (some (t354, wrap64 (bt a0 4), t355, t356, 0)) else (some (0, 0, 0, 0, 400))) else (some (0, 0, 0, 0, 400)))) = some (r1, r2, r3, r4, r5) := H
         have A13 := Aside0.mk A130
         clear A130
         replace H := Option.bind_eq_some_iff.mp H
         obtain ⟨⟨t358, t359⟩, A140, H⟩ := H
         replace H : (if t359 = 0 then (if t358.toList = a0.toList then (some (t354, wrap64 (bt a0 4), t355, t356, 0)) else (some (0, 0, 0, 0, 400))) else (some (0, 0, 0, 0, 400))) = some (r1, r2, r3, r4, r5) := H
         have A14 := Aside0.mk A140
         clear A140
         by_cases c15 : t359 = 0
         ·rw [if_pos c15] at H
          have c15b0 : (t359 == 0) = true := beq_iff_eq.mpr c15
          have c15b1 : (t359 != 0) = false := bne_eq_false_iff_eq.mpr c15
          clear c15
          by_cases c16 : t358.toList = a0.toList
          ·rw [if_pos c16] at H
           have c16b0 : (t358.toList == a0.toList) = true := beq_iff_eq.mpr c16
           have c16b1 : (t358.toList != a0.toList) = false := bne_eq_false_iff_eq.mpr c16
           clear c16
           simp only [Option.some.injEq, Prod.mk.injEq] at H
           obtain ⟨rfl, rfl, rfl, rfl, rfl⟩ := H
           go_enter Try.func84, Try.ntmps84
           try go_wp2_with (first | ((with_reducible refine gate_dst (N := 2) rfl ?_); refine box_event ?hg (N := 2) ?hd (cs := #[.int .i64 0, .int .i64 0, .int .i64 0, .int .i64 0]) (t := 25) ?hr ?_; (case hd => rfl); (case hg => rfl); (case hr => first | (go_simp; done) | (go_simp; rfl)); intro gb353 hg w17 hbox hb; have n0_ := Aside0.mk (below_step q2_ hb); have n1_ := Aside0.mk (hbox); have n2_ := Aside0.mk ((by rw [hg]; exact (below_size q2_) : w.heap.size ≤ gb353)); have n3_ := Aside0.mk ((by rw [hg]; exact (below_size q2_) : w.heap.size ≤ gb353)); clear HB; have HB := n0_; have BK353 := n1_; have GW353 := n2_; have GE353 := n3_; clear n0_ n1_ n2_ n3_; clear hb hbox hg))
           have n0_ := Aside0.mk (blk_drew BK353.out)
           have n1_ := Aside0.mk (below_drew1 HB.out)
           clear BK353
           clear HB
           have BK353 := n0_
           have HB := n1_
           clear n0_ n1_
           have p7 : 0 ≤ (4 : Int) := (by omega)
           have q7 : 4 < a0.size := (by have : (4 : Int) < (a0.size : Int) := of_decide_eq_true q5_; omega)
           have hx7 : ∀ h : 4 < a0.size, ((a0[4]'h).toNat : Int) = bt a0 4 := bt_at a0 4
           clear p7
           have qi7 : (4 < (a0.size : Int)) = True := eq_true (of_decide_eq_true q5_)
           replace q7 := eq_true q7
           refine start_ (n := 15) (S := fun w' => True) (ds := []) #[false, false, false, false, false, false, false, false, false, false, false, false, false, false, false] (by kernel_rfl) rfl rfl trivial (fun hHeld => ?_); refine with_tabW skiffref1_GetEntry.tab3 skiffref1_GetEntry.bits3 (fun HT_ HW_ => ?_)
           generalize w17.drew = w18 at BK353 HB hHeld ⊢
           refine pure_ (i := 0) (N := some 11) (v := ?_) (a' := ?_) #[true, false, false, false, false, false, false, false, false, false, false, false, false, false, false] rfl rfl (any_of HT_.out (by kernel_rfl)) (fun _ _ _ h => h) (Or.inl ⟨by rfl, ?_⟩) ?_ ?_
           rotate_left
           ·intro w'
            go_simp
            with_reducible rfl
           rotate_left
           ·simp only [Act.put, List.setIfInBounds_toArray, List.set_cons_zero, List.set_cons_succ, i64_w, i32_w]
            rfl
           refine pure_ (i := 1) (N := some 12) (v := ?_) (a' := ?_) #[true, true, false, false, false, false, false, false, false, false, false, false, false, false, false] rfl rfl (any_of HT_.out (by kernel_rfl)) (fun _ _ _ h => h) (Or.inl ⟨by rfl, ?_⟩) ?_ ?_
           rotate_left
           ·intro w'
            go_simp
            with_reducible rfl
           rotate_left
           ·simp only [Act.put, List.setIfInBounds_toArray, List.set_cons_zero, List.set_cons_succ, i64_w, i32_w]
            rfl
           refine pure_ (i := 3) (N := some 14) (v := ?_) (a' := ?_) #[true, true, false, true, false, false, false, false, false, false, false, false, false, false, false] rfl rfl (any_of HT_.out (by kernel_rfl)) (fun _ _ _ h => h) (Or.inl ⟨by rfl, ?_⟩) ?_ ?_
           rotate_left
           ·intro w'
            go_simp
            with_reducible rfl
           rotate_left
           ·simp only [Act.put, List.setIfInBounds_toArray, List.set_cons_zero, List.set_cons_succ, i64_w, i32_w]
            rfl
           refine pure_ (i := 6) (N := some 17) (v := ?_) (a' := ?_) #[true, true, false, true, false, false, true, false, false, false, false, false, false, false, false] rfl rfl (any_of HT_.out (by kernel_rfl)) (fun _ _ _ h => h) (Or.inl ⟨by rfl, ?_⟩) ?_ ?_
           rotate_left
           ·intro w'
            go_simp
            with_reducible rfl
           rotate_left
           ·simp only [Act.put, List.setIfInBounds_toArray, List.set_cons_zero, List.set_cons_succ, i64_w, i32_w]
            rfl
           refine pure_ (i := 7) (N := some 18) (v := ?_) (a' := ?_) #[true, true, false, true, false, false, true, true, false, false, false, false, false, false, false] rfl rfl (any_of HT_.out (by kernel_rfl)) (fun _ _ _ h => h) (Or.inl ⟨by rfl, ?_⟩) ?_ ?_
           rotate_left
           ·intro w'
            go_simp
            with_reducible rfl
           rotate_left
           ·simp only [Act.put, List.setIfInBounds_toArray, List.set_cons_zero, List.set_cons_succ, i64_w, i32_w]
            rfl
           refine pure_ (i := 9) (N := some 20) (v := ?_) (a' := ?_) #[true, true, false, true, false, false, true, true, false, true, false, false, false, false, false] rfl rfl (any_of HT_.out (by kernel_rfl)) (fun _ _ _ h => h) (Or.inl ⟨by rfl, ?_⟩) ?_ ?_
           rotate_left
           ·intro w'
            go_simp
            with_reducible rfl
           rotate_left
           ·simp only [Act.put, List.setIfInBounds_toArray, List.set_cons_zero, List.set_cons_succ, i64_w, i32_w]
            rfl
           refine pure_ (i := 10) (N := some 21) (v := ?_) (a' := ?_) #[true, true, false, true, false, false, true, true, false, true, true, false, false, false, false] rfl rfl (any_of HT_.out (by kernel_rfl)) (fun _ _ _ h => h) (Or.inl ⟨by rfl, ?_⟩) ?_ ?_
           rotate_left
           ·intro w'
            go_simp
            with_reducible rfl
           rotate_left
           ·simp only [Act.put, List.setIfInBounds_toArray, List.set_cons_zero, List.set_cons_succ, i64_w, i32_w]
            rfl
           refine take_ (i := 4) (N := some 15) (v := ?_) (a' := ?_) #[true, true, false, true, true, false, true, true, false, true, true, false, false, false, false] rfl rfl (take_ofW HT_.out HW_.out (by kernel_rfl)) (fun _ _ _ h => h) (Or.inl ⟨by rfl, ?_⟩) hHeld ?_ ?_
           rotate_left
           ·intro w' _
            go_simp
            with_reducible rfl
           rotate_left
           ·simp only [Act.put, List.setIfInBounds_toArray, List.set_cons_zero, List.set_cons_succ, i64_w, i32_w]
            rfl
           refine pure_ (i := 5) (N := some 16) (v := ?_) (a' := ?_) #[true, true, false, true, true, true, true, true, false, true, true, false, false, false, false] rfl rfl (any_of HT_.out (by kernel_rfl)) (fun _ _ _ h => h) (Or.inl ⟨by rfl, ?_⟩) ?_ ?_
           rotate_left
           ·intro w'
            go_simp
            with_reducible rfl
           rotate_left
           ·simp only [Act.put, List.setIfInBounds_toArray, List.set_cons_zero, List.set_cons_succ, i64_w, i32_w]
            rfl
           refine join_ (σ := Nat) 1 #[true, true, true, true, true, true, true, true, true, true, true, true, true, true, false] (fun s_ => [(13, .int .i64 t354), (19, .int .i64 t355), (22, .int .i64 t356), (4, .pointer (some ⟨s_, 0, none⟩)), (23, .agg #[.int .i64 t354, .int .i64 (wrap64 (bt a0 4)), .int .i64 t355, .int .i64 t356])]) (fun s_ w' => (w'.heap[gb353]? = some (.cells #[.int .i64 0, .int .i64 0, .int .i64 0, .int .i64 0] 25 (0, 0))) ∧ (w'.heap[s_]? = some (.cells #[.int .i64 0, .int .i64 0, .int .i64 0, .int .i64 0] 25 (0, 0))) ∧ (w.heap.size ≤ s_) ∧ (w.heap.size ≤ s_) ∧ (gb353 ≠ s_) ∧ (s_ ≠ gb353) ∧ (Below w.heap.size w w')) ?_ ?_
           rotate_left
           ·intro hCont
            refine two_ (i := 2) (j := 13) (Ni := some 13) (Nj := some 4) #[true, true, true, true, true, true, true, true, false, true, true, false, false, false, false] #[true, true, false, true, true, true, true, true, false, true, true, false, false, true, false] rfl rfl rfl rfl (two_of HT_.out (by kernel_rfl)) (by decide) (by decide) (fun K hK => ?_) (fun K hK => ?_)
            ·skip
             refine goes_ Try.func88 (by kernel_rfl) rfl #[.string (a0.extract 0 4)] (by rfl) rfl rfl q1_ ?_
             with_reducible refine (skiffref1_Of.calls k (a0.extract 0 4) t354 _ A5.out).mono ?_
             rintro e w' ⟨rfl, ⟨nd, rfl⟩⟩
             refine ⟨_, rfl, ?_⟩
             refine hK.out _ _ trivial (fun hHeld => ?_)
             clear hK K
             refine norm_ (a' := ?_) ?_ ?_
             rotate_left
             ·show Act.put _ (some 13) _ = _
              simp only [Act.put, List.setIfInBounds_toArray, List.set_cons_zero, List.set_cons_succ, i64_w, i32_w]
              rfl
             refine two_ (i := 8) (j := 13) (Ni := some 19) (Nj := some 4) #[true, true, true, true, true, true, true, true, true, true, true, false, false, false, false] #[true, true, true, true, true, true, true, true, false, true, true, false, false, true, false] rfl rfl rfl rfl (two_of HT_.out (by kernel_rfl)) (by decide) (by decide) (fun K hK => ?_) (fun K hK => ?_)
             ·skip
              refine goes_ Try.func88 (by kernel_rfl) rfl #[.string (a0.extract 6 8)] (by rfl) rfl rfl q1_ ?_
              with_reducible refine (skiffref1_Of.calls k (a0.extract 6 8) t355 _ A10.out).mono ?_
              rintro e w' ⟨rfl, ⟨nd, rfl⟩⟩
              refine ⟨_, rfl, ?_⟩
              refine hK.out _ _ trivial (fun hHeld => ?_)
              clear hK K
              refine norm_ (a' := ?_) ?_ ?_
              rotate_left
              ·show Act.put _ (some 19) _ = _
               simp only [Act.put, List.setIfInBounds_toArray, List.set_cons_zero, List.set_cons_succ, i64_w, i32_w]
               rfl
              refine two_ (i := 11) (j := 13) (Ni := some 22) (Nj := some 4) #[true, true, true, true, true, true, true, true, true, true, true, true, false, false, false] #[true, true, true, true, true, true, true, true, true, true, true, false, false, true, false] rfl rfl rfl rfl (two_of HT_.out (by kernel_rfl)) (by decide) (by decide) (fun K hK => ?_) (fun K hK => ?_)
              ·skip
               refine goes_ Try.func88 (by kernel_rfl) rfl #[.string (a0.extract 8 12)] (by rfl) rfl rfl q1_ ?_
               with_reducible refine (skiffref1_Of.calls k (a0.extract 8 12) t356 _ A13.out).mono ?_
               rintro e w' ⟨rfl, ⟨nd, rfl⟩⟩
               refine ⟨_, rfl, ?_⟩
               refine hK.out _ _ trivial (fun hHeld => ?_)
               clear hK K
               refine norm_ (a' := ?_) ?_ ?_
               rotate_left
               ·show Act.put _ (some 22) _ = _
                simp only [Act.put, List.setIfInBounds_toArray, List.set_cons_zero, List.set_cons_succ, i64_w, i32_w]
                rfl
               refine pure_ (i := 12) (N := some 23) (v := ?_) (a' := ?_) #[true, true, true, true, true, true, true, true, true, true, true, true, true, false, false] rfl rfl (any_of HT_.out (by kernel_rfl)) (fun _ _ _ h => h) (Or.inl ⟨by rfl, ?_⟩) ?_ ?_
               rotate_left
               ·intro w'
                go_simp
                with_reducible rfl
               rotate_left
               ·simp only [Act.put, List.setIfInBounds_toArray, List.set_cons_zero, List.set_cons_succ, i64_w, i32_w]
                rfl
               refine one_ (i := 13) (N := some 4) #[true, true, true, true, true, true, true, true, true, true, true, true, true, true, false] rfl rfl (one_of HT_.out (by kernel_rfl)) (by decide) (fun K hK => ?_)
               refine box_step ?hg (N := 4) ?hd (cs := #[.int .i64 0, .int .i64 0, .int .i64 0, .int .i64 0]) (t := 25) ?hr ?_; (case hd => rfl); (case hg => rfl); (case hr => first | (go_simp; done) | (go_simp; rfl))
               intro gb357 hg w19 hbox hb
               have n0_ := Aside0.mk (blk_below (g := gb353) (o := .cells #[.int .i64 0, .int .i64 0, .int .i64 0, .int .i64 0] 25 (0, 0)) (by (with_reducible repeat (first | refine blk_drewN ?_ _ | refine blk_drew ?_ | refine blk_alloc ?_ _)); exact BK353.out) hb)
               have n1_ := Aside0.mk (below_step (by repeat (first | (with_reducible first | exact HB.out | apply below_alloc | apply pw_below_drewN | apply below_drew1 | refine below_set ?_ GE353.out) | exact HB.out)) hb)
               have n2_ := Aside0.mk (hbox)
               have n3_ := Aside0.mk ((by rw [hg]; exact (below_size (by repeat (first | (with_reducible first | exact HB.out | apply below_alloc | apply pw_below_drewN | apply below_drew1 | refine below_set ?_ GE353.out) | exact HB.out))) : w.heap.size ≤ gb357))
               have n4_ := Aside0.mk ((by rw [hg]; exact (below_size (by repeat (first | (with_reducible first | exact HB.out | apply below_alloc | apply pw_below_drewN | apply below_drew1 | refine below_set ?_ GE353.out) | exact HB.out))) : w.heap.size ≤ gb357))
               have n5_ := Aside0.mk ((by rw [hg]; exact Nat.ne_of_lt (blk_lt (g := gb353) (o := .cells #[.int .i64 0, .int .i64 0, .int .i64 0, .int .i64 0] 25 (0, 0)) (by (with_reducible repeat (first | refine blk_drewN ?_ _ | refine blk_drew ?_ | refine blk_alloc ?_ _)); exact BK353.out)) : gb353 ≠ gb357))
               have n6_ := Aside0.mk ((by rw [hg]; exact Nat.ne_of_gt (blk_lt (g := gb353) (o := .cells #[.int .i64 0, .int .i64 0, .int .i64 0, .int .i64 0] 25 (0, 0)) (by (with_reducible repeat (first | refine blk_drewN ?_ _ | refine blk_drew ?_ | refine blk_alloc ?_ _)); exact BK353.out)) : gb357 ≠ gb353))
               clear BK353
               clear HB
               have BK353 := n0_
               have HB := n1_
               have BK357 := n2_
               have GW357 := n3_
               have GE357 := n4_
               have NB353_357 := n5_
               have NB357_353 := n6_
               clear n0_ n1_ n2_ n3_ n4_ n5_ n6_
               clear hb hbox hg
               refine hK.out _ _ trivial (fun hHeld => ?_)
               clear hK K
               refine norm_ (a' := ?_) ?_ ?_
               rotate_left
               ·show Act.put _ (some 4) _ = _
                simp only [Act.put, List.setIfInBounds_toArray, List.set_cons_zero, List.set_cons_succ, i64_w, i32_w]
                rfl
               exact norm_ (by simp only [putAll, Act.put, List.setIfInBounds_toArray, List.set_cons_zero, List.set_cons_succ]) (hCont (gb357) _ ⟨(by (with_reducible repeat (first | refine blk_drewN ?_ _ | refine blk_drew ?_ | refine blk_alloc ?_ _)); exact BK353.out), (by (with_reducible repeat (first | refine blk_drewN ?_ _ | refine blk_drew ?_ | refine blk_alloc ?_ _)); exact BK357.out), GW357.out, GE357.out, NB353_357.out, NB357_353.out, (by repeat (first | (with_reducible first | exact HB.out | apply below_alloc | apply pw_below_drewN | apply below_drew1 | refine below_set ?_ GE353.out | refine below_set ?_ GE357.out) | exact HB.out))⟩)
              ·skip
               refine box_step ?hg (N := 4) ?hd (cs := #[.int .i64 0, .int .i64 0, .int .i64 0, .int .i64 0]) (t := 25) ?hr ?_; (case hd => rfl); (case hg => rfl); (case hr => first | (go_simp; done) | (go_simp; rfl))
               intro gb357 hg w19 hbox hb
               have n0_ := Aside0.mk (blk_below (g := gb353) (o := .cells #[.int .i64 0, .int .i64 0, .int .i64 0, .int .i64 0] 25 (0, 0)) (by (with_reducible repeat (first | refine blk_drewN ?_ _ | refine blk_drew ?_ | refine blk_alloc ?_ _)); exact BK353.out) hb)
               have n1_ := Aside0.mk (below_step (by repeat (first | (with_reducible first | exact HB.out | apply below_alloc | apply pw_below_drewN | apply below_drew1 | refine below_set ?_ GE353.out) | exact HB.out)) hb)
               have n2_ := Aside0.mk (hbox)
               have n3_ := Aside0.mk ((by rw [hg]; exact (below_size (by repeat (first | (with_reducible first | exact HB.out | apply below_alloc | apply pw_below_drewN | apply below_drew1 | refine below_set ?_ GE353.out) | exact HB.out))) : w.heap.size ≤ gb357))
               have n4_ := Aside0.mk ((by rw [hg]; exact (below_size (by repeat (first | (with_reducible first | exact HB.out | apply below_alloc | apply pw_below_drewN | apply below_drew1 | refine below_set ?_ GE353.out) | exact HB.out))) : w.heap.size ≤ gb357))
               have n5_ := Aside0.mk ((by rw [hg]; exact Nat.ne_of_lt (blk_lt (g := gb353) (o := .cells #[.int .i64 0, .int .i64 0, .int .i64 0, .int .i64 0] 25 (0, 0)) (by (with_reducible repeat (first | refine blk_drewN ?_ _ | refine blk_drew ?_ | refine blk_alloc ?_ _)); exact BK353.out)) : gb353 ≠ gb357))
               have n6_ := Aside0.mk ((by rw [hg]; exact Nat.ne_of_gt (blk_lt (g := gb353) (o := .cells #[.int .i64 0, .int .i64 0, .int .i64 0, .int .i64 0] 25 (0, 0)) (by (with_reducible repeat (first | refine blk_drewN ?_ _ | refine blk_drew ?_ | refine blk_alloc ?_ _)); exact BK353.out)) : gb357 ≠ gb353))
               clear BK353
               clear HB
               have BK353 := n0_
               have HB := n1_
               have BK357 := n2_
               have GW357 := n3_
               have GE357 := n4_
               have NB353_357 := n5_
               have NB357_353 := n6_
               clear n0_ n1_ n2_ n3_ n4_ n5_ n6_
               clear hb hbox hg
               refine hK.out _ _ trivial (fun hHeld => ?_)
               clear hK K
               refine norm_ (a' := ?_) ?_ ?_
               rotate_left
               ·show Act.put _ (some 4) _ = _
                simp only [Act.put, List.setIfInBounds_toArray, List.set_cons_zero, List.set_cons_succ, i64_w, i32_w]
                rfl
               refine one_ (i := 11) (N := some 22) #[true, true, true, true, true, true, true, true, true, true, true, true, false, true, false] rfl rfl (one_of HT_.out (by kernel_rfl)) (by decide) (fun K hK => ?_)
               refine goes_ Try.func88 (by kernel_rfl) rfl #[.string (a0.extract 8 12)] (by rfl) rfl rfl q1_ ?_
               with_reducible refine (skiffref1_Of.calls k (a0.extract 8 12) t356 _ A13.out).mono ?_
               rintro e w' ⟨rfl, ⟨nd, rfl⟩⟩
               refine ⟨_, rfl, ?_⟩
               refine hK.out _ _ trivial (fun hHeld => ?_)
               clear hK K
               refine norm_ (a' := ?_) ?_ ?_
               rotate_left
               ·show Act.put _ (some 22) _ = _
                simp only [Act.put, List.setIfInBounds_toArray, List.set_cons_zero, List.set_cons_succ, i64_w, i32_w]
                rfl
               refine pure_ (i := 12) (N := some 23) (v := ?_) (a' := ?_) #[true, true, true, true, true, true, true, true, true, true, true, true, true, true, false] rfl rfl (any_of HT_.out (by kernel_rfl)) (fun _ _ _ h => h) (Or.inl ⟨by rfl, ?_⟩) ?_ ?_
               rotate_left
               ·intro w'
                go_simp
                with_reducible rfl
               rotate_left
               ·simp only [Act.put, List.setIfInBounds_toArray, List.set_cons_zero, List.set_cons_succ, i64_w, i32_w]
                rfl
               exact norm_ (by simp only [putAll, Act.put, List.setIfInBounds_toArray, List.set_cons_zero, List.set_cons_succ]) (hCont (gb357) _ ⟨(by (with_reducible repeat (first | refine blk_drewN ?_ _ | refine blk_drew ?_ | refine blk_alloc ?_ _)); exact BK353.out), (by (with_reducible repeat (first | refine blk_drewN ?_ _ | refine blk_drew ?_ | refine blk_alloc ?_ _)); exact BK357.out), GW357.out, GE357.out, NB353_357.out, NB357_353.out, (by repeat (first | (with_reducible first | exact HB.out | apply below_alloc | apply pw_below_drewN | apply below_drew1 | refine below_set ?_ GE353.out | refine below_set ?_ GE357.out) | exact HB.out))⟩)
             ·skip
              refine box_step ?hg (N := 4) ?hd (cs := #[.int .i64 0, .int .i64 0, .int .i64 0, .int .i64 0]) (t := 25) ?hr ?_; (case hd => rfl); (case hg => rfl); (case hr => first | (go_simp; done) | (go_simp; rfl))
              intro gb357 hg w19 hbox hb
              have n0_ := Aside0.mk (blk_below (g := gb353) (o := .cells #[.int .i64 0, .int .i64 0, .int .i64 0, .int .i64 0] 25 (0, 0)) (by (with_reducible repeat (first | refine blk_drewN ?_ _ | refine blk_drew ?_ | refine blk_alloc ?_ _)); exact BK353.out) hb)
              have n1_ := Aside0.mk (below_step (by repeat (first | (with_reducible first | exact HB.out | apply below_alloc | apply pw_below_drewN | apply below_drew1 | refine below_set ?_ GE353.out) | exact HB.out)) hb)
              have n2_ := Aside0.mk (hbox)
              have n3_ := Aside0.mk ((by rw [hg]; exact (below_size (by repeat (first | (with_reducible first | exact HB.out | apply below_alloc | apply pw_below_drewN | apply below_drew1 | refine below_set ?_ GE353.out) | exact HB.out))) : w.heap.size ≤ gb357))
              have n4_ := Aside0.mk ((by rw [hg]; exact (below_size (by repeat (first | (with_reducible first | exact HB.out | apply below_alloc | apply pw_below_drewN | apply below_drew1 | refine below_set ?_ GE353.out) | exact HB.out))) : w.heap.size ≤ gb357))
              have n5_ := Aside0.mk ((by rw [hg]; exact Nat.ne_of_lt (blk_lt (g := gb353) (o := .cells #[.int .i64 0, .int .i64 0, .int .i64 0, .int .i64 0] 25 (0, 0)) (by (with_reducible repeat (first | refine blk_drewN ?_ _ | refine blk_drew ?_ | refine blk_alloc ?_ _)); exact BK353.out)) : gb353 ≠ gb357))
              have n6_ := Aside0.mk ((by rw [hg]; exact Nat.ne_of_gt (blk_lt (g := gb353) (o := .cells #[.int .i64 0, .int .i64 0, .int .i64 0, .int .i64 0] 25 (0, 0)) (by (with_reducible repeat (first | refine blk_drewN ?_ _ | refine blk_drew ?_ | refine blk_alloc ?_ _)); exact BK353.out)) : gb357 ≠ gb353))
              clear BK353
              clear HB
              have BK353 := n0_
              have HB := n1_
              have BK357 := n2_
              have GW357 := n3_
              have GE357 := n4_
              have NB353_357 := n5_
              have NB357_353 := n6_
              clear n0_ n1_ n2_ n3_ n4_ n5_ n6_
              clear hb hbox hg
              refine hK.out _ _ trivial (fun hHeld => ?_)
              clear hK K
              refine norm_ (a' := ?_) ?_ ?_
              rotate_left
              ·show Act.put _ (some 4) _ = _
               simp only [Act.put, List.setIfInBounds_toArray, List.set_cons_zero, List.set_cons_succ, i64_w, i32_w]
               rfl
              refine one_ (i := 8) (N := some 19) #[true, true, true, true, true, true, true, true, true, true, true, false, false, true, false] rfl rfl (one_of HT_.out (by kernel_rfl)) (by decide) (fun K hK => ?_)
              refine goes_ Try.func88 (by kernel_rfl) rfl #[.string (a0.extract 6 8)] (by rfl) rfl rfl q1_ ?_
              with_reducible refine (skiffref1_Of.calls k (a0.extract 6 8) t355 _ A10.out).mono ?_
              rintro e w' ⟨rfl, ⟨nd, rfl⟩⟩
              refine ⟨_, rfl, ?_⟩
              refine hK.out _ _ trivial (fun hHeld => ?_)
              clear hK K
              refine norm_ (a' := ?_) ?_ ?_
              rotate_left
              ·show Act.put _ (some 19) _ = _
               simp only [Act.put, List.setIfInBounds_toArray, List.set_cons_zero, List.set_cons_succ, i64_w, i32_w]
               rfl
              refine one_ (i := 11) (N := some 22) #[true, true, true, true, true, true, true, true, true, true, true, true, false, true, false] rfl rfl (one_of HT_.out (by kernel_rfl)) (by decide) (fun K hK => ?_)
              refine goes_ Try.func88 (by kernel_rfl) rfl #[.string (a0.extract 8 12)] (by rfl) rfl rfl q1_ ?_
              with_reducible refine (skiffref1_Of.calls k (a0.extract 8 12) t356 _ A13.out).mono ?_
              rintro e w' ⟨rfl, ⟨nd, rfl⟩⟩
              refine ⟨_, rfl, ?_⟩
              refine hK.out _ _ trivial (fun hHeld => ?_)
              clear hK K
              refine norm_ (a' := ?_) ?_ ?_
              rotate_left
              ·show Act.put _ (some 22) _ = _
               simp only [Act.put, List.setIfInBounds_toArray, List.set_cons_zero, List.set_cons_succ, i64_w, i32_w]
               rfl
              refine pure_ (i := 12) (N := some 23) (v := ?_) (a' := ?_) #[true, true, true, true, true, true, true, true, true, true, true, true, true, true, false] rfl rfl (any_of HT_.out (by kernel_rfl)) (fun _ _ _ h => h) (Or.inl ⟨by rfl, ?_⟩) ?_ ?_
              rotate_left
              ·intro w'
               go_simp
               with_reducible rfl
              rotate_left
              ·simp only [Act.put, List.setIfInBounds_toArray, List.set_cons_zero, List.set_cons_succ, i64_w, i32_w]
               rfl
              exact norm_ (by simp only [putAll, Act.put, List.setIfInBounds_toArray, List.set_cons_zero, List.set_cons_succ]) (hCont (gb357) _ ⟨(by (with_reducible repeat (first | refine blk_drewN ?_ _ | refine blk_drew ?_ | refine blk_alloc ?_ _)); exact BK353.out), (by (with_reducible repeat (first | refine blk_drewN ?_ _ | refine blk_drew ?_ | refine blk_alloc ?_ _)); exact BK357.out), GW357.out, GE357.out, NB353_357.out, NB357_353.out, (by repeat (first | (with_reducible first | exact HB.out | apply below_alloc | apply pw_below_drewN | apply below_drew1 | refine below_set ?_ GE353.out | refine below_set ?_ GE357.out) | exact HB.out))⟩)
            ·skip
             refine box_step ?hg (N := 4) ?hd (cs := #[.int .i64 0, .int .i64 0, .int .i64 0, .int .i64 0]) (t := 25) ?hr ?_; (case hd => rfl); (case hg => rfl); (case hr => first | (go_simp; done) | (go_simp; rfl))
             intro gb357 hg w19 hbox hb
             have n0_ := Aside0.mk (blk_below (g := gb353) (o := .cells #[.int .i64 0, .int .i64 0, .int .i64 0, .int .i64 0] 25 (0, 0)) (by (with_reducible repeat (first | refine blk_drewN ?_ _ | refine blk_drew ?_ | refine blk_alloc ?_ _)); exact BK353.out) hb)
             have n1_ := Aside0.mk (below_step (by repeat (first | (with_reducible first | exact HB.out | apply below_alloc | apply pw_below_drewN | apply below_drew1 | refine below_set ?_ GE353.out) | exact HB.out)) hb)
             have n2_ := Aside0.mk (hbox)
             have n3_ := Aside0.mk ((by rw [hg]; exact (below_size (by repeat (first | (with_reducible first | exact HB.out | apply below_alloc | apply pw_below_drewN | apply below_drew1 | refine below_set ?_ GE353.out) | exact HB.out))) : w.heap.size ≤ gb357))
             have n4_ := Aside0.mk ((by rw [hg]; exact (below_size (by repeat (first | (with_reducible first | exact HB.out | apply below_alloc | apply pw_below_drewN | apply below_drew1 | refine below_set ?_ GE353.out) | exact HB.out))) : w.heap.size ≤ gb357))
             have n5_ := Aside0.mk ((by rw [hg]; exact Nat.ne_of_lt (blk_lt (g := gb353) (o := .cells #[.int .i64 0, .int .i64 0, .int .i64 0, .int .i64 0] 25 (0, 0)) (by (with_reducible repeat (first | refine blk_drewN ?_ _ | refine blk_drew ?_ | refine blk_alloc ?_ _)); exact BK353.out)) : gb353 ≠ gb357))
             have n6_ := Aside0.mk ((by rw [hg]; exact Nat.ne_of_gt (blk_lt (g := gb353) (o := .cells #[.int .i64 0, .int .i64 0, .int .i64 0, .int .i64 0] 25 (0, 0)) (by (with_reducible repeat (first | refine blk_drewN ?_ _ | refine blk_drew ?_ | refine blk_alloc ?_ _)); exact BK353.out)) : gb357 ≠ gb353))
             clear BK353
             clear HB
             have BK353 := n0_
             have HB := n1_
             have BK357 := n2_
             have GW357 := n3_
             have GE357 := n4_
             have NB353_357 := n5_
             have NB357_353 := n6_
             clear n0_ n1_ n2_ n3_ n4_ n5_ n6_
             clear hb hbox hg
             refine hK.out _ _ trivial (fun hHeld => ?_)
             clear hK K
             refine norm_ (a' := ?_) ?_ ?_
             rotate_left
             ·show Act.put _ (some 4) _ = _
              simp only [Act.put, List.setIfInBounds_toArray, List.set_cons_zero, List.set_cons_succ, i64_w, i32_w]
              rfl
             refine one_ (i := 2) (N := some 13) #[true, true, true, true, true, true, true, true, false, true, true, false, false, true, false] rfl rfl (one_of HT_.out (by kernel_rfl)) (by decide) (fun K hK => ?_)
             refine goes_ Try.func88 (by kernel_rfl) rfl #[.string (a0.extract 0 4)] (by rfl) rfl rfl q1_ ?_
             with_reducible refine (skiffref1_Of.calls k (a0.extract 0 4) t354 _ A5.out).mono ?_
             rintro e w' ⟨rfl, ⟨nd, rfl⟩⟩
             refine ⟨_, rfl, ?_⟩
             refine hK.out _ _ trivial (fun hHeld => ?_)
             clear hK K
             refine norm_ (a' := ?_) ?_ ?_
             rotate_left
             ·show Act.put _ (some 13) _ = _
              simp only [Act.put, List.setIfInBounds_toArray, List.set_cons_zero, List.set_cons_succ, i64_w, i32_w]
              rfl
             refine one_ (i := 8) (N := some 19) #[true, true, true, true, true, true, true, true, true, true, true, false, false, true, false] rfl rfl (one_of HT_.out (by kernel_rfl)) (by decide) (fun K hK => ?_)
             refine goes_ Try.func88 (by kernel_rfl) rfl #[.string (a0.extract 6 8)] (by rfl) rfl rfl q1_ ?_
             with_reducible refine (skiffref1_Of.calls k (a0.extract 6 8) t355 _ A10.out).mono ?_
             rintro e w' ⟨rfl, ⟨nd, rfl⟩⟩
             refine ⟨_, rfl, ?_⟩
             refine hK.out _ _ trivial (fun hHeld => ?_)
             clear hK K
             refine norm_ (a' := ?_) ?_ ?_
             rotate_left
             ·show Act.put _ (some 19) _ = _
              simp only [Act.put, List.setIfInBounds_toArray, List.set_cons_zero, List.set_cons_succ, i64_w, i32_w]
              rfl
             refine one_ (i := 11) (N := some 22) #[true, true, true, true, true, true, true, true, true, true, true, true, false, true, false] rfl rfl (one_of HT_.out (by kernel_rfl)) (by decide) (fun K hK => ?_)
             refine goes_ Try.func88 (by kernel_rfl) rfl #[.string (a0.extract 8 12)] (by rfl) rfl rfl q1_ ?_
             with_reducible refine (skiffref1_Of.calls k (a0.extract 8 12) t356 _ A13.out).mono ?_
             rintro e w' ⟨rfl, ⟨nd, rfl⟩⟩
             refine ⟨_, rfl, ?_⟩
             refine hK.out _ _ trivial (fun hHeld => ?_)
             clear hK K
             refine norm_ (a' := ?_) ?_ ?_
             rotate_left
             ·show Act.put _ (some 22) _ = _
              simp only [Act.put, List.setIfInBounds_toArray, List.set_cons_zero, List.set_cons_succ, i64_w, i32_w]
              rfl
             refine pure_ (i := 12) (N := some 23) (v := ?_) (a' := ?_) #[true, true, true, true, true, true, true, true, true, true, true, true, true, true, false] rfl rfl (any_of HT_.out (by kernel_rfl)) (fun _ _ _ h => h) (Or.inl ⟨by rfl, ?_⟩) ?_ ?_
             rotate_left
             ·intro w'
              go_simp
              with_reducible rfl
             rotate_left
             ·simp only [Act.put, List.setIfInBounds_toArray, List.set_cons_zero, List.set_cons_succ, i64_w, i32_w]
              rfl
             exact norm_ (by simp only [putAll, Act.put, List.setIfInBounds_toArray, List.set_cons_zero, List.set_cons_succ]) (hCont (gb357) _ ⟨(by (with_reducible repeat (first | refine blk_drewN ?_ _ | refine blk_drew ?_ | refine blk_alloc ?_ _)); exact BK353.out), (by (with_reducible repeat (first | refine blk_drewN ?_ _ | refine blk_drew ?_ | refine blk_alloc ?_ _)); exact BK357.out), GW357.out, GE357.out, NB353_357.out, NB357_353.out, (by repeat (first | (with_reducible first | exact HB.out | apply below_alloc | apply pw_below_drewN | apply below_drew1 | refine below_set ?_ GE353.out | refine below_set ?_ GE357.out) | exact HB.out))⟩)
           rintro gb357 w20 ⟨h0_, h1_, h2_, h3_, h4_, h5_, h6_⟩
           have n0_ : Aside0 (w20.heap[gb353]? = some (.cells #[.int .i64 0, .int .i64 0, .int .i64 0, .int .i64 0] 25 (0, 0))) := ⟨h0_⟩
           have n1_ : Aside0 (w20.heap[gb357]? = some (.cells #[.int .i64 0, .int .i64 0, .int .i64 0, .int .i64 0] 25 (0, 0))) := ⟨h1_⟩
           have n2_ : Aside0 (w.heap.size ≤ gb357) := ⟨h2_⟩
           have n3_ : Aside0 (w.heap.size ≤ gb357) := ⟨h3_⟩
           have n4_ : Aside0 (gb353 ≠ gb357) := ⟨h4_⟩
           have n5_ : Aside0 (gb357 ≠ gb353) := ⟨h5_⟩
           have n6_ : Aside0 (Below w.heap.size w w20) := ⟨h6_⟩
           clear BK353
           clear HB
           clear h0_ h1_ h2_ h3_ h4_ h5_ h6_
           have BK353 := n0_
           have BK357 := n1_
           have GW357 := n2_
           have GE357 := n3_
           have NB353_357 := n4_
           have NB357_353 := n5_
           have HB := n6_
           clear n0_ n1_ n2_ n3_ n4_ n5_ n6_
           have hHeld := trivial
           refine norm_ (a' := ?_) ?_ ?_
           rotate_left
           ·simp only [putAll, Act.put, List.setIfInBounds_toArray, List.set_cons_zero, List.set_cons_succ]
            rfl
           refine one_ (i := 14) (N := none) #[true, true, true, true, true, true, true, true, true, true, true, true, true, true, true] rfl rfl (one_of HT_.out (by kernel_rfl)) (by decide) (fun K hK => ?_)
           have hs21 : w20.cell? ⟨gb357, 0, none⟩ = some (.int .i64 0) := (blk_cell BK357.out 0).trans rfl
           have hfs21 := blk_frozen BK357.out 0
           have hns21_0 := NB353_357.out
           have hms21_0 := NB357_353.out
           have hs22 : w20.cell? ⟨gb357, 1, none⟩ = some (.int .i64 0) := (blk_cell BK357.out 1).trans rfl
           have hfs22 := blk_frozen BK357.out 1
           have hns22_0 := NB353_357.out
           have hms22_0 := NB357_353.out
           have hs23 : w20.cell? ⟨gb357, 2, none⟩ = some (.int .i64 0) := (blk_cell BK357.out 2).trans rfl
           have hfs23 := blk_frozen BK357.out 2
           have hns23_0 := NB353_357.out
           have hms23_0 := NB357_353.out
           have hs24 : w20.cell? ⟨gb357, 3, none⟩ = some (.int .i64 0) := (blk_cell BK357.out 3).trans rfl
           have hfs24 := blk_frozen BK357.out 3
           have hns24_0 := NB353_357.out
           have hms24_0 := NB357_353.out
           refine skip_ (w1 := ?_) (by rfl) rfl ?_ ?_
           rotate_left
           ·go_simp
            rfl
           refine hK.out _ _ trivial (fun hHeld => ?_)
           clear hK K
           refine done_ (done_of HT_.out (by kernel_rfl)) ?_
           have hnb25 := NB357_353.out
           have hnc25 := NB353_357.out
           have hcz26_0 : w20.cell? ⟨gb357, 0, none⟩ = some (.int .i64 0) := (blk_cell BK357.out 0).trans rfl
           have hcz26_1 : w20.cell? ⟨gb357, 1, none⟩ = some (.int .i64 0) := (blk_cell BK357.out 1).trans rfl
           have hcz26_2 : w20.cell? ⟨gb357, 2, none⟩ = some (.int .i64 0) := (blk_cell BK357.out 2).trans rfl
           have hcz26_3 : w20.cell? ⟨gb357, 3, none⟩ = some (.int .i64 0) := (blk_cell BK357.out 3).trans rfl
           have hfz26_0 := blk_frozen BK357.out 0
           have hfz26_1 := blk_frozen BK357.out 1
           have hfz26_2 := blk_frozen BK357.out 2
           have hfz26_3 := blk_frozen BK357.out 3
           try go_wp2_with (first | ((with_reducible refine gate_callee (f := 29) rfl ?_); refine goesL_ (some 26) rfl rfl Try.func29 (by kernel_rfl) rfl #[.agg #[.int .i64 t354, .int .i64 (wrap64 (bt a0 4)), .int .i64 t355, .int .i64 t356]] rfl q1_ ?_; (with_reducible refine (Hand.skiffref1_PutEntry.calls k t354 (wrap64 (bt a0 4)) t355 t356 t358 t359 _ A14.out).mono ?_); rintro e w27 ⟨rfl, hb⟩; refine ⟨_, rfl, ?_⟩; have n0_ := Aside0.mk (blk_below (g := gb353) (o := .cells #[.int .i64 0, .int .i64 0, .int .i64 0, .int .i64 0] 25 (0, 0)) (by (with_reducible repeat (first | refine blk_drewN ?_ _ | refine blk_drew ?_ | refine blk_alloc ?_ _)); refine blk_far ?_ NB353_357.out _; (with_reducible repeat (first | refine blk_drewN ?_ _ | refine blk_drew ?_ | refine blk_alloc ?_ _)); refine blk_far ?_ NB353_357.out _; (with_reducible repeat (first | refine blk_drewN ?_ _ | refine blk_drew ?_ | refine blk_alloc ?_ _)); refine blk_far ?_ NB353_357.out _; (with_reducible repeat (first | refine blk_drewN ?_ _ | refine blk_drew ?_ | refine blk_alloc ?_ _)); refine blk_far ?_ NB353_357.out _; (with_reducible repeat (first | refine blk_drewN ?_ _ | refine blk_drew ?_ | refine blk_alloc ?_ _)); exact BK353.out) hb); have n1_ := Aside0.mk (blk_below (g := gb357) (o := .cells #[.int .i64 t354, .int .i64 (wrap64 (bt a0 4)), .int .i64 t355, .int .i64 t356] 25 (0, 0)) (by (with_reducible repeat (first | refine blk_drewN ?_ _ | refine blk_drew ?_ | refine blk_alloc ?_ _)); refine blk_put (cs := #[.int .i64 t354, .int .i64 (wrap64 (bt a0 4)), .int .i64 t355, .int .i64 0]) ?_ 3 _ rfl; (with_reducible repeat (first | refine blk_drewN ?_ _ | refine blk_drew ?_ | refine blk_alloc ?_ _)); refine blk_put (cs := #[.int .i64 t354, .int .i64 (wrap64 (bt a0 4)), .int .i64 0, .int .i64 0]) ?_ 2 _ rfl; (with_reducible repeat (first | refine blk_drewN ?_ _ | refine blk_drew ?_ | refine blk_alloc ?_ _)); refine blk_put (cs := #[.int .i64 t354, .int .i64 0, .int .i64 0, .int .i64 0]) ?_ 1 _ rfl; (with_reducible repeat (first | refine blk_drewN ?_ _ | refine blk_drew ?_ | refine blk_alloc ?_ _)); refine blk_put (cs := #[.int .i64 0, .int .i64 0, .int .i64 0, .int .i64 0]) ?_ 0 _ rfl; (with_reducible repeat (first | refine blk_drewN ?_ _ | refine blk_drew ?_ | refine blk_alloc ?_ _)); exact BK357.out) hb); have n2_ := Aside0.mk (below_step (by repeat (first | (with_reducible first | exact HB.out | apply below_alloc | apply pw_below_drewN | apply below_drew1 | refine below_set ?_ GE353.out | refine below_set ?_ GE357.out) | exact HB.out)) hb); clear BK353; clear BK357; clear HB; have BK353 := n0_; have BK357 := n1_; have HB := n2_; clear n0_ n1_ n2_; (try clear hb); (try clear hb2); (try clear hk); (try clear hi); have hcz28_0 : w27.cell? ⟨gb357, 0, none⟩ = some (.int .i64 t354) := (blk_cell BK357.out 0).trans rfl; have hcz28_1 : w27.cell? ⟨gb357, 1, none⟩ = some (.int .i64 (wrap64 (bt a0 4))) := (blk_cell BK357.out 1).trans rfl; have hcz28_2 : w27.cell? ⟨gb357, 2, none⟩ = some (.int .i64 t355) := (blk_cell BK357.out 2).trans rfl; have hcz28_3 : w27.cell? ⟨gb357, 3, none⟩ = some (.int .i64 t356) := (blk_cell BK357.out 3).trans rfl; have hfz28_0 := blk_frozen BK357.out 0; have hfz28_1 := blk_frozen BK357.out 1; have hfz28_2 := blk_frozen BK357.out 2; have hfz28_3 := blk_frozen BK357.out 3; have hcz29_0 : w27.cell? ⟨gb353, 0, none⟩ = some (.int .i64 0) := (blk_cell BK353.out 0).trans rfl; have hcz29_1 : w27.cell? ⟨gb353, 1, none⟩ = some (.int .i64 0) := (blk_cell BK353.out 1).trans rfl; have hcz29_2 : w27.cell? ⟨gb353, 2, none⟩ = some (.int .i64 0) := (blk_cell BK353.out 2).trans rfl; have hcz29_3 : w27.cell? ⟨gb353, 3, none⟩ = some (.int .i64 0) := (blk_cell BK353.out 3).trans rfl; have hfz29_0 := blk_frozen BK353.out 0; have hfz29_1 := blk_frozen BK353.out 1; have hfz29_2 := blk_frozen BK353.out 2; have hfz29_3 := blk_frozen BK353.out 3))
           refine bodyPost_ret (results_ct rfl _ _ gb353 25 #[.int .i64 t354, .int .i64 (wrap64 (bt a0 4)), .int .i64 t355, .int .i64 t356] (0, 0) _ rfl (by (with_reducible repeat (first | refine blk_drewN ?_ _ | refine blk_drew ?_ | refine blk_alloc ?_ _)); refine blk_put (cs := #[.int .i64 t354, .int .i64 (wrap64 (bt a0 4)), .int .i64 t355, .int .i64 0]) ?_ 3 _ rfl; (with_reducible repeat (first | refine blk_drewN ?_ _ | refine blk_drew ?_ | refine blk_alloc ?_ _)); refine blk_put (cs := #[.int .i64 t354, .int .i64 (wrap64 (bt a0 4)), .int .i64 0, .int .i64 0]) ?_ 2 _ rfl; (with_reducible repeat (first | refine blk_drewN ?_ _ | refine blk_drew ?_ | refine blk_alloc ?_ _)); refine blk_put (cs := #[.int .i64 t354, .int .i64 0, .int .i64 0, .int .i64 0]) ?_ 1 _ rfl; (with_reducible repeat (first | refine blk_drewN ?_ _ | refine blk_drew ?_ | refine blk_alloc ?_ _)); refine blk_put (cs := #[.int .i64 0, .int .i64 0, .int .i64 0, .int .i64 0]) ?_ 0 _ rfl; (with_reducible repeat (first | refine blk_drewN ?_ _ | refine blk_drew ?_ | refine blk_alloc ?_ _)); exact BK353.out) Try.underlying25 rfl (by kernel_rfl)) rfl ?_
           exact ⟨by first | rfl | (simp [errW_none, errW_some] <;> rfl) | (simp [*, errW_none, errW_some] <;> rfl), by repeat (first | (with_reducible first | exact HB.out | apply below_alloc | apply pw_below_drewN | apply below_drew1 | refine below_set ?_ GE353.out | refine below_set ?_ GE357.out) | exact HB.out)⟩
          ·rw [if_neg c16] at H
           have c16b0 : (t358.toList == a0.toList) = false := beq_eq_false_iff_ne.mpr c16
           have c16b1 : (t358.toList != a0.toList) = true := bne_iff_ne.mpr c16
           simp only [Option.some.injEq, Prod.mk.injEq] at H
           obtain ⟨rfl, rfl, rfl, rfl, rfl⟩ := H
           go_enter Try.func84, Try.ntmps84
           try go_wp2_with (first | ((with_reducible refine gate_dst (N := 2) rfl ?_); refine box_event ?hg (N := 2) ?hd (cs := #[.int .i64 0, .int .i64 0, .int .i64 0, .int .i64 0]) (t := 25) ?hr ?_; (case hd => rfl); (case hg => rfl); (case hr => first | (go_simp; done) | (go_simp; rfl)); intro gb353 hg w30 hbox hb; have n0_ := Aside0.mk (below_step q2_ hb); have n1_ := Aside0.mk (hbox); have n2_ := Aside0.mk ((by rw [hg]; exact (below_size q2_) : w.heap.size ≤ gb353)); have n3_ := Aside0.mk ((by rw [hg]; exact (below_size q2_) : w.heap.size ≤ gb353)); clear HB; have HB := n0_; have BK353 := n1_; have GW353 := n2_; have GE353 := n3_; clear n0_ n1_ n2_ n3_; clear hb hbox hg))
           have n0_ := Aside0.mk (blk_drew BK353.out)
           have n1_ := Aside0.mk (below_drew1 HB.out)
           clear BK353
           clear HB
           have BK353 := n0_
           have HB := n1_
           clear n0_ n1_
           have p7 : 0 ≤ (4 : Int) := (by omega)
           have q7 : 4 < a0.size := (by have : (4 : Int) < (a0.size : Int) := of_decide_eq_true q5_; omega)
           have hx7 : ∀ h : 4 < a0.size, ((a0[4]'h).toNat : Int) = bt a0 4 := bt_at a0 4
           clear p7
           have qi7 : (4 < (a0.size : Int)) = True := eq_true (of_decide_eq_true q5_)
           replace q7 := eq_true q7
           refine start_ (n := 15) (S := fun w' => True) (ds := []) #[false, false, false, false, false, false, false, false, false, false, false, false, false, false, false] (by kernel_rfl) rfl rfl trivial (fun hHeld => ?_); refine with_tabW skiffref1_GetEntry.tab3 skiffref1_GetEntry.bits3 (fun HT_ HW_ => ?_)
           generalize w30.drew = w31 at BK353 HB hHeld ⊢
           refine pure_ (i := 0) (N := some 11) (v := ?_) (a' := ?_) #[true, false, false, false, false, false, false, false, false, false, false, false, false, false, false] rfl rfl (any_of HT_.out (by kernel_rfl)) (fun _ _ _ h => h) (Or.inl ⟨by rfl, ?_⟩) ?_ ?_
           rotate_left
           ·intro w'
            go_simp
            with_reducible rfl
           rotate_left
           ·simp only [Act.put, List.setIfInBounds_toArray, List.set_cons_zero, List.set_cons_succ, i64_w, i32_w]
            rfl
           refine pure_ (i := 1) (N := some 12) (v := ?_) (a' := ?_) #[true, true, false, false, false, false, false, false, false, false, false, false, false, false, false] rfl rfl (any_of HT_.out (by kernel_rfl)) (fun _ _ _ h => h) (Or.inl ⟨by rfl, ?_⟩) ?_ ?_
           rotate_left
           ·intro w'
            go_simp
            with_reducible rfl
           rotate_left
           ·simp only [Act.put, List.setIfInBounds_toArray, List.set_cons_zero, List.set_cons_succ, i64_w, i32_w]
            rfl
           refine pure_ (i := 3) (N := some 14) (v := ?_) (a' := ?_) #[true, true, false, true, false, false, false, false, false, false, false, false, false, false, false] rfl rfl (any_of HT_.out (by kernel_rfl)) (fun _ _ _ h => h) (Or.inl ⟨by rfl, ?_⟩) ?_ ?_
           rotate_left
           ·intro w'
            go_simp
            with_reducible rfl
           rotate_left
           ·simp only [Act.put, List.setIfInBounds_toArray, List.set_cons_zero, List.set_cons_succ, i64_w, i32_w]
            rfl
           refine pure_ (i := 6) (N := some 17) (v := ?_) (a' := ?_) #[true, true, false, true, false, false, true, false, false, false, false, false, false, false, false] rfl rfl (any_of HT_.out (by kernel_rfl)) (fun _ _ _ h => h) (Or.inl ⟨by rfl, ?_⟩) ?_ ?_
           rotate_left
           ·intro w'
            go_simp
            with_reducible rfl
           rotate_left
           ·simp only [Act.put, List.setIfInBounds_toArray, List.set_cons_zero, List.set_cons_succ, i64_w, i32_w]
            rfl
           refine pure_ (i := 7) (N := some 18) (v := ?_) (a' := ?_) #[true, true, false, true, false, false, true, true, false, false, false, false, false, false, false] rfl rfl (any_of HT_.out (by kernel_rfl)) (fun _ _ _ h => h) (Or.inl ⟨by rfl, ?_⟩) ?_ ?_
           rotate_left
           ·intro w'
            go_simp
            with_reducible rfl
           rotate_left
           ·simp only [Act.put, List.setIfInBounds_toArray, List.set_cons_zero, List.set_cons_succ, i64_w, i32_w]
            rfl
           refine pure_ (i := 9) (N := some 20) (v := ?_) (a' := ?_) #[true, true, false, true, false, false, true, true, false, true, false, false, false, false, false] rfl rfl (any_of HT_.out (by kernel_rfl)) (fun _ _ _ h => h) (Or.inl ⟨by rfl, ?_⟩) ?_ ?_
           rotate_left
           ·intro w'
            go_simp
            with_reducible rfl
           rotate_left
           ·simp only [Act.put, List.setIfInBounds_toArray, List.set_cons_zero, List.set_cons_succ, i64_w, i32_w]
            rfl
           refine pure_ (i := 10) (N := some 21) (v := ?_) (a' := ?_) #[true, true, false, true, false, false, true, true, false, true, true, false, false, false, false] rfl rfl (any_of HT_.out (by kernel_rfl)) (fun _ _ _ h => h) (Or.inl ⟨by rfl, ?_⟩) ?_ ?_
           rotate_left
           ·intro w'
            go_simp
            with_reducible rfl
           rotate_left
           ·simp only [Act.put, List.setIfInBounds_toArray, List.set_cons_zero, List.set_cons_succ, i64_w, i32_w]
            rfl
           refine take_ (i := 4) (N := some 15) (v := ?_) (a' := ?_) #[true, true, false, true, true, false, true, true, false, true, true, false, false, false, false] rfl rfl (take_ofW HT_.out HW_.out (by kernel_rfl)) (fun _ _ _ h => h) (Or.inl ⟨by rfl, ?_⟩) hHeld ?_ ?_
           rotate_left
           ·intro w' _
            go_simp
            with_reducible rfl
           rotate_left
           ·simp only [Act.put, List.setIfInBounds_toArray, List.set_cons_zero, List.set_cons_succ, i64_w, i32_w]
            rfl
           refine pure_ (i := 5) (N := some 16) (v := ?_) (a' := ?_) #[true, true, false, true, true, true, true, true, false, true, true, false, false, false, false] rfl rfl (any_of HT_.out (by kernel_rfl)) (fun _ _ _ h => h) (Or.inl ⟨by rfl, ?_⟩) ?_ ?_
           rotate_left
           ·intro w'
            go_simp
            with_reducible rfl
           rotate_left
           ·simp only [Act.put, List.setIfInBounds_toArray, List.set_cons_zero, List.set_cons_succ, i64_w, i32_w]
            rfl
           refine join_ (σ := Nat) 1 #[true, true, true, true, true, true, true, true, true, true, true, true, true, true, false] (fun s_ => [(13, .int .i64 t354), (19, .int .i64 t355), (22, .int .i64 t356), (4, .pointer (some ⟨s_, 0, none⟩)), (23, .agg #[.int .i64 t354, .int .i64 (wrap64 (bt a0 4)), .int .i64 t355, .int .i64 t356])]) (fun s_ w' => (w'.heap[gb353]? = some (.cells #[.int .i64 0, .int .i64 0, .int .i64 0, .int .i64 0] 25 (0, 0))) ∧ (w'.heap[s_]? = some (.cells #[.int .i64 0, .int .i64 0, .int .i64 0, .int .i64 0] 25 (0, 0))) ∧ (w.heap.size ≤ s_) ∧ (w.heap.size ≤ s_) ∧ (gb353 ≠ s_) ∧ (s_ ≠ gb353) ∧ (Below w.heap.size w w')) ?_ ?_
           rotate_left
           ·intro hCont
            refine two_ (i := 2) (j := 13) (Ni := some 13) (Nj := some 4) #[true, true, true, true, true, true, true, true, false, true, true, false, false, false, false] #[true, true, false, true, true, true, true, true, false, true, true, false, false, true, false] rfl rfl rfl rfl (two_of HT_.out (by kernel_rfl)) (by decide) (by decide) (fun K hK => ?_) (fun K hK => ?_)
            ·skip
             refine goes_ Try.func88 (by kernel_rfl) rfl #[.string (a0.extract 0 4)] (by rfl) rfl rfl q1_ ?_
             with_reducible refine (skiffref1_Of.calls k (a0.extract 0 4) t354 _ A5.out).mono ?_
             rintro e w' ⟨rfl, ⟨nd, rfl⟩⟩
             refine ⟨_, rfl, ?_⟩
             refine hK.out _ _ trivial (fun hHeld => ?_)
             clear hK K
             refine norm_ (a' := ?_) ?_ ?_
             rotate_left
             ·show Act.put _ (some 13) _ = _
              simp only [Act.put, List.setIfInBounds_toArray, List.set_cons_zero, List.set_cons_succ, i64_w, i32_w]
              rfl
             refine two_ (i := 8) (j := 13) (Ni := some 19) (Nj := some 4) #[true, true, true, true, true, true, true, true, true, true, true, false, false, false, false] #[true, true, true, true, true, true, true, true, false, true, true, false, false, true, false] rfl rfl rfl rfl (two_of HT_.out (by kernel_rfl)) (by decide) (by decide) (fun K hK => ?_) (fun K hK => ?_)
             ·skip
              refine goes_ Try.func88 (by kernel_rfl) rfl #[.string (a0.extract 6 8)] (by rfl) rfl rfl q1_ ?_
              with_reducible refine (skiffref1_Of.calls k (a0.extract 6 8) t355 _ A10.out).mono ?_
              rintro e w' ⟨rfl, ⟨nd, rfl⟩⟩
              refine ⟨_, rfl, ?_⟩
              refine hK.out _ _ trivial (fun hHeld => ?_)
              clear hK K
              refine norm_ (a' := ?_) ?_ ?_
              rotate_left
              ·show Act.put _ (some 19) _ = _
               simp only [Act.put, List.setIfInBounds_toArray, List.set_cons_zero, List.set_cons_succ, i64_w, i32_w]
               rfl
              refine two_ (i := 11) (j := 13) (Ni := some 22) (Nj := some 4) #[true, true, true, true, true, true, true, true, true, true, true, true, false, false, false] #[true, true, true, true, true, true, true, true, true, true, true, false, false, true, false] rfl rfl rfl rfl (two_of HT_.out (by kernel_rfl)) (by decide) (by decide) (fun K hK => ?_) (fun K hK => ?_)
              ·skip
               refine goes_ Try.func88 (by kernel_rfl) rfl #[.string (a0.extract 8 12)] (by rfl) rfl rfl q1_ ?_
               with_reducible refine (skiffref1_Of.calls k (a0.extract 8 12) t356 _ A13.out).mono ?_
               rintro e w' ⟨rfl, ⟨nd, rfl⟩⟩
               refine ⟨_, rfl, ?_⟩
               refine hK.out _ _ trivial (fun hHeld => ?_)
               clear hK K
               refine norm_ (a' := ?_) ?_ ?_
               rotate_left
               ·show Act.put _ (some 22) _ = _
                simp only [Act.put, List.setIfInBounds_toArray, List.set_cons_zero, List.set_cons_succ, i64_w, i32_w]
                rfl
               refine pure_ (i := 12) (N := some 23) (v := ?_) (a' := ?_) #[true, true, true, true, true, true, true, true, true, true, true, true, true, false, false] rfl rfl (any_of HT_.out (by kernel_rfl)) (fun _ _ _ h => h) (Or.inl ⟨by rfl, ?_⟩) ?_ ?_
               rotate_left
               ·intro w'
                go_simp
                with_reducible rfl
               rotate_left
               ·simp only [Act.put, List.setIfInBounds_toArray, List.set_cons_zero, List.set_cons_succ, i64_w, i32_w]
                rfl
               refine one_ (i := 13) (N := some 4) #[true, true, true, true, true, true, true, true, true, true, true, true, true, true, false] rfl rfl (one_of HT_.out (by kernel_rfl)) (by decide) (fun K hK => ?_)
               refine box_step ?hg (N := 4) ?hd (cs := #[.int .i64 0, .int .i64 0, .int .i64 0, .int .i64 0]) (t := 25) ?hr ?_; (case hd => rfl); (case hg => rfl); (case hr => first | (go_simp; done) | (go_simp; rfl))
               intro gb357 hg w32 hbox hb
               have n0_ := Aside0.mk (blk_below (g := gb353) (o := .cells #[.int .i64 0, .int .i64 0, .int .i64 0, .int .i64 0] 25 (0, 0)) (by (with_reducible repeat (first | refine blk_drewN ?_ _ | refine blk_drew ?_ | refine blk_alloc ?_ _)); exact BK353.out) hb)
               have n1_ := Aside0.mk (below_step (by repeat (first | (with_reducible first | exact HB.out | apply below_alloc | apply pw_below_drewN | apply below_drew1 | refine below_set ?_ GE353.out) | exact HB.out)) hb)
               have n2_ := Aside0.mk (hbox)
               have n3_ := Aside0.mk ((by rw [hg]; exact (below_size (by repeat (first | (with_reducible first | exact HB.out | apply below_alloc | apply pw_below_drewN | apply below_drew1 | refine below_set ?_ GE353.out) | exact HB.out))) : w.heap.size ≤ gb357))
               have n4_ := Aside0.mk ((by rw [hg]; exact (below_size (by repeat (first | (with_reducible first | exact HB.out | apply below_alloc | apply pw_below_drewN | apply below_drew1 | refine below_set ?_ GE353.out) | exact HB.out))) : w.heap.size ≤ gb357))
               have n5_ := Aside0.mk ((by rw [hg]; exact Nat.ne_of_lt (blk_lt (g := gb353) (o := .cells #[.int .i64 0, .int .i64 0, .int .i64 0, .int .i64 0] 25 (0, 0)) (by (with_reducible repeat (first | refine blk_drewN ?_ _ | refine blk_drew ?_ | refine blk_alloc ?_ _)); exact BK353.out)) : gb353 ≠ gb357))
               have n6_ := Aside0.mk ((by rw [hg]; exact Nat.ne_of_gt (blk_lt (g := gb353) (o := .cells #[.int .i64 0, .int .i64 0, .int .i64 0, .int .i64 0] 25 (0, 0)) (by (with_reducible repeat (first | refine blk_drewN ?_ _ | refine blk_drew ?_ | refine blk_alloc ?_ _)); exact BK353.out)) : gb357 ≠ gb353))
               clear BK353
               clear HB
               have BK353 := n0_
               have HB := n1_
               have BK357 := n2_
               have GW357 := n3_
               have GE357 := n4_
               have NB353_357 := n5_
               have NB357_353 := n6_
               clear n0_ n1_ n2_ n3_ n4_ n5_ n6_
               clear hb hbox hg
               refine hK.out _ _ trivial (fun hHeld => ?_)
               clear hK K
               refine norm_ (a' := ?_) ?_ ?_
               rotate_left
               ·show Act.put _ (some 4) _ = _
                simp only [Act.put, List.setIfInBounds_toArray, List.set_cons_zero, List.set_cons_succ, i64_w, i32_w]
                rfl
               exact norm_ (by simp only [putAll, Act.put, List.setIfInBounds_toArray, List.set_cons_zero, List.set_cons_succ]) (hCont (gb357) _ ⟨(by (with_reducible repeat (first | refine blk_drewN ?_ _ | refine blk_drew ?_ | refine blk_alloc ?_ _)); exact BK353.out), (by (with_reducible repeat (first | refine blk_drewN ?_ _ | refine blk_drew ?_ | refine blk_alloc ?_ _)); exact BK357.out), GW357.out, GE357.out, NB353_357.out, NB357_353.out, (by repeat (first | (with_reducible first | exact HB.out | apply below_alloc | apply pw_below_drewN | apply below_drew1 | refine below_set ?_ GE353.out | refine below_set ?_ GE357.out) | exact HB.out))⟩)
              ·skip
               refine box_step ?hg (N := 4) ?hd (cs := #[.int .i64 0, .int .i64 0, .int .i64 0, .int .i64 0]) (t := 25) ?hr ?_; (case hd => rfl); (case hg => rfl); (case hr => first | (go_simp; done) | (go_simp; rfl))
               intro gb357 hg w32 hbox hb
               have n0_ := Aside0.mk (blk_below (g := gb353) (o := .cells #[.int .i64 0, .int .i64 0, .int .i64 0, .int .i64 0] 25 (0, 0)) (by (with_reducible repeat (first | refine blk_drewN ?_ _ | refine blk_drew ?_ | refine blk_alloc ?_ _)); exact BK353.out) hb)
               have n1_ := Aside0.mk (below_step (by repeat (first | (with_reducible first | exact HB.out | apply below_alloc | apply pw_below_drewN | apply below_drew1 | refine below_set ?_ GE353.out) | exact HB.out)) hb)
               have n2_ := Aside0.mk (hbox)
               have n3_ := Aside0.mk ((by rw [hg]; exact (below_size (by repeat (first | (with_reducible first | exact HB.out | apply below_alloc | apply pw_below_drewN | apply below_drew1 | refine below_set ?_ GE353.out) | exact HB.out))) : w.heap.size ≤ gb357))
               have n4_ := Aside0.mk ((by rw [hg]; exact (below_size (by repeat (first | (with_reducible first | exact HB.out | apply below_alloc | apply pw_below_drewN | apply below_drew1 | refine below_set ?_ GE353.out) | exact HB.out))) : w.heap.size ≤ gb357))
               have n5_ := Aside0.mk ((by rw [hg]; exact Nat.ne_of_lt (blk_lt (g := gb353) (o := .cells #[.int .i64 0, .int .i64 0, .int .i64 0, .int .i64 0] 25 (0, 0)) (by (with_reducible repeat (first | refine blk_drewN ?_ _ | refine blk_drew ?_ | refine blk_alloc ?_ _)); exact BK353.out)) : gb353 ≠ gb357))
               have n6_ := Aside0.mk ((by rw [hg]; exact Nat.ne_of_gt (blk_lt (g := gb353) (o := .cells #[.int .i64 0, .int .i64 0, .int .i64 0, .int .i64 0] 25 (0, 0)) (by (with_reducible repeat (first | refine blk_drewN ?_ _ | refine blk_drew ?_ | refine blk_alloc ?_ _)); exact BK353.out)) : gb357 ≠ gb353))
               clear BK353
               clear HB
               have BK353 := n0_
               have HB := n1_
               have BK357 := n2_
               have GW357 := n3_
               have GE357 := n4_
               have NB353_357 := n5_
               have NB357_353 := n6_
               clear n0_ n1_ n2_ n3_ n4_ n5_ n6_
               clear hb hbox hg
               refine hK.out _ _ trivial (fun hHeld => ?_)
               clear hK K
               refine norm_ (a' := ?_) ?_ ?_
               rotate_left
               ·show Act.put _ (some 4) _ = _
                simp only [Act.put, List.setIfInBounds_toArray, List.set_cons_zero, List.set_cons_succ, i64_w, i32_w]
                rfl
               refine one_ (i := 11) (N := some 22) #[true, true, true, true, true, true, true, true, true, true, true, true, false, true, false] rfl rfl (one_of HT_.out (by kernel_rfl)) (by decide) (fun K hK => ?_)
               refine goes_ Try.func88 (by kernel_rfl) rfl #[.string (a0.extract 8 12)] (by rfl) rfl rfl q1_ ?_
               with_reducible refine (skiffref1_Of.calls k (a0.extract 8 12) t356 _ A13.out).mono ?_
               rintro e w' ⟨rfl, ⟨nd, rfl⟩⟩
               refine ⟨_, rfl, ?_⟩
               refine hK.out _ _ trivial (fun hHeld => ?_)
               clear hK K
               refine norm_ (a' := ?_) ?_ ?_
               rotate_left
               ·show Act.put _ (some 22) _ = _
                simp only [Act.put, List.setIfInBounds_toArray, List.set_cons_zero, List.set_cons_succ, i64_w, i32_w]
                rfl
               refine pure_ (i := 12) (N := some 23) (v := ?_) (a' := ?_) #[true, true, true, true, true, true, true, true, true, true, true, true, true, true, false] rfl rfl (any_of HT_.out (by kernel_rfl)) (fun _ _ _ h => h) (Or.inl ⟨by rfl, ?_⟩) ?_ ?_
               rotate_left
               ·intro w'
                go_simp
                with_reducible rfl
               rotate_left
               ·simp only [Act.put, List.setIfInBounds_toArray, List.set_cons_zero, List.set_cons_succ, i64_w, i32_w]
                rfl
               exact norm_ (by simp only [putAll, Act.put, List.setIfInBounds_toArray, List.set_cons_zero, List.set_cons_succ]) (hCont (gb357) _ ⟨(by (with_reducible repeat (first | refine blk_drewN ?_ _ | refine blk_drew ?_ | refine blk_alloc ?_ _)); exact BK353.out), (by (with_reducible repeat (first | refine blk_drewN ?_ _ | refine blk_drew ?_ | refine blk_alloc ?_ _)); exact BK357.out), GW357.out, GE357.out, NB353_357.out, NB357_353.out, (by repeat (first | (with_reducible first | exact HB.out | apply below_alloc | apply pw_below_drewN | apply below_drew1 | refine below_set ?_ GE353.out | refine below_set ?_ GE357.out) | exact HB.out))⟩)
             ·skip
              refine box_step ?hg (N := 4) ?hd (cs := #[.int .i64 0, .int .i64 0, .int .i64 0, .int .i64 0]) (t := 25) ?hr ?_; (case hd => rfl); (case hg => rfl); (case hr => first | (go_simp; done) | (go_simp; rfl))
              intro gb357 hg w32 hbox hb
              have n0_ := Aside0.mk (blk_below (g := gb353) (o := .cells #[.int .i64 0, .int .i64 0, .int .i64 0, .int .i64 0] 25 (0, 0)) (by (with_reducible repeat (first | refine blk_drewN ?_ _ | refine blk_drew ?_ | refine blk_alloc ?_ _)); exact BK353.out) hb)
              have n1_ := Aside0.mk (below_step (by repeat (first | (with_reducible first | exact HB.out | apply below_alloc | apply pw_below_drewN | apply below_drew1 | refine below_set ?_ GE353.out) | exact HB.out)) hb)
              have n2_ := Aside0.mk (hbox)
              have n3_ := Aside0.mk ((by rw [hg]; exact (below_size (by repeat (first | (with_reducible first | exact HB.out | apply below_alloc | apply pw_below_drewN | apply below_drew1 | refine below_set ?_ GE353.out) | exact HB.out))) : w.heap.size ≤ gb357))
              have n4_ := Aside0.mk ((by rw [hg]; exact (below_size (by repeat (first | (with_reducible first | exact HB.out | apply below_alloc | apply pw_below_drewN | apply below_drew1 | refine below_set ?_ GE353.out) | exact HB.out))) : w.heap.size ≤ gb357))
              have n5_ := Aside0.mk ((by rw [hg]; exact Nat.ne_of_lt (blk_lt (g := gb353) (o := .cells #[.int .i64 0, .int .i64 0, .int .i64 0, .int .i64 0] 25 (0, 0)) (by (with_reducible repeat (first | refine blk_drewN ?_ _ | refine blk_drew ?_ | refine blk_alloc ?_ _)); exact BK353.out)) : gb353 ≠ gb357))
              have n6_ := Aside0.mk ((by rw [hg]; exact Nat.ne_of_gt (blk_lt (g := gb353) (o := .cells #[.int .i64 0, .int .i64 0, .int .i64 0, .int .i64 0] 25 (0, 0)) (by (with_reducible repeat (first | refine blk_drewN ?_ _ | refine blk_drew ?_ | refine blk_alloc ?_ _)); exact BK353.out)) : gb357 ≠ gb353))
              clear BK353
              clear HB
              have BK353 := n0_
              have HB := n1_
              have BK357 := n2_
              have GW357 := n3_
              have GE357 := n4_
              have NB353_357 := n5_
              have NB357_353 := n6_
              clear n0_ n1_ n2_ n3_ n4_ n5_ n6_
              clear hb hbox hg
              refine hK.out _ _ trivial (fun hHeld => ?_)
              clear hK K
              refine norm_ (a' := ?_) ?_ ?_
              rotate_left
              ·show Act.put _ (some 4) _ = _
               simp only [Act.put, List.setIfInBounds_toArray, List.set_cons_zero, List.set_cons_succ, i64_w, i32_w]
               rfl
              refine one_ (i := 8) (N := some 19) #[true, true, true, true, true, true, true, true, true, true, true, false, false, true, false] rfl rfl (one_of HT_.out (by kernel_rfl)) (by decide) (fun K hK => ?_)
              refine goes_ Try.func88 (by kernel_rfl) rfl #[.string (a0.extract 6 8)] (by rfl) rfl rfl q1_ ?_
              with_reducible refine (skiffref1_Of.calls k (a0.extract 6 8) t355 _ A10.out).mono ?_
              rintro e w' ⟨rfl, ⟨nd, rfl⟩⟩
              refine ⟨_, rfl, ?_⟩
              refine hK.out _ _ trivial (fun hHeld => ?_)
              clear hK K
              refine norm_ (a' := ?_) ?_ ?_
              rotate_left
              ·show Act.put _ (some 19) _ = _
               simp only [Act.put, List.setIfInBounds_toArray, List.set_cons_zero, List.set_cons_succ, i64_w, i32_w]
               rfl
              refine one_ (i := 11) (N := some 22) #[true, true, true, true, true, true, true, true, true, true, true, true, false, true, false] rfl rfl (one_of HT_.out (by kernel_rfl)) (by decide) (fun K hK => ?_)
              refine goes_ Try.func88 (by kernel_rfl) rfl #[.string (a0.extract 8 12)] (by rfl) rfl rfl q1_ ?_
              with_reducible refine (skiffref1_Of.calls k (a0.extract 8 12) t356 _ A13.out).mono ?_
              rintro e w' ⟨rfl, ⟨nd, rfl⟩⟩
              refine ⟨_, rfl, ?_⟩
              refine hK.out _ _ trivial (fun hHeld => ?_)
              clear hK K
              refine norm_ (a' := ?_) ?_ ?_
              rotate_left
              ·show Act.put _ (some 22) _ = _
               simp only [Act.put, List.setIfInBounds_toArray, List.set_cons_zero, List.set_cons_succ, i64_w, i32_w]
               rfl
              refine pure_ (i := 12) (N := some 23) (v := ?_) (a' := ?_) #[true, true, true, true, true, true, true, true, true, true, true, true, true, true, false] rfl rfl (any_of HT_.out (by kernel_rfl)) (fun _ _ _ h => h) (Or.inl ⟨by rfl, ?_⟩) ?_ ?_
              rotate_left
              ·intro w'
               go_simp
               with_reducible rfl
              rotate_left
              ·simp only [Act.put, List.setIfInBounds_toArray, List.set_cons_zero, List.set_cons_succ, i64_w, i32_w]
               rfl
              exact norm_ (by simp only [putAll, Act.put, List.setIfInBounds_toArray, List.set_cons_zero, List.set_cons_succ]) (hCont (gb357) _ ⟨(by (with_reducible repeat (first | refine blk_drewN ?_ _ | refine blk_drew ?_ | refine blk_alloc ?_ _)); exact BK353.out), (by (with_reducible repeat (first | refine blk_drewN ?_ _ | refine blk_drew ?_ | refine blk_alloc ?_ _)); exact BK357.out), GW357.out, GE357.out, NB353_357.out, NB357_353.out, (by repeat (first | (with_reducible first | exact HB.out | apply below_alloc | apply pw_below_drewN | apply below_drew1 | refine below_set ?_ GE353.out | refine below_set ?_ GE357.out) | exact HB.out))⟩)
            ·skip
             refine box_step ?hg (N := 4) ?hd (cs := #[.int .i64 0, .int .i64 0, .int .i64 0, .int .i64 0]) (t := 25) ?hr ?_; (case hd => rfl); (case hg => rfl); (case hr => first | (go_simp; done) | (go_simp; rfl))
             intro gb357 hg w32 hbox hb
             have n0_ := Aside0.mk (blk_below (g := gb353) (o := .cells #[.int .i64 0, .int .i64 0, .int .i64 0, .int .i64 0] 25 (0, 0)) (by (with_reducible repeat (first | refine blk_drewN ?_ _ | refine blk_drew ?_ | refine blk_alloc ?_ _)); exact BK353.out) hb)
             have n1_ := Aside0.mk (below_step (by repeat (first | (with_reducible first | exact HB.out | apply below_alloc | apply pw_below_drewN | apply below_drew1 | refine below_set ?_ GE353.out) | exact HB.out)) hb)
             have n2_ := Aside0.mk (hbox)
             have n3_ := Aside0.mk ((by rw [hg]; exact (below_size (by repeat (first | (with_reducible first | exact HB.out | apply below_alloc | apply pw_below_drewN | apply below_drew1 | refine below_set ?_ GE353.out) | exact HB.out))) : w.heap.size ≤ gb357))
             have n4_ := Aside0.mk ((by rw [hg]; exact (below_size (by repeat (first | (with_reducible first | exact HB.out | apply below_alloc | apply pw_below_drewN | apply below_drew1 | refine below_set ?_ GE353.out) | exact HB.out))) : w.heap.size ≤ gb357))
             have n5_ := Aside0.mk ((by rw [hg]; exact Nat.ne_of_lt (blk_lt (g := gb353) (o := .cells #[.int .i64 0, .int .i64 0, .int .i64 0, .int .i64 0] 25 (0, 0)) (by (with_reducible repeat (first | refine blk_drewN ?_ _ | refine blk_drew ?_ | refine blk_alloc ?_ _)); exact BK353.out)) : gb353 ≠ gb357))
             have n6_ := Aside0.mk ((by rw [hg]; exact Nat.ne_of_gt (blk_lt (g := gb353) (o := .cells #[.int .i64 0, .int .i64 0, .int .i64 0, .int .i64 0] 25 (0, 0)) (by (with_reducible repeat (first | refine blk_drewN ?_ _ | refine blk_drew ?_ | refine blk_alloc ?_ _)); exact BK353.out)) : gb357 ≠ gb353))
             clear BK353
             clear HB
             have BK353 := n0_
             have HB := n1_
             have BK357 := n2_
             have GW357 := n3_
             have GE357 := n4_
             have NB353_357 := n5_
             have NB357_353 := n6_
             clear n0_ n1_ n2_ n3_ n4_ n5_ n6_
             clear hb hbox hg
             refine hK.out _ _ trivial (fun hHeld => ?_)
             clear hK K
             refine norm_ (a' := ?_) ?_ ?_
             rotate_left
             ·show Act.put _ (some 4) _ = _
              simp only [Act.put, List.setIfInBounds_toArray, List.set_cons_zero, List.set_cons_succ, i64_w, i32_w]
              rfl
             refine one_ (i := 2) (N := some 13) #[true, true, true, true, true, true, true, true, false, true, true, false, false, true, false] rfl rfl (one_of HT_.out (by kernel_rfl)) (by decide) (fun K hK => ?_)
             refine goes_ Try.func88 (by kernel_rfl) rfl #[.string (a0.extract 0 4)] (by rfl) rfl rfl q1_ ?_
             with_reducible refine (skiffref1_Of.calls k (a0.extract 0 4) t354 _ A5.out).mono ?_
             rintro e w' ⟨rfl, ⟨nd, rfl⟩⟩
             refine ⟨_, rfl, ?_⟩
             refine hK.out _ _ trivial (fun hHeld => ?_)
             clear hK K
             refine norm_ (a' := ?_) ?_ ?_
             rotate_left
             ·show Act.put _ (some 13) _ = _
              simp only [Act.put, List.setIfInBounds_toArray, List.set_cons_zero, List.set_cons_succ, i64_w, i32_w]
              rfl
             refine one_ (i := 8) (N := some 19) #[true, true, true, true, true, true, true, true, true, true, true, false, false, true, false] rfl rfl (one_of HT_.out (by kernel_rfl)) (by decide) (fun K hK => ?_)
             refine goes_ Try.func88 (by kernel_rfl) rfl #[.string (a0.extract 6 8)] (by rfl) rfl rfl q1_ ?_
             with_reducible refine (skiffref1_Of.calls k (a0.extract 6 8) t355 _ A10.out).mono ?_
             rintro e w' ⟨rfl, ⟨nd, rfl⟩⟩
             refine ⟨_, rfl, ?_⟩
             refine hK.out _ _ trivial (fun hHeld => ?_)
             clear hK K
             refine norm_ (a' := ?_) ?_ ?_
             rotate_left
             ·show Act.put _ (some 19) _ = _
              simp only [Act.put, List.setIfInBounds_toArray, List.set_cons_zero, List.set_cons_succ, i64_w, i32_w]
              rfl
             refine one_ (i := 11) (N := some 22) #[true, true, true, true, true, true, true, true, true, true, true, true, false, true, false] rfl rfl (one_of HT_.out (by kernel_rfl)) (by decide) (fun K hK => ?_)
             refine goes_ Try.func88 (by kernel_rfl) rfl #[.string (a0.extract 8 12)] (by rfl) rfl rfl q1_ ?_
             with_reducible refine (skiffref1_Of.calls k (a0.extract 8 12) t356 _ A13.out).mono ?_
             rintro e w' ⟨rfl, ⟨nd, rfl⟩⟩
             refine ⟨_, rfl, ?_⟩
             refine hK.out _ _ trivial (fun hHeld => ?_)
             clear hK K
             refine norm_ (a' := ?_) ?_ ?_
             rotate_left
             ·show Act.put _ (some 22) _ = _
              simp only [Act.put, List.setIfInBounds_toArray, List.set_cons_zero, List.set_cons_succ, i64_w, i32_w]
              rfl
             refine pure_ (i := 12) (N := some 23) (v := ?_) (a' := ?_) #[true, true, true, true, true, true, true, true, true, true, true, true, true, true, false] rfl rfl (any_of HT_.out (by kernel_rfl)) (fun _ _ _ h => h) (Or.inl ⟨by rfl, ?_⟩) ?_ ?_
             rotate_left
             ·intro w'
              go_simp
              with_reducible rfl
             rotate_left
             ·simp only [Act.put, List.setIfInBounds_toArray, List.set_cons_zero, List.set_cons_succ, i64_w, i32_w]
              rfl
             exact norm_ (by simp only [putAll, Act.put, List.setIfInBounds_toArray, List.set_cons_zero, List.set_cons_succ]) (hCont (gb357) _ ⟨(by (with_reducible repeat (first | refine blk_drewN ?_ _ | refine blk_drew ?_ | refine blk_alloc ?_ _)); exact BK353.out), (by (with_reducible repeat (first | refine blk_drewN ?_ _ | refine blk_drew ?_ | refine blk_alloc ?_ _)); exact BK357.out), GW357.out, GE357.out, NB353_357.out, NB357_353.out, (by repeat (first | (with_reducible first | exact HB.out | apply below_alloc | apply pw_below_drewN | apply below_drew1 | refine below_set ?_ GE353.out | refine below_set ?_ GE357.out) | exact HB.out))⟩)
           rintro gb357 w33 ⟨h0_, h1_, h2_, h3_, h4_, h5_, h6_⟩
           have n0_ : Aside0 (w33.heap[gb353]? = some (.cells #[.int .i64 0, .int .i64 0, .int .i64 0, .int .i64 0] 25 (0, 0))) := ⟨h0_⟩
           have n1_ : Aside0 (w33.heap[gb357]? = some (.cells #[.int .i64 0, .int .i64 0, .int .i64 0, .int .i64 0] 25 (0, 0))) := ⟨h1_⟩
           have n2_ : Aside0 (w.heap.size ≤ gb357) := ⟨h2_⟩
           have n3_ : Aside0 (w.heap.size ≤ gb357) := ⟨h3_⟩
           have n4_ : Aside0 (gb353 ≠ gb357) := ⟨h4_⟩
           have n5_ : Aside0 (gb357 ≠ gb353) := ⟨h5_⟩
           have n6_ : Aside0 (Below w.heap.size w w33) := ⟨h6_⟩
           clear BK353
           clear HB
           clear h0_ h1_ h2_ h3_ h4_ h5_ h6_
           have BK353 := n0_
           have BK357 := n1_
           have GW357 := n2_
           have GE357 := n3_
           have NB353_357 := n4_
           have NB357_353 := n5_
           have HB := n6_
           clear n0_ n1_ n2_ n3_ n4_ n5_ n6_
           have hHeld := trivial
           refine norm_ (a' := ?_) ?_ ?_
           rotate_left
           ·simp only [putAll, Act.put, List.setIfInBounds_toArray, List.set_cons_zero, List.set_cons_succ]
            rfl
           refine one_ (i := 14) (N := none) #[true, true, true, true, true, true, true, true, true, true, true, true, true, true, true] rfl rfl (one_of HT_.out (by kernel_rfl)) (by decide) (fun K hK => ?_)
           have hs34 : w33.cell? ⟨gb357, 0, none⟩ = some (.int .i64 0) := (blk_cell BK357.out 0).trans rfl
           have hfs34 := blk_frozen BK357.out 0
           have hns34_0 := NB353_357.out
           have hms34_0 := NB357_353.out
           have hs35 : w33.cell? ⟨gb357, 1, none⟩ = some (.int .i64 0) := (blk_cell BK357.out 1).trans rfl
           have hfs35 := blk_frozen BK357.out 1
           have hns35_0 := NB353_357.out
           have hms35_0 := NB357_353.out
           have hs36 : w33.cell? ⟨gb357, 2, none⟩ = some (.int .i64 0) := (blk_cell BK357.out 2).trans rfl
           have hfs36 := blk_frozen BK357.out 2
           have hns36_0 := NB353_357.out
           have hms36_0 := NB357_353.out
           have hs37 : w33.cell? ⟨gb357, 3, none⟩ = some (.int .i64 0) := (blk_cell BK357.out 3).trans rfl
           have hfs37 := blk_frozen BK357.out 3
           have hns37_0 := NB353_357.out
           have hms37_0 := NB357_353.out
           refine skip_ (w1 := ?_) (by rfl) rfl ?_ ?_
           rotate_left
           ·go_simp
            rfl
           refine hK.out _ _ trivial (fun hHeld => ?_)
           clear hK K
           refine done_ (done_of HT_.out (by kernel_rfl)) ?_
           have hnb38 := NB357_353.out
           have hnc38 := NB353_357.out
           have hcz39_0 : w33.cell? ⟨gb357, 0, none⟩ = some (.int .i64 0) := (blk_cell BK357.out 0).trans rfl
           have hcz39_1 : w33.cell? ⟨gb357, 1, none⟩ = some (.int .i64 0) := (blk_cell BK357.out 1).trans rfl
           have hcz39_2 : w33.cell? ⟨gb357, 2, none⟩ = some (.int .i64 0) := (blk_cell BK357.out 2).trans rfl
           have hcz39_3 : w33.cell? ⟨gb357, 3, none⟩ = some (.int .i64 0) := (blk_cell BK357.out 3).trans rfl
           have hfz39_0 := blk_frozen BK357.out 0
           have hfz39_1 := blk_frozen BK357.out 1
           have hfz39_2 := blk_frozen BK357.out 2
           have hfz39_3 := blk_frozen BK357.out 3
           try go_wp2_with (first | ((with_reducible refine gate_callee (f := 29) rfl ?_); refine goesL_ (some 26) rfl rfl Try.func29 (by kernel_rfl) rfl #[.agg #[.int .i64 t354, .int .i64 (wrap64 (bt a0 4)), .int .i64 t355, .int .i64 t356]] rfl q1_ ?_; (with_reducible refine (Hand.skiffref1_PutEntry.calls k t354 (wrap64 (bt a0 4)) t355 t356 t358 t359 _ A14.out).mono ?_); rintro e w40 ⟨rfl, hb⟩; refine ⟨_, rfl, ?_⟩; have n0_ := Aside0.mk (blk_below (g := gb353) (o := .cells #[.int .i64 0, .int .i64 0, .int .i64 0, .int .i64 0] 25 (0, 0)) (by (with_reducible repeat (first | refine blk_drewN ?_ _ | refine blk_drew ?_ | refine blk_alloc ?_ _)); refine blk_far ?_ NB353_357.out _; (with_reducible repeat (first | refine blk_drewN ?_ _ | refine blk_drew ?_ | refine blk_alloc ?_ _)); refine blk_far ?_ NB353_357.out _; (with_reducible repeat (first | refine blk_drewN ?_ _ | refine blk_drew ?_ | refine blk_alloc ?_ _)); refine blk_far ?_ NB353_357.out _; (with_reducible repeat (first | refine blk_drewN ?_ _ | refine blk_drew ?_ | refine blk_alloc ?_ _)); refine blk_far ?_ NB353_357.out _; (with_reducible repeat (first | refine blk_drewN ?_ _ | refine blk_drew ?_ | refine blk_alloc ?_ _)); exact BK353.out) hb); have n1_ := Aside0.mk (blk_below (g := gb357) (o := .cells #[.int .i64 t354, .int .i64 (wrap64 (bt a0 4)), .int .i64 t355, .int .i64 t356] 25 (0, 0)) (by (with_reducible repeat (first | refine blk_drewN ?_ _ | refine blk_drew ?_ | refine blk_alloc ?_ _)); refine blk_put (cs := #[.int .i64 t354, .int .i64 (wrap64 (bt a0 4)), .int .i64 t355, .int .i64 0]) ?_ 3 _ rfl; (with_reducible repeat (first | refine blk_drewN ?_ _ | refine blk_drew ?_ | refine blk_alloc ?_ _)); refine blk_put (cs := #[.int .i64 t354, .int .i64 (wrap64 (bt a0 4)), .int .i64 0, .int .i64 0]) ?_ 2 _ rfl; (with_reducible repeat (first | refine blk_drewN ?_ _ | refine blk_drew ?_ | refine blk_alloc ?_ _)); refine blk_put (cs := #[.int .i64 t354, .int .i64 0, .int .i64 0, .int .i64 0]) ?_ 1 _ rfl; (with_reducible repeat (first | refine blk_drewN ?_ _ | refine blk_drew ?_ | refine blk_alloc ?_ _)); refine blk_put (cs := #[.int .i64 0, .int .i64 0, .int .i64 0, .int .i64 0]) ?_ 0 _ rfl; (with_reducible repeat (first | refine blk_drewN ?_ _ | refine blk_drew ?_ | refine blk_alloc ?_ _)); exact BK357.out) hb); have n2_ := Aside0.mk (below_step (by repeat (first | (with_reducible first | exact HB.out | apply below_alloc | apply pw_below_drewN | apply below_drew1 | refine below_set ?_ GE353.out | refine below_set ?_ GE357.out) | exact HB.out)) hb); clear BK353; clear BK357; clear HB; have BK353 := n0_; have BK357 := n1_; have HB := n2_; clear n0_ n1_ n2_; (try clear hb); (try clear hb2); (try clear hk); (try clear hi); have hcz41_0 : w40.cell? ⟨gb353, 0, none⟩ = some (.int .i64 0) := (blk_cell BK353.out 0).trans rfl; have hcz41_1 : w40.cell? ⟨gb353, 1, none⟩ = some (.int .i64 0) := (blk_cell BK353.out 1).trans rfl; have hcz41_2 : w40.cell? ⟨gb353, 2, none⟩ = some (.int .i64 0) := (blk_cell BK353.out 2).trans rfl; have hcz41_3 : w40.cell? ⟨gb353, 3, none⟩ = some (.int .i64 0) := (blk_cell BK353.out 3).trans rfl; have hfz41_0 := blk_frozen BK353.out 0; have hfz41_1 := blk_frozen BK353.out 1; have hfz41_2 := blk_frozen BK353.out 2; have hfz41_3 := blk_frozen BK353.out 3))
           refine bodyPost_ret (results_ct rfl _ _ gb353 25 #[.int .i64 0, .int .i64 0, .int .i64 0, .int .i64 0] (0, 0) _ rfl (by (with_reducible repeat (first | refine blk_drewN ?_ _ | refine blk_drew ?_ | refine blk_alloc ?_ _)); refine blk_put (cs := #[.int .i64 0, .int .i64 0, .int .i64 0, .int .i64 0]) ?_ 3 _ rfl; (with_reducible repeat (first | refine blk_drewN ?_ _ | refine blk_drew ?_ | refine blk_alloc ?_ _)); refine blk_put (cs := #[.int .i64 0, .int .i64 0, .int .i64 0, .int .i64 0]) ?_ 2 _ rfl; (with_reducible repeat (first | refine blk_drewN ?_ _ | refine blk_drew ?_ | refine blk_alloc ?_ _)); refine blk_put (cs := #[.int .i64 0, .int .i64 0, .int .i64 0, .int .i64 0]) ?_ 1 _ rfl; (with_reducible repeat (first | refine blk_drewN ?_ _ | refine blk_drew ?_ | refine blk_alloc ?_ _)); refine blk_put (cs := #[.int .i64 0, .int .i64 0, .int .i64 0, .int .i64 0]) ?_ 0 _ rfl; (with_reducible repeat (first | refine blk_drewN ?_ _ | refine blk_drew ?_ | refine blk_alloc ?_ _)); exact BK353.out) Try.underlying25 rfl (by kernel_rfl)) rfl ?_
           exact ⟨by first | rfl | (simp [errW_none, errW_some] <;> rfl) | (simp [*, errW_none, errW_some] <;> rfl), by repeat (first | (with_reducible first | exact HB.out | apply below_alloc | apply pw_below_drewN | apply below_drew1 | refine below_set ?_ GE353.out | refine below_set ?_ GE357.out) | exact HB.out)⟩
         ·rw [if_neg c15] at H
          have c15b0 : (t359 == 0) = false := beq_eq_false_iff_ne.mpr c15
          have c15b1 : (t359 != 0) = true := bne_iff_ne.mpr c15
          simp only [Option.some.injEq, Prod.mk.injEq] at H
          obtain ⟨rfl, rfl, rfl, rfl, rfl⟩ := H
          go_enter Try.func84, Try.ntmps84
          try go_wp2_with (first | ((with_reducible refine gate_dst (N := 2) rfl ?_); refine box_event ?hg (N := 2) ?hd (cs := #[.int .i64 0, .int .i64 0, .int .i64 0, .int .i64 0]) (t := 25) ?hr ?_; (case hd => rfl); (case hg => rfl); (case hr => first | (go_simp; done) | (go_simp; rfl)); intro gb353 hg w42 hbox hb; have n0_ := Aside0.mk (below_step q2_ hb); have n1_ := Aside0.mk (hbox); have n2_ := Aside0.mk ((by rw [hg]; exact (below_size q2_) : w.heap.size ≤ gb353)); have n3_ := Aside0.mk ((by rw [hg]; exact (below_size q2_) : w.heap.size ≤ gb353)); clear HB; have HB := n0_; have BK353 := n1_; have GW353 := n2_; have GE353 := n3_; clear n0_ n1_ n2_ n3_; clear hb hbox hg))
          have n0_ := Aside0.mk (blk_drew BK353.out)
          have n1_ := Aside0.mk (below_drew1 HB.out)
          clear BK353
          clear HB
          have BK353 := n0_
          have HB := n1_
          clear n0_ n1_
          have p7 : 0 ≤ (4 : Int) := (by omega)
          have q7 : 4 < a0.size := (by have : (4 : Int) < (a0.size : Int) := of_decide_eq_true q5_; omega)
          have hx7 : ∀ h : 4 < a0.size, ((a0[4]'h).toNat : Int) = bt a0 4 := bt_at a0 4
          clear p7
          have qi7 : (4 < (a0.size : Int)) = True := eq_true (of_decide_eq_true q5_)
          replace q7 := eq_true q7
          refine start_ (n := 15) (S := fun w' => True) (ds := []) #[false, false, false, false, false, false, false, false, false, false, false, false, false, false, false] (by kernel_rfl) rfl rfl trivial (fun hHeld => ?_); refine with_tabW skiffref1_GetEntry.tab3 skiffref1_GetEntry.bits3 (fun HT_ HW_ => ?_)
          generalize w42.drew = w43 at BK353 HB hHeld ⊢
          refine pure_ (i := 0) (N := some 11) (v := ?_) (a' := ?_) #[true, false, false, false, false, false, false, false, false, false, false, false, false, false, false] rfl rfl (any_of HT_.out (by kernel_rfl)) (fun _ _ _ h => h) (Or.inl ⟨by rfl, ?_⟩) ?_ ?_
          rotate_left
          ·intro w'
           go_simp
           with_reducible rfl
          rotate_left
          ·simp only [Act.put, List.setIfInBounds_toArray, List.set_cons_zero, List.set_cons_succ, i64_w, i32_w]
           rfl
          refine pure_ (i := 1) (N := some 12) (v := ?_) (a' := ?_) #[true, true, false, false, false, false, false, false, false, false, false, false, false, false, false] rfl rfl (any_of HT_.out (by kernel_rfl)) (fun _ _ _ h => h) (Or.inl ⟨by rfl, ?_⟩) ?_ ?_
          rotate_left
          ·intro w'
           go_simp
           with_reducible rfl
          rotate_left
          ·simp only [Act.put, List.setIfInBounds_toArray, List.set_cons_zero, List.set_cons_succ, i64_w, i32_w]
           rfl
          refine pure_ (i := 3) (N := some 14) (v := ?_) (a' := ?_) #[true, true, false, true, false, false, false, false, false, false, false, false, false, false, false] rfl rfl (any_of HT_.out (by kernel_rfl)) (fun _ _ _ h => h) (Or.inl ⟨by rfl, ?_⟩) ?_ ?_
          rotate_left
          ·intro w'
           go_simp
           with_reducible rfl
          rotate_left
          ·simp only [Act.put, List.setIfInBounds_toArray, List.set_cons_zero, List.set_cons_succ, i64_w, i32_w]
           rfl
          refine pure_ (i := 6) (N := some 17) (v := ?_) (a' := ?_) #[true, true, false, true, false, false, true, false, false, false, false, false, false, false, false] rfl rfl (any_of HT_.out (by kernel_rfl)) (fun _ _ _ h => h) (Or.inl ⟨by rfl, ?_⟩) ?_ ?_
          rotate_left
          ·intro w'
           go_simp
           with_reducible rfl
          rotate_left
          ·simp only [Act.put, List.setIfInBounds_toArray, List.set_cons_zero, List.set_cons_succ, i64_w, i32_w]
           rfl
          refine pure_ (i := 7) (N := some 18) (v := ?_) (a' := ?_) #[true, true, false, true, false, false, true, true, false, false, false, false, false, false, false] rfl rfl (any_of HT_.out (by kernel_rfl)) (fun _ _ _ h => h) (Or.inl ⟨by rfl, ?_⟩) ?_ ?_
          rotate_left
          ·intro w'
           go_simp
           with_reducible rfl
          rotate_left
          ·simp only [Act.put, List.setIfInBounds_toArray, List.set_cons_zero, List.set_cons_succ, i64_w, i32_w]
           rfl
          refine pure_ (i := 9) (N := some 20) (v := ?_) (a' := ?_) #[true, true, false, true, false, false, true, true, false, true, false, false, false, false, false] rfl rfl (any_of HT_.out (by kernel_rfl)) (fun _ _ _ h => h) (Or.inl ⟨by rfl, ?_⟩) ?_ ?_
          rotate_left
          ·intro w'
           go_simp
           with_reducible rfl
          rotate_left
          ·simp only [Act.put, List.setIfInBounds_toArray, List.set_cons_zero, List.set_cons_succ, i64_w, i32_w]
           rfl
          refine pure_ (i := 10) (N := some 21) (v := ?_) (a' := ?_) #[true, true, false, true, false, false, true, true, false, true, true, false, false, false, false] rfl rfl (any_of HT_.out (by kernel_rfl)) (fun _ _ _ h => h) (Or.inl ⟨by rfl, ?_⟩) ?_ ?_
          rotate_left
          ·intro w'
           go_simp
           with_reducible rfl
          rotate_left
          ·simp only [Act.put, List.setIfInBounds_toArray, List.set_cons_zero, List.set_cons_succ, i64_w, i32_w]
           rfl
          refine take_ (i := 4) (N := some 15) (v := ?_) (a' := ?_) #[true, true, false, true, true, false, true, true, false, true, true, false, false, false, false] rfl rfl (take_ofW HT_.out HW_.out (by kernel_rfl)) (fun _ _ _ h => h) (Or.inl ⟨by rfl, ?_⟩) hHeld ?_ ?_
          rotate_left
          ·intro w' _
           go_simp
           with_reducible rfl
          rotate_left
          ·simp only [Act.put, List.setIfInBounds_toArray, List.set_cons_zero, List.set_cons_succ, i64_w, i32_w]
           rfl
          refine pure_ (i := 5) (N := some 16) (v := ?_) (a' := ?_) #[true, true, false, true, true, true, true, true, false, true, true, false, false, false, false] rfl rfl (any_of HT_.out (by kernel_rfl)) (fun _ _ _ h => h) (Or.inl ⟨by rfl, ?_⟩) ?_ ?_
          rotate_left
          ·intro w'
           go_simp
           with_reducible rfl
          rotate_left
          ·simp only [Act.put, List.setIfInBounds_toArray, List.set_cons_zero, List.set_cons_succ, i64_w, i32_w]
           rfl
          refine join_ (σ := Nat) 1 #[true, true, true, true, true, true, true, true, true, true, true, true, true, true, false] (fun s_ => [(13, .int .i64 t354), (19, .int .i64 t355), (22, .int .i64 t356), (4, .pointer (some ⟨s_, 0, none⟩)), (23, .agg #[.int .i64 t354, .int .i64 (wrap64 (bt a0 4)), .int .i64 t355, .int .i64 t356])]) (fun s_ w' => (w'.heap[gb353]? = some (.cells #[.int .i64 0, .int .i64 0, .int .i64 0, .int .i64 0] 25 (0, 0))) ∧ (w'.heap[s_]? = some (.cells #[.int .i64 0, .int .i64 0, .int .i64 0, .int .i64 0] 25 (0, 0))) ∧ (w.heap.size ≤ s_) ∧ (w.heap.size ≤ s_) ∧ (gb353 ≠ s_) ∧ (s_ ≠ gb353) ∧ (Below w.heap.size w w')) ?_ ?_
          rotate_left
          ·intro hCont
           refine two_ (i := 2) (j := 13) (Ni := some 13) (Nj := some 4) #[true, true, true, true, true, true, true, true, false, true, true, false, false, false, false] #[true, true, false, true, true, true, true, true, false, true, true, false, false, true, false] rfl rfl rfl rfl (two_of HT_.out (by kernel_rfl)) (by decide) (by decide) (fun K hK => ?_) (fun K hK => ?_)
           ·skip
            refine goes_ Try.func88 (by kernel_rfl) rfl #[.string (a0.extract 0 4)] (by rfl) rfl rfl q1_ ?_
            with_reducible refine (skiffref1_Of.calls k (a0.extract 0 4) t354 _ A5.out).mono ?_
            rintro e w' ⟨rfl, ⟨nd, rfl⟩⟩
            refine ⟨_, rfl, ?_⟩
            refine hK.out _ _ trivial (fun hHeld => ?_)
            clear hK K
            refine norm_ (a' := ?_) ?_ ?_
            rotate_left
            ·show Act.put _ (some 13) _ = _
             simp only [Act.put, List.setIfInBounds_toArray, List.set_cons_zero, List.set_cons_succ, i64_w, i32_w]
             rfl
            refine two_ (i := 8) (j := 13) (Ni := some 19) (Nj := some 4) #[true, true, true, true, true, true, true, true, true, true, true, false, false, false, false] #[true, true, true, true, true, true, true, true, false, true, true, false, false, true, false] rfl rfl rfl rfl (two_of HT_.out (by kernel_rfl)) (by decide) (by decide) (fun K hK => ?_) (fun K hK => ?_)
            ·skip
             refine goes_ Try.func88 (by kernel_rfl) rfl #[.string (a0.extract 6 8)] (by rfl) rfl rfl q1_ ?_
             with_reducible refine (skiffref1_Of.calls k (a0.extract 6 8) t355 _ A10.out).mono ?_
             rintro e w' ⟨rfl, ⟨nd, rfl⟩⟩
             refine ⟨_, rfl, ?_⟩
             refine hK.out _ _ trivial (fun hHeld => ?_)
             clear hK K
             refine norm_ (a' := ?_) ?_ ?_
             rotate_left
             ·show Act.put _ (some 19) _ = _
              simp only [Act.put, List.setIfInBounds_toArray, List.set_cons_zero, List.set_cons_succ, i64_w, i32_w]
              rfl
             refine two_ (i := 11) (j := 13) (Ni := some 22) (Nj := some 4) #[true, true, true, true, true, true, true, true, true, true, true, true, false, false, false] #[true, true, true, true, true, true, true, true, true, true, true, false, false, true, false] rfl rfl rfl rfl (two_of HT_.out (by kernel_rfl)) (by decide) (by decide) (fun K hK => ?_) (fun K hK => ?_)
             ·skip
              refine goes_ Try.func88 (by kernel_rfl) rfl #[.string (a0.extract 8 12)] (by rfl) rfl rfl q1_ ?_
              with_reducible refine (skiffref1_Of.calls k (a0.extract 8 12) t356 _ A13.out).mono ?_
              rintro e w' ⟨rfl, ⟨nd, rfl⟩⟩
              refine ⟨_, rfl, ?_⟩
              refine hK.out _ _ trivial (fun hHeld => ?_)
              clear hK K
              refine norm_ (a' := ?_) ?_ ?_
              rotate_left
              ·show Act.put _ (some 22) _ = _
               simp only [Act.put, List.setIfInBounds_toArray, List.set_cons_zero, List.set_cons_succ, i64_w, i32_w]
               rfl
              refine pure_ (i := 12) (N := some 23) (v := ?_) (a' := ?_) #[true, true, true, true, true, true, true, true, true, true, true, true, true, false, false] rfl rfl (any_of HT_.out (by kernel_rfl)) (fun _ _ _ h => h) (Or.inl ⟨by rfl, ?_⟩) ?_ ?_
              rotate_left
              ·intro w'
               go_simp
               with_reducible rfl
              rotate_left
              ·simp only [Act.put, List.setIfInBounds_toArray, List.set_cons_zero, List.set_cons_succ, i64_w, i32_w]
               rfl
              refine one_ (i := 13) (N := some 4) #[true, true, true, true, true, true, true, true, true, true, true, true, true, true, false] rfl rfl (one_of HT_.out (by kernel_rfl)) (by decide) (fun K hK => ?_)
              refine box_step ?hg (N := 4) ?hd (cs := #[.int .i64 0, .int .i64 0, .int .i64 0, .int .i64 0]) (t := 25) ?hr ?_; (case hd => rfl); (case hg => rfl); (case hr => first | (go_simp; done) | (go_simp; rfl))
              intro gb357 hg w44 hbox hb
              have n0_ := Aside0.mk (blk_below (g := gb353) (o := .cells #[.int .i64 0, .int .i64 0, .int .i64 0, .int .i64 0] 25 (0, 0)) (by (with_reducible repeat (first | refine blk_drewN ?_ _ | refine blk_drew ?_ | refine blk_alloc ?_ _)); exact BK353.out) hb)
              have n1_ := Aside0.mk (below_step (by repeat (first | (with_reducible first | exact HB.out | apply below_alloc | apply pw_below_drewN | apply below_drew1 | refine below_set ?_ GE353.out) | exact HB.out)) hb)
              have n2_ := Aside0.mk (hbox)
              have n3_ := Aside0.mk ((by rw [hg]; exact (below_size (by repeat (first | (with_reducible first | exact HB.out | apply below_alloc | apply pw_below_drewN | apply below_drew1 | refine below_set ?_ GE353.out) | exact HB.out))) : w.heap.size ≤ gb357))
              have n4_ := Aside0.mk ((by rw [hg]; exact (below_size (by repeat (first | (with_reducible first | exact HB.out | apply below_alloc | apply pw_below_drewN | apply below_drew1 | refine below_set ?_ GE353.out) | exact HB.out))) : w.heap.size ≤ gb357))
              have n5_ := Aside0.mk ((by rw [hg]; exact Nat.ne_of_lt (blk_lt (g := gb353) (o := .cells #[.int .i64 0, .int .i64 0, .int .i64 0, .int .i64 0] 25 (0, 0)) (by (with_reducible repeat (first | refine blk_drewN ?_ _ | refine blk_drew ?_ | refine blk_alloc ?_ _)); exact BK353.out)) : gb353 ≠ gb357))
              have n6_ := Aside0.mk ((by rw [hg]; exact Nat.ne_of_gt (blk_lt (g := gb353) (o := .cells #[.int .i64 0, .int .i64 0, .int .i64 0, .int .i64 0] 25 (0, 0)) (by (with_reducible repeat (first | refine blk_drewN ?_ _ | refine blk_drew ?_ | refine blk_alloc ?_ _)); exact BK353.out)) : gb357 ≠ gb353))
              clear BK353
              clear HB
              have BK353 := n0_
              have HB := n1_
              have BK357 := n2_
              have GW357 := n3_
              have GE357 := n4_
              have NB353_357 := n5_
              have NB357_353 := n6_
              clear n0_ n1_ n2_ n3_ n4_ n5_ n6_
              clear hb hbox hg
              refine hK.out _ _ trivial (fun hHeld => ?_)
              clear hK K
              refine norm_ (a' := ?_) ?_ ?_
              rotate_left
              ·show Act.put _ (some 4) _ = _
               simp only [Act.put, List.setIfInBounds_toArray, List.set_cons_zero, List.set_cons_succ, i64_w, i32_w]
               rfl
              exact norm_ (by simp only [putAll, Act.put, List.setIfInBounds_toArray, List.set_cons_zero, List.set_cons_succ]) (hCont (gb357) _ ⟨(by (with_reducible repeat (first | refine blk_drewN ?_ _ | refine blk_drew ?_ | refine blk_alloc ?_ _)); exact BK353.out), (by (with_reducible repeat (first | refine blk_drewN ?_ _ | refine blk_drew ?_ | refine blk_alloc ?_ _)); exact BK357.out), GW357.out, GE357.out, NB353_357.out, NB357_353.out, (by repeat (first | (with_reducible first | exact HB.out | apply below_alloc | apply pw_below_drewN | apply below_drew1 | refine below_set ?_ GE353.out | refine below_set ?_ GE357.out) | exact HB.out))⟩)
             ·skip
              refine box_step ?hg (N := 4) ?hd (cs := #[.int .i64 0, .int .i64 0, .int .i64 0, .int .i64 0]) (t := 25) ?hr ?_; (case hd => rfl); (case hg => rfl); (case hr => first | (go_simp; done) | (go_simp; rfl))
              intro gb357 hg w44 hbox hb
              have n0_ := Aside0.mk (blk_below (g := gb353) (o := .cells #[.int .i64 0, .int .i64 0, .int .i64 0, .int .i64 0] 25 (0, 0)) (by (with_reducible repeat (first | refine blk_drewN ?_ _ | refine blk_drew ?_ | refine blk_alloc ?_ _)); exact BK353.out) hb)
              have n1_ := Aside0.mk (below_step (by repeat (first | (with_reducible first | exact HB.out | apply below_alloc | apply pw_below_drewN | apply below_drew1 | refine below_set ?_ GE353.out) | exact HB.out)) hb)
              have n2_ := Aside0.mk (hbox)
              have n3_ := Aside0.mk ((by rw [hg]; exact (below_size (by repeat (first | (with_reducible first | exact HB.out | apply below_alloc | apply pw_below_drewN | apply below_drew1 | refine below_set ?_ GE353.out) | exact HB.out))) : w.heap.size ≤ gb357))
              have n4_ := Aside0.mk ((by rw [hg]; exact (below_size (by repeat (first | (with_reducible first | exact HB.out | apply below_alloc | apply pw_below_drewN | apply below_drew1 | refine below_set ?_ GE353.out) | exact HB.out))) : w.heap.size ≤ gb357))
              have n5_ := Aside0.mk ((by rw [hg]; exact Nat.ne_of_lt (blk_lt (g := gb353) (o := .cells #[.int .i64 0, .int .i64 0, .int .i64 0, .int .i64 0] 25 (0, 0)) (by (with_reducible repeat (first | refine blk_drewN ?_ _ | refine blk_drew ?_ | refine blk_alloc ?_ _)); exact BK353.out)) : gb353 ≠ gb357))
              have n6_ := Aside0.mk ((by rw [hg]; exact Nat.ne_of_gt (blk_lt (g := gb353) (o := .cells #[.int .i64 0, .int .i64 0, .int .i64 0, .int .i64 0] 25 (0, 0)) (by (with_reducible repeat (first | refine blk_drewN ?_ _ | refine blk_drew ?_ | refine blk_alloc ?_ _)); exact BK353.out)) : gb357 ≠ gb353))
              clear BK353
              clear HB
              have BK353 := n0_
              have HB := n1_
              have BK357 := n2_
              have GW357 := n3_
              have GE357 := n4_
              have NB353_357 := n5_
              have NB357_353 := n6_
              clear n0_ n1_ n2_ n3_ n4_ n5_ n6_
              clear hb hbox hg
              refine hK.out _ _ trivial (fun hHeld => ?_)
              clear hK K
              refine norm_ (a' := ?_) ?_ ?_
              rotate_left
              ·show Act.put _ (some 4) _ = _
               simp only [Act.put, List.setIfInBounds_toArray, List.set_cons_zero, List.set_cons_succ, i64_w, i32_w]
               rfl
              refine one_ (i := 11) (N := some 22) #[true, true, true, true, true, true, true, true, true, true, true, true, false, true, false] rfl rfl (one_of HT_.out (by kernel_rfl)) (by decide) (fun K hK => ?_)
              refine goes_ Try.func88 (by kernel_rfl) rfl #[.string (a0.extract 8 12)] (by rfl) rfl rfl q1_ ?_
              with_reducible refine (skiffref1_Of.calls k (a0.extract 8 12) t356 _ A13.out).mono ?_
              rintro e w' ⟨rfl, ⟨nd, rfl⟩⟩
              refine ⟨_, rfl, ?_⟩
              refine hK.out _ _ trivial (fun hHeld => ?_)
              clear hK K
              refine norm_ (a' := ?_) ?_ ?_
              rotate_left
              ·show Act.put _ (some 22) _ = _
               simp only [Act.put, List.setIfInBounds_toArray, List.set_cons_zero, List.set_cons_succ, i64_w, i32_w]
               rfl
              refine pure_ (i := 12) (N := some 23) (v := ?_) (a' := ?_) #[true, true, true, true, true, true, true, true, true, true, true, true, true, true, false] rfl rfl (any_of HT_.out (by kernel_rfl)) (fun _ _ _ h => h) (Or.inl ⟨by rfl, ?_⟩) ?_ ?_
              rotate_left
              ·intro w'
               go_simp
               with_reducible rfl
              rotate_left
              ·simp only [Act.put, List.setIfInBounds_toArray, List.set_cons_zero, List.set_cons_succ, i64_w, i32_w]
               rfl
              exact norm_ (by simp only [putAll, Act.put, List.setIfInBounds_toArray, List.set_cons_zero, List.set_cons_succ]) (hCont (gb357) _ ⟨(by (with_reducible repeat (first | refine blk_drewN ?_ _ | refine blk_drew ?_ | refine blk_alloc ?_ _)); exact BK353.out), (by (with_reducible repeat (first | refine blk_drewN ?_ _ | refine blk_drew ?_ | refine blk_alloc ?_ _)); exact BK357.out), GW357.out, GE357.out, NB353_357.out, NB357_353.out, (by repeat (first | (with_reducible first | exact HB.out | apply below_alloc | apply pw_below_drewN | apply below_drew1 | refine below_set ?_ GE353.out | refine below_set ?_ GE357.out) | exact HB.out))⟩)
            ·skip
             refine box_step ?hg (N := 4) ?hd (cs := #[.int .i64 0, .int .i64 0, .int .i64 0, .int .i64 0]) (t := 25) ?hr ?_; (case hd => rfl); (case hg => rfl); (case hr => first | (go_simp; done) | (go_simp; rfl))
             intro gb357 hg w44 hbox hb
             have n0_ := Aside0.mk (blk_below (g := gb353) (o := .cells #[.int .i64 0, .int .i64 0, .int .i64 0, .int .i64 0] 25 (0, 0)) (by (with_reducible repeat (first | refine blk_drewN ?_ _ | refine blk_drew ?_ | refine blk_alloc ?_ _)); exact BK353.out) hb)
             have n1_ := Aside0.mk (below_step (by repeat (first | (with_reducible first | exact HB.out | apply below_alloc | apply pw_below_drewN | apply below_drew1 | refine below_set ?_ GE353.out) | exact HB.out)) hb)
             have n2_ := Aside0.mk (hbox)
             have n3_ := Aside0.mk ((by rw [hg]; exact (below_size (by repeat (first | (with_reducible first | exact HB.out | apply below_alloc | apply pw_below_drewN | apply below_drew1 | refine below_set ?_ GE353.out) | exact HB.out))) : w.heap.size ≤ gb357))
             have n4_ := Aside0.mk ((by rw [hg]; exact (below_size (by repeat (first | (with_reducible first | exact HB.out | apply below_alloc | apply pw_below_drewN | apply below_drew1 | refine below_set ?_ GE353.out) | exact HB.out))) : w.heap.size ≤ gb357))
             have n5_ := Aside0.mk ((by rw [hg]; exact Nat.ne_of_lt (blk_lt (g := gb353) (o := .cells #[.int .i64 0, .int .i64 0, .int .i64 0, .int .i64 0] 25 (0, 0)) (by (with_reducible repeat (first | refine blk_drewN ?_ _ | refine blk_drew ?_ | refine blk_alloc ?_ _)); exact BK353.out)) : gb353 ≠ gb357))
             have n6_ := Aside0.mk ((by rw [hg]; exact Nat.ne_of_gt (blk_lt (g := gb353) (o := .cells #[.int .i64 0, .int .i64 0, .int .i64 0, .int .i64 0] 25 (0, 0)) (by (with_reducible repeat (first | refine blk_drewN ?_ _ | refine blk_drew ?_ | refine blk_alloc ?_ _)); exact BK353.out)) : gb357 ≠ gb353))
             clear BK353
             clear HB
             have BK353 := n0_
             have HB := n1_
             have BK357 := n2_
             have GW357 := n3_
             have GE357 := n4_
             have NB353_357 := n5_
             have NB357_353 := n6_
             clear n0_ n1_ n2_ n3_ n4_ n5_ n6_
             clear hb hbox hg
             refine hK.out _ _ trivial (fun hHeld => ?_)
             clear hK K
             refine norm_ (a' := ?_) ?_ ?_
             rotate_left
             ·show Act.put _ (some 4) _ = _
              simp only [Act.put, List.setIfInBounds_toArray, List.set_cons_zero, List.set_cons_succ, i64_w, i32_w]
              rfl
             refine one_ (i := 8) (N := some 19) #[true, true, true, true, true, true, true, true, true, true, true, false, false, true, false] rfl rfl (one_of HT_.out (by kernel_rfl)) (by decide) (fun K hK => ?_)
             refine goes_ Try.func88 (by kernel_rfl) rfl #[.string (a0.extract 6 8)] (by rfl) rfl rfl q1_ ?_
             with_reducible refine (skiffref1_Of.calls k (a0.extract 6 8) t355 _ A10.out).mono ?_
             rintro e w' ⟨rfl, ⟨nd, rfl⟩⟩
             refine ⟨_, rfl, ?_⟩
             refine hK.out _ _ trivial (fun hHeld => ?_)
             clear hK K
             refine norm_ (a' := ?_) ?_ ?_
             rotate_left
             ·show Act.put _ (some 19) _ = _
              simp only [Act.put, List.setIfInBounds_toArray, List.set_cons_zero, List.set_cons_succ, i64_w, i32_w]
              rfl
             refine one_ (i := 11) (N := some 22) #[true, true, true, true, true, true, true, true, true, true, true, true, false, true, false] rfl rfl (one_of HT_.out (by kernel_rfl)) (by decide) (fun K hK => ?_)
             refine goes_ Try.func88 (by kernel_rfl) rfl #[.string (a0.extract 8 12)] (by rfl) rfl rfl q1_ ?_
             with_reducible refine (skiffref1_Of.calls k (a0.extract 8 12) t356 _ A13.out).mono ?_
             rintro e w' ⟨rfl, ⟨nd, rfl⟩⟩
             refine ⟨_, rfl, ?_⟩
             refine hK.out _ _ trivial (fun hHeld => ?_)
             clear hK K
             refine norm_ (a' := ?_) ?_ ?_
             rotate_left
             ·show Act.put _ (some 22) _ = _
              simp only [Act.put, List.setIfInBounds_toArray, List.set_cons_zero, List.set_cons_succ, i64_w, i32_w]
              rfl
             refine pure_ (i := 12) (N := some 23) (v := ?_) (a' := ?_) #[true, true, true, true, true, true, true, true, true, true, true, true, true, true, false] rfl rfl (any_of HT_.out (by kernel_rfl)) (fun _ _ _ h => h) (Or.inl ⟨by rfl, ?_⟩) ?_ ?_
             rotate_left
             ·intro w'
              go_simp
              with_reducible rfl
             rotate_left
             ·simp only [Act.put, List.setIfInBounds_toArray, List.set_cons_zero, List.set_cons_succ, i64_w, i32_w]
              rfl
             exact norm_ (by simp only [putAll, Act.put, List.setIfInBounds_toArray, List.set_cons_zero, List.set_cons_succ]) (hCont (gb357) _ ⟨(by (with_reducible repeat (first | refine blk_drewN ?_ _ | refine blk_drew ?_ | refine blk_alloc ?_ _)); exact BK353.out), (by (with_reducible repeat (first | refine blk_drewN ?_ _ | refine blk_drew ?_ | refine blk_alloc ?_ _)); exact BK357.out), GW357.out, GE357.out, NB353_357.out, NB357_353.out, (by repeat (first | (with_reducible first | exact HB.out | apply below_alloc | apply pw_below_drewN | apply below_drew1 | refine below_set ?_ GE353.out | refine below_set ?_ GE357.out) | exact HB.out))⟩)
           ·skip
            refine box_step ?hg (N := 4) ?hd (cs := #[.int .i64 0, .int .i64 0, .int .i64 0, .int .i64 0]) (t := 25) ?hr ?_; (case hd => rfl); (case hg => rfl); (case hr => first | (go_simp; done) | (go_simp; rfl))
            intro gb357 hg w44 hbox hb
            have n0_ := Aside0.mk (blk_below (g := gb353) (o := .cells #[.int .i64 0, .int .i64 0, .int .i64 0, .int .i64 0] 25 (0, 0)) (by (with_reducible repeat (first | refine blk_drewN ?_ _ | refine blk_drew ?_ | refine blk_alloc ?_ _)); exact BK353.out) hb)
            have n1_ := Aside0.mk (below_step (by repeat (first | (with_reducible first | exact HB.out | apply below_alloc | apply pw_below_drewN | apply below_drew1 | refine below_set ?_ GE353.out) | exact HB.out)) hb)
            have n2_ := Aside0.mk (hbox)
            have n3_ := Aside0.mk ((by rw [hg]; exact (below_size (by repeat (first | (with_reducible first | exact HB.out | apply below_alloc | apply pw_below_drewN | apply below_drew1 | refine below_set ?_ GE353.out) | exact HB.out))) : w.heap.size ≤ gb357))
            have n4_ := Aside0.mk ((by rw [hg]; exact (below_size (by repeat (first | (with_reducible first | exact HB.out | apply below_alloc | apply pw_below_drewN | apply below_drew1 | refine below_set ?_ GE353.out) | exact HB.out))) : w.heap.size ≤ gb357))
            have n5_ := Aside0.mk ((by rw [hg]; exact Nat.ne_of_lt (blk_lt (g := gb353) (o := .cells #[.int .i64 0, .int .i64 0, .int .i64 0, .int .i64 0] 25 (0, 0)) (by (with_reducible repeat (first | refine blk_drewN ?_ _ | refine blk_drew ?_ | refine blk_alloc ?_ _)); exact BK353.out)) : gb353 ≠ gb357))
            have n6_ := Aside0.mk ((by rw [hg]; exact Nat.ne_of_gt (blk_lt (g := gb353) (o := .cells #[.int .i64 0, .int .i64 0, .int .i64 0, .int .i64 0] 25 (0, 0)) (by (with_reducible repeat (first | refine blk_drewN ?_ _ | refine blk_drew ?_ | refine blk_alloc ?_ _)); exact BK353.out)) : gb357 ≠ gb353))
            clear BK353
            clear HB
            have BK353 := n0_
            have HB := n1_
            have BK357 := n2_
            have GW357 := n3_
            have GE357 := n4_
            have NB353_357 := n5_
            have NB357_353 := n6_
            clear n0_ n1_ n2_ n3_ n4_ n5_ n6_
            clear hb hbox hg
            refine hK.out _ _ trivial (fun hHeld => ?_)
            clear hK K
            refine norm_ (a' := ?_) ?_ ?_
            rotate_left
            ·show Act.put _ (some 4) _ = _
             simp only [Act.put, List.setIfInBounds_toArray, List.set_cons_zero, List.set_cons_succ, i64_w, i32_w]
             rfl
            refine one_ (i := 2) (N := some 13) #[true, true, true, true, true, true, true, true, false, true, true, false, false, true, false] rfl rfl (one_of HT_.out (by kernel_rfl)) (by decide) (fun K hK => ?_)
            refine goes_ Try.func88 (by kernel_rfl) rfl #[.string (a0.extract 0 4)] (by rfl) rfl rfl q1_ ?_
            with_reducible refine (skiffref1_Of.calls k (a0.extract 0 4) t354 _ A5.out).mono ?_
            rintro e w' ⟨rfl, ⟨nd, rfl⟩⟩
            refine ⟨_, rfl, ?_⟩
            refine hK.out _ _ trivial (fun hHeld => ?_)
            clear hK K
            refine norm_ (a' := ?_) ?_ ?_
            rotate_left
            ·show Act.put _ (some 13) _ = _
             simp only [Act.put, List.setIfInBounds_toArray, List.set_cons_zero, List.set_cons_succ, i64_w, i32_w]
             rfl
            refine one_ (i := 8) (N := some 19) #[true, true, true, true, true, true, true, true, true, true, true, false, false, true, false] rfl rfl (one_of HT_.out (by kernel_rfl)) (by decide) (fun K hK => ?_)
            refine goes_ Try.func88 (by kernel_rfl) rfl #[.string (a0.extract 6 8)] (by rfl) rfl rfl q1_ ?_
            with_reducible refine (skiffref1_Of.calls k (a0.extract 6 8) t355 _ A10.out).mono ?_
            rintro e w' ⟨rfl, ⟨nd, rfl⟩⟩
            refine ⟨_, rfl, ?_⟩
            refine hK.out _ _ trivial (fun hHeld => ?_)
            clear hK K
            refine norm_ (a' := ?_) ?_ ?_
            rotate_left
            ·show Act.put _ (some 19) _ = _
             simp only [Act.put, List.setIfInBounds_toArray, List.set_cons_zero, List.set_cons_succ, i64_w, i32_w]
             rfl
            refine one_ (i := 11) (N := some 22) #[true, true, true, true, true, true, true, true, true, true, true, true, false, true, false] rfl rfl (one_of HT_.out (by kernel_rfl)) (by decide) (fun K hK => ?_)
            refine goes_ Try.func88 (by kernel_rfl) rfl #[.string (a0.extract 8 12)] (by rfl) rfl rfl q1_ ?_
            with_reducible refine (skiffref1_Of.calls k (a0.extract 8 12) t356 _ A13.out).mono ?_
            rintro e w' ⟨rfl, ⟨nd, rfl⟩⟩
            refine ⟨_, rfl, ?_⟩
            refine hK.out _ _ trivial (fun hHeld => ?_)
            clear hK K
            refine norm_ (a' := ?_) ?_ ?_
            rotate_left
            ·show Act.put _ (some 22) _ = _
             simp only [Act.put, List.setIfInBounds_toArray, List.set_cons_zero, List.set_cons_succ, i64_w, i32_w]
             rfl
            refine pure_ (i := 12) (N := some 23) (v := ?_) (a' := ?_) #[true, true, true, true, true, true, true, true, true, true, true, true, true, true, false] rfl rfl (any_of HT_.out (by kernel_rfl)) (fun _ _ _ h => h) (Or.inl ⟨by rfl, ?_⟩) ?_ ?_
            rotate_left
            ·intro w'
             go_simp
             with_reducible rfl
            rotate_left
            ·simp only [Act.put, List.setIfInBounds_toArray, List.set_cons_zero, List.set_cons_succ, i64_w, i32_w]
             rfl
            exact norm_ (by simp only [putAll, Act.put, List.setIfInBounds_toArray, List.set_cons_zero, List.set_cons_succ]) (hCont (gb357) _ ⟨(by (with_reducible repeat (first | refine blk_drewN ?_ _ | refine blk_drew ?_ | refine blk_alloc ?_ _)); exact BK353.out), (by (with_reducible repeat (first | refine blk_drewN ?_ _ | refine blk_drew ?_ | refine blk_alloc ?_ _)); exact BK357.out), GW357.out, GE357.out, NB353_357.out, NB357_353.out, (by repeat (first | (with_reducible first | exact HB.out | apply below_alloc | apply pw_below_drewN | apply below_drew1 | refine below_set ?_ GE353.out | refine below_set ?_ GE357.out) | exact HB.out))⟩)
          rintro gb357 w45 ⟨h0_, h1_, h2_, h3_, h4_, h5_, h6_⟩
          have n0_ : Aside0 (w45.heap[gb353]? = some (.cells #[.int .i64 0, .int .i64 0, .int .i64 0, .int .i64 0] 25 (0, 0))) := ⟨h0_⟩
          have n1_ : Aside0 (w45.heap[gb357]? = some (.cells #[.int .i64 0, .int .i64 0, .int .i64 0, .int .i64 0] 25 (0, 0))) := ⟨h1_⟩
          have n2_ : Aside0 (w.heap.size ≤ gb357) := ⟨h2_⟩
          have n3_ : Aside0 (w.heap.size ≤ gb357) := ⟨h3_⟩
          have n4_ : Aside0 (gb353 ≠ gb357) := ⟨h4_⟩
          have n5_ : Aside0 (gb357 ≠ gb353) := ⟨h5_⟩
          have n6_ : Aside0 (Below w.heap.size w w45) := ⟨h6_⟩
          clear BK353
          clear HB
          clear h0_ h1_ h2_ h3_ h4_ h5_ h6_
          have BK353 := n0_
          have BK357 := n1_
          have GW357 := n2_
          have GE357 := n3_
          have NB353_357 := n4_
          have NB357_353 := n5_
          have HB := n6_
          clear n0_ n1_ n2_ n3_ n4_ n5_ n6_
          have hHeld := trivial
          refine norm_ (a' := ?_) ?_ ?_
          rotate_left
          ·simp only [putAll, Act.put, List.setIfInBounds_toArray, List.set_cons_zero, List.set_cons_succ]
           rfl
          refine one_ (i := 14) (N := none) #[true, true, true, true, true, true, true, true, true, true, true, true, true, true, true] rfl rfl (one_of HT_.out (by kernel_rfl)) (by decide) (fun K hK => ?_)
          have hs46 : w45.cell? ⟨gb357, 0, none⟩ = some (.int .i64 0) := (blk_cell BK357.out 0).trans rfl
          have hfs46 := blk_frozen BK357.out 0
          have hns46_0 := NB353_357.out
          have hms46_0 := NB357_353.out
          have hs47 : w45.cell? ⟨gb357, 1, none⟩ = some (.int .i64 0) := (blk_cell BK357.out 1).trans rfl
          have hfs47 := blk_frozen BK357.out 1
          have hns47_0 := NB353_357.out
          have hms47_0 := NB357_353.out
          have hs48 : w45.cell? ⟨gb357, 2, none⟩ = some (.int .i64 0) := (blk_cell BK357.out 2).trans rfl
          have hfs48 := blk_frozen BK357.out 2
          have hns48_0 := NB353_357.out
          have hms48_0 := NB357_353.out
          have hs49 : w45.cell? ⟨gb357, 3, none⟩ = some (.int .i64 0) := (blk_cell BK357.out 3).trans rfl
          have hfs49 := blk_frozen BK357.out 3
          have hns49_0 := NB353_357.out
          have hms49_0 := NB357_353.out
          refine skip_ (w1 := ?_) (by rfl) rfl ?_ ?_
          rotate_left
          ·go_simp
           rfl
          refine hK.out _ _ trivial (fun hHeld => ?_)
          clear hK K
          refine done_ (done_of HT_.out (by kernel_rfl)) ?_
          have hnb50 := NB357_353.out
          have hnc50 := NB353_357.out
          have hcz51_0 : w45.cell? ⟨gb357, 0, none⟩ = some (.int .i64 0) := (blk_cell BK357.out 0).trans rfl
          have hcz51_1 : w45.cell? ⟨gb357, 1, none⟩ = some (.int .i64 0) := (blk_cell BK357.out 1).trans rfl
          have hcz51_2 : w45.cell? ⟨gb357, 2, none⟩ = some (.int .i64 0) := (blk_cell BK357.out 2).trans rfl
          have hcz51_3 : w45.cell? ⟨gb357, 3, none⟩ = some (.int .i64 0) := (blk_cell BK357.out 3).trans rfl
          have hfz51_0 := blk_frozen BK357.out 0
          have hfz51_1 := blk_frozen BK357.out 1
          have hfz51_2 := blk_frozen BK357.out 2
          have hfz51_3 := blk_frozen BK357.out 3
          try go_wp2_with (first | ((with_reducible refine gate_callee (f := 29) rfl ?_); refine goesL_ (some 26) rfl rfl Try.func29 (by kernel_rfl) rfl #[.agg #[.int .i64 t354, .int .i64 (wrap64 (bt a0 4)), .int .i64 t355, .int .i64 t356]] rfl q1_ ?_; (with_reducible refine (Hand.skiffref1_PutEntry.calls k t354 (wrap64 (bt a0 4)) t355 t356 t358 t359 _ A14.out).mono ?_); rintro e w52 ⟨rfl, hb⟩; refine ⟨_, rfl, ?_⟩; have n0_ := Aside0.mk (blk_below (g := gb353) (o := .cells #[.int .i64 0, .int .i64 0, .int .i64 0, .int .i64 0] 25 (0, 0)) (by (with_reducible repeat (first | refine blk_drewN ?_ _ | refine blk_drew ?_ | refine blk_alloc ?_ _)); refine blk_far ?_ NB353_357.out _; (with_reducible repeat (first | refine blk_drewN ?_ _ | refine blk_drew ?_ | refine blk_alloc ?_ _)); refine blk_far ?_ NB353_357.out _; (with_reducible repeat (first | refine blk_drewN ?_ _ | refine blk_drew ?_ | refine blk_alloc ?_ _)); refine blk_far ?_ NB353_357.out _; (with_reducible repeat (first | refine blk_drewN ?_ _ | refine blk_drew ?_ | refine blk_alloc ?_ _)); refine blk_far ?_ NB353_357.out _; (with_reducible repeat (first | refine blk_drewN ?_ _ | refine blk_drew ?_ | refine blk_alloc ?_ _)); exact BK353.out) hb); have n1_ := Aside0.mk (blk_below (g := gb357) (o := .cells #[.int .i64 t354, .int .i64 (wrap64 (bt a0 4)), .int .i64 t355, .int .i64 t356] 25 (0, 0)) (by (with_reducible repeat (first | refine blk_drewN ?_ _ | refine blk_drew ?_ | refine blk_alloc ?_ _)); refine blk_put (cs := #[.int .i64 t354, .int .i64 (wrap64 (bt a0 4)), .int .i64 t355, .int .i64 0]) ?_ 3 _ rfl; (with_reducible repeat (first | refine blk_drewN ?_ _ | refine blk_drew ?_ | refine blk_alloc ?_ _)); refine blk_put (cs := #[.int .i64 t354, .int .i64 (wrap64 (bt a0 4)), .int .i64 0, .int .i64 0]) ?_ 2 _ rfl; (with_reducible repeat (first | refine blk_drewN ?_ _ | refine blk_drew ?_ | refine blk_alloc ?_ _)); refine blk_put (cs := #[.int .i64 t354, .int .i64 0, .int .i64 0, .int .i64 0]) ?_ 1 _ rfl; (with_reducible repeat (first | refine blk_drewN ?_ _ | refine blk_drew ?_ | refine blk_alloc ?_ _)); refine blk_put (cs := #[.int .i64 0, .int .i64 0, .int .i64 0, .int .i64 0]) ?_ 0 _ rfl; (with_reducible repeat (first | refine blk_drewN ?_ _ | refine blk_drew ?_ | refine blk_alloc ?_ _)); exact BK357.out) hb); have n2_ := Aside0.mk (below_step (by repeat (first | (with_reducible first | exact HB.out | apply below_alloc | apply pw_below_drewN | apply below_drew1 | refine below_set ?_ GE353.out | refine below_set ?_ GE357.out) | exact HB.out)) hb); clear BK353; clear BK357; clear HB; have BK353 := n0_; have BK357 := n1_; have HB := n2_; clear n0_ n1_ n2_; (try clear hb); (try clear hb2); (try clear hk); (try clear hi); have hcz53_0 : w52.cell? ⟨gb353, 0, none⟩ = some (.int .i64 0) := (blk_cell BK353.out 0).trans rfl; have hcz53_1 : w52.cell? ⟨gb353, 1, none⟩ = some (.int .i64 0) := (blk_cell BK353.out 1).trans rfl; have hcz53_2 : w52.cell? ⟨gb353, 2, none⟩ = some (.int .i64 0) := (blk_cell BK353.out 2).trans rfl; have hcz53_3 : w52.cell? ⟨gb353, 3, none⟩ = some (.int .i64 0) := (blk_cell BK353.out 3).trans rfl; have hfz53_0 := blk_frozen BK353.out 0; have hfz53_1 := blk_frozen BK353.out 1; have hfz53_2 := blk_frozen BK353.out 2; have hfz53_3 := blk_frozen BK353.out 3))
          refine bodyPost_ret (results_ct rfl _ _ gb353 25 #[.int .i64 0, .int .i64 0, .int .i64 0, .int .i64 0] (0, 0) _ rfl (by (with_reducible repeat (first | refine blk_drewN ?_ _ | refine blk_drew ?_ | refine blk_alloc ?_ _)); refine blk_put (cs := #[.int .i64 0, .int .i64 0, .int .i64 0, .int .i64 0]) ?_ 3 _ rfl; (with_reducible repeat (first | refine blk_drewN ?_ _ | refine blk_drew ?_ | refine blk_alloc ?_ _)); refine blk_put (cs := #[.int .i64 0, .int .i64 0, .int .i64 0, .int .i64 0]) ?_ 2 _ rfl; (with_reducible repeat (first | refine blk_drewN ?_ _ | refine blk_drew ?_ | refine blk_alloc ?_ _)); refine blk_put (cs := #[.int .i64 0, .int .i64 0, .int .i64 0, .int .i64 0]) ?_ 1 _ rfl; (with_reducible repeat (first | refine blk_drewN ?_ _ | refine blk_drew ?_ | refine blk_alloc ?_ _)); refine blk_put (cs := #[.int .i64 0, .int .i64 0, .int .i64 0, .int .i64 0]) ?_ 0 _ rfl; (with_reducible repeat (first | refine blk_drewN ?_ _ | refine blk_drew ?_ | refine blk_alloc ?_ _)); exact BK353.out) Try.underlying25 rfl (by kernel_rfl)) rfl ?_
          exact ⟨by first | rfl | (simp [errW_none, errW_some] <;> rfl) | (simp [*, errW_none, errW_some] <;> rfl), by repeat (first | (with_reducible first | exact HB.out | apply below_alloc | apply pw_below_drewN | apply below_drew1 | refine below_set ?_ GE353.out | refine below_set ?_ GE357.out) | exact HB.out)⟩
        ·rw [if_neg c12] at H
         exact absurd H (by simp)
       ·rw [if_neg c11] at H
        exact absurd H (by simp)
      ·rw [if_neg c9] at H
       exact absurd H (by simp)
     ·rw [if_neg c8] at H
      exact absurd H (by simp)
    ·rw [if_neg c6] at H
     exact absurd H (by simp)
   ·rw [if_neg c4] at H
    exact absurd H (by simp)
  ·rw [if_neg c3] at H
   exact absurd H (by simp)
 ·rw [if_neg c2] at H
  have c2b0 : ((a0.size : Int) == 24) = false := beq_eq_false_iff_ne.mpr c2
  have c2b1 : ((a0.size : Int) != 24) = true := bne_iff_ne.mpr c2
  simp only [Option.some.injEq, Prod.mk.injEq] at H
  obtain ⟨rfl, rfl, rfl, rfl, rfl⟩ := H
  go_enter Try.func84, Try.ntmps84
  go_wp2_with (first | ((with_reducible refine gate_dst (N := 2) rfl ?_); refine box_event ?hg (N := 2) ?hd (cs := #[.int .i64 0, .int .i64 0, .int .i64 0, .int .i64 0]) (t := 25) ?hr ?_; (case hd => rfl); (case hg => rfl); (case hr => first | (go_simp; done) | (go_simp; rfl)); intro gb353 hg w54 hbox hb; have n0_ := Aside0.mk (below_step q2_ hb); have n1_ := Aside0.mk (hbox); have n2_ := Aside0.mk ((by rw [hg]; exact (below_size q2_) : w.heap.size ≤ gb353)); have n3_ := Aside0.mk ((by rw [hg]; exact (below_size q2_) : w.heap.size ≤ gb353)); clear HB; have HB := n0_; have BK353 := n1_; have GW353 := n2_; have GE353 := n3_; clear n0_ n1_ n2_ n3_; clear hb hbox hg; have hcz55_0 : w54.cell? ⟨gb353, 0, none⟩ = some (.int .i64 0) := (blk_cell BK353.out 0).trans rfl; have hcz55_1 : w54.cell? ⟨gb353, 1, none⟩ = some (.int .i64 0) := (blk_cell BK353.out 1).trans rfl; have hcz55_2 : w54.cell? ⟨gb353, 2, none⟩ = some (.int .i64 0) := (blk_cell BK353.out 2).trans rfl; have hcz55_3 : w54.cell? ⟨gb353, 3, none⟩ = some (.int .i64 0) := (blk_cell BK353.out 3).trans rfl; have hfz55_0 := blk_frozen BK353.out 0; have hfz55_1 := blk_frozen BK353.out 1; have hfz55_2 := blk_frozen BK353.out 2; have hfz55_3 := blk_frozen BK353.out 3))
  refine bodyPost_ret (results_ct rfl _ _ gb353 25 #[.int .i64 0, .int .i64 0, .int .i64 0, .int .i64 0] (0, 0) _ rfl (by (with_reducible repeat (first | refine blk_drewN ?_ _ | refine blk_drew ?_ | refine blk_alloc ?_ _)); refine blk_put (cs := #[.int .i64 0, .int .i64 0, .int .i64 0, .int .i64 0]) ?_ 3 _ rfl; (with_reducible repeat (first | refine blk_drewN ?_ _ | refine blk_drew ?_ | refine blk_alloc ?_ _)); refine blk_put (cs := #[.int .i64 0, .int .i64 0, .int .i64 0, .int .i64 0]) ?_ 2 _ rfl; (with_reducible repeat (first | refine blk_drewN ?_ _ | refine blk_drew ?_ | refine blk_alloc ?_ _)); refine blk_put (cs := #[.int .i64 0, .int .i64 0, .int .i64 0, .int .i64 0]) ?_ 1 _ rfl; (with_reducible repeat (first | refine blk_drewN ?_ _ | refine blk_drew ?_ | refine blk_alloc ?_ _)); refine blk_put (cs := #[.int .i64 0, .int .i64 0, .int .i64 0, .int .i64 0]) ?_ 0 _ rfl; (with_reducible repeat (first | refine blk_drewN ?_ _ | refine blk_drew ?_ | refine blk_alloc ?_ _)); exact BK353.out) Try.underlying25 rfl (by kernel_rfl)) rfl ?_
  exact ⟨by first | rfl | (simp [errW_none, errW_some] <;> rfl) | (simp [*, errW_none, errW_some] <;> rfl), by repeat (first | (with_reducible first | exact HB.out | apply below_alloc | apply pw_below_drewN | apply below_drew1 | refine below_set ?_ GE353.out) | exact HB.out)⟩
end Go.Proofs.Ytjihlabmddfjhaa.PAll

/- Plain facts: what the program's entry.Get and the reference's GetEntry answer for every string: the same; no memory in sight. -/
set_option linter.unnecessarySimpa false
set_option linter.unusedSimpArgs false
set_option linter.unusedVariables false
namespace Go.Proofs.Ytjihlabmddfjhaa.M
open Go.RowKit Go.Proofs.YtjihlabmddfjhaaW.PrintWords Go.Proofs.YtjihlabmddfjhaaW.PrintLast Go.Proofs.YtjihlabmddfjhaaW.PrintMore Go.Proofs.Ytjihlabmddfjhaa.Hand Go.Proofs.Ytjihlabmddfjhaa.PAll
theorem wraps_i64 (n : Int) (h₀ : 0 ≤ n) (h₁ : n < 2 ^ 62) : IntKind.i64.wrap n = n := by rw [IntKind.wrap_i64]; omega
theorem or_step (x b : Int) (h0 : 0 ≤ x) (h1 : x < 1099511627776) (h2 : 0 ≤ b) (h3 : b < 256) : Go.bits .or .i64 (wrap64 (x * 256)) (wrap64 b) = x * 256 + b := by
 rw [show wrap64 (x * 256) = x * 256 by unfold wrap64; omega, show wrap64 b = b by unfold wrap64; omega]
 exact bits_join .i64 62 (by decide) wraps_i64 8 _ _ (by omega) (by omega) (by omega) h2 (by omega) (by omega)
theorem num_step (k : Nat) (s : ByteArray) (x : Int) (i : Nat) (hi : i < s.size) (hs : s.size < 1000) (h0 : 0 ≤ x) (h1 : x < 1099511627776) : entry_Num.l0 (k + 1) s x (i : Int) = entry_Num.l0 k s (x * 256 + bt s (i : Int)) ((i : Int) - 1) := by
 rw [entry_Num.l0, if_pos (by omega), if_pos (by omega), if_pos (by omega), or_step x _ h0 h1 (bt_u8 _ _).1 (bt_u8 _ _).2, show wrap64 ((i : Int) - 1) = (i : Int) - 1 by unfold wrap64; omega]
theorem num_end (k : Nat) (s : ByteArray) (x : Int) : entry_Num.l0 (k + 1) s x (-1) = some x := by rw [entry_Num.l0, if_neg (by omega)]
theorem of_step (k : Nat) (s : ByteArray) (x : Int) (i : Nat) (hi : i < s.size) (hs : s.size < 1000) (h0 : 0 ≤ x) (h1 : x < 1099511627776) : skiffref1_Of.l0 (k + 1) s x (i : Int) = skiffref1_Of.l0 k s (x * 256 + bt s (i : Int)) ((i : Int) - 1) := by
 rw [skiffref1_Of.l0, if_pos (by omega), if_pos (by omega), if_pos (by omega), or_step x _ h0 h1 (bt_u8 _ _).1 (bt_u8 _ _).2, show wrap64 ((i : Int) - 1) = (i : Int) - 1 by unfold wrap64; omega]
theorem of_end (k : Nat) (s : ByteArray) (x : Int) : skiffref1_Of.l0 (k + 1) s x (-1) = some x := by rw [skiffref1_Of.l0, if_neg (by omega)]
def n2 (s : ByteArray) (i : Nat) : Int := bt s i + 256 * bt s ((i + 1 : Nat) : Int)
def n4 (s : ByteArray) (i : Nat) : Int := bt s i + 256 * bt s ((i + 1 : Nat) : Int) + 65536 * bt s ((i + 2 : Nat) : Int) + 16777216 * bt s ((i + 3 : Nat) : Int)
theorem num4_eq (s : ByteArray) (h : s.size = 4) : entry_Num.f 6 s = some (n4 s 0) := by
 have b0 := bt_u8 s 0; have b1 := bt_u8 s 1; have b2 := bt_u8 s 2; have b3 := bt_u8 s 3
 unfold entry_Num.f
 rw [h]
 rw [show wrap64 (((4 : Nat) : Int) - 1) = ((3 : Nat) : Int) by unfold wrap64; omega]
 rw [num_step 5 s 0 3 (by omega) (by omega) (by omega) (by omega)]
 show entry_Num.l0 5 s (0 * 256 + bt s 3) ((2 : Nat) : Int) = _
 rw [num_step 4 s _ 2 (by omega) (by omega) (by omega) (by omega)]
 show entry_Num.l0 4 s ((0 * 256 + bt s 3) * 256 + bt s 2) ((1 : Nat) : Int) = _
 rw [num_step 3 s _ 1 (by omega) (by omega) (by omega) (by omega)]
 show entry_Num.l0 3 s (((0 * 256 + bt s 3) * 256 + bt s 2) * 256 + bt s 1) ((0 : Nat) : Int) = _
 rw [num_step 2 s _ 0 (by omega) (by omega) (by omega) (by omega)]
 show entry_Num.l0 2 s ((((0 * 256 + bt s 3) * 256 + bt s 2) * 256 + bt s 1) * 256 + bt s 0) (-1) = _
 rw [num_end]
 congr 1
 show _ = bt s 0 + 256 * bt s 1 + 65536 * bt s 2 + 16777216 * bt s 3
 omega
theorem num2_eq (s : ByteArray) (h : s.size = 2) : entry_Num.f 6 s = some (n2 s 0) := by
 have b0 := bt_u8 s 0; have b1 := bt_u8 s 1
 unfold entry_Num.f
 rw [h]
 rw [show wrap64 (((2 : Nat) : Int) - 1) = ((1 : Nat) : Int) by unfold wrap64; omega]
 rw [num_step 5 s _ 1 (by omega) (by omega) (by omega) (by omega)]
 show entry_Num.l0 5 s (0 * 256 + bt s 1) ((0 : Nat) : Int) = _
 rw [num_step 4 s _ 0 (by omega) (by omega) (by omega) (by omega)]
 show entry_Num.l0 4 s ((0 * 256 + bt s 1) * 256 + bt s 0) (-1) = _
 rw [num_end]
 congr 1
 show _ = bt s 0 + 256 * bt s 1
 omega
theorem of4_eq (s : ByteArray) (h : s.size = 4) : skiffref1_Of.f 6 s = some (n4 s 0) := by
 have b0 := bt_u8 s 0; have b1 := bt_u8 s 1; have b2 := bt_u8 s 2; have b3 := bt_u8 s 3
 unfold skiffref1_Of.f
 rw [h]
 rw [show wrap64 (((4 : Nat) : Int) - 1) = ((3 : Nat) : Int) by unfold wrap64; omega]
 rw [of_step 5 s 0 3 (by omega) (by omega) (by omega) (by omega)]
 show skiffref1_Of.l0 5 s (0 * 256 + bt s 3) ((2 : Nat) : Int) = _
 rw [of_step 4 s _ 2 (by omega) (by omega) (by omega) (by omega)]
 show skiffref1_Of.l0 4 s ((0 * 256 + bt s 3) * 256 + bt s 2) ((1 : Nat) : Int) = _
 rw [of_step 3 s _ 1 (by omega) (by omega) (by omega) (by omega)]
 show skiffref1_Of.l0 3 s (((0 * 256 + bt s 3) * 256 + bt s 2) * 256 + bt s 1) ((0 : Nat) : Int) = _
 rw [of_step 2 s _ 0 (by omega) (by omega) (by omega) (by omega)]
 show skiffref1_Of.l0 2 s ((((0 * 256 + bt s 3) * 256 + bt s 2) * 256 + bt s 1) * 256 + bt s 0) (-1) = _
 rw [of_end]
 congr 1
 show _ = bt s 0 + 256 * bt s 1 + 65536 * bt s 2 + 16777216 * bt s 3
 omega
theorem of2_eq (s : ByteArray) (h : s.size = 2) : skiffref1_Of.f 6 s = some (n2 s 0) := by
 have b0 := bt_u8 s 0; have b1 := bt_u8 s 1
 unfold skiffref1_Of.f
 rw [h]
 rw [show wrap64 (((2 : Nat) : Int) - 1) = ((1 : Nat) : Int) by unfold wrap64; omega]
 rw [of_step 5 s _ 1 (by omega) (by omega) (by omega) (by omega)]
 show skiffref1_Of.l0 5 s (0 * 256 + bt s 1) ((0 : Nat) : Int) = _
 rw [of_step 4 s _ 0 (by omega) (by omega) (by omega) (by omega)]
 show skiffref1_Of.l0 4 s ((0 * 256 + bt s 1) * 256 + bt s 0) (-1) = _
 rw [of_end]
 congr 1
 show _ = bt s 0 + 256 * bt s 1
 omega
theorem n4_extract (s : ByteArray) (i : Nat) (h : i + 4 ≤ s.size) : n4 (s.extract i (i + 4)) 0 = n4 s i := by
 unfold n4
 simp only [Nat.zero_add]
 rw [bt_extract s i (i + 4) 0 (by omega), bt_extract s i (i + 4) 1 (by omega), bt_extract s i (i + 4) 2 (by omega), bt_extract s i (i + 4) 3 (by omega), Nat.add_zero]
theorem n2_extract (s : ByteArray) (i : Nat) (h : i + 2 ≤ s.size) : n2 (s.extract i (i + 2)) 0 = n2 s i := by
 unfold n2
 simp only [Nat.zero_add]
 rw [bt_extract s i (i + 2) 0 (by omega), bt_extract s i (i + 2) 1 (by omega), Nat.add_zero]
/-- What stands in a place: the complements are right, and the record may be. -/
def getOk (s : ByteArray) : Prop := s.size = 24 ∧ (∀ i, i < 12 → bt s ((12 + i : Nat) : Int) = 255 - bt s ((i : Nat) : Int)) ∧ recMay (n4 s 0) (n2 s 4) (n2 s 6) (n4 s 8) = true
instance (s : ByteArray) : Decidable (getOk s) := by unfold getOk; exact inferInstance
def getV (s : ByteArray) : Int × Int × Int × Int × Int := if getOk s then (n4 s 0, n2 s 4, n2 s 6, n4 s 8, 0) else (0, 0, 0, 0, 400)
theorem complB_eq (b : Int) (h0 : 0 ≤ b) (h1 : b < 256) : complB b = 255 - b := by
 obtain ⟨n, rfl⟩ := Int.eq_ofNat_of_zero_le h0
 unfold complB
 rw [bits_xor_u8]
 have e : B (IntKind.u8.max) = BitVec.allOnes 8 := by decide
 rw [e, BitVec.allOnes_xor, BitVec.toNat_not]
 have e2 : (B (n : Int)).toNat = n := by simp [B]; omega
 rw [e2]; omega
theorem bytesOf_getD (s : ByteArray) (i : Nat) (h : i < s.size) : (bytesOf s).getD i 0 = bt s (i : Int) := by
 have := rd_bytesOf s (i : Int)
 rw [← this]
 simp [rd]
theorem compl_bt (s : ByteArray) (i : Nat) (h : i < s.size) : bt (strOfNums ((bytesOf s).map complB)) i = 255 - bt s (i : Int) := by
 have b := bt_u8 s (i : Int)
 have hl : i < ((bytesOf s).map complB).length := by rw [List.length_map, bytesOf_length]; exact h
 have e : ((bytesOf s).map complB).getD i 0 = 255 - bt s (i : Int) := by
  have := bytesOf_getD s i h
  have hl2 : i < (bytesOf s).length := by rw [bytesOf_length]; exact h
  rw [List.getD_eq_getElem?_getD, List.getElem?_map, List.getElem?_eq_getElem hl2, Option.map_some, Option.getD_some]
  rw [List.getD_eq_getElem?_getD, List.getElem?_eq_getElem hl2, Option.getD_some] at this
  rw [this, complB_eq _ b.1 b.2]
 rw [bt_strOfNums _ _ hl (by rw [e]; omega) (by rw [e]; omega), e]
theorem compl_iff (s : ByteArray) (h : s.size = 24) : (strOfNums ((bytesOf (s.extract 0 12)).map complB) = s.extract 12 s.size) ↔ ∀ i, i < 12 → bt s ((12 + i : Nat) : Int) = 255 - bt s ((i : Nat) : Int) := by
 have z1 : (s.extract 0 12).size = 12 := by rw [ByteArray.size_extract]; omega
 have z2 : (s.extract 12 s.size).size = 12 := by rw [ByteArray.size_extract]; omega
 constructor
 ·intro e i hi
  have e1 := compl_bt (s.extract 0 12) i (by omega)
  rw [e, bt_extract s 12 s.size i (by omega), bt_extract s 0 12 i (by omega), Nat.zero_add] at e1
  exact e1
 ·intro e
  apply bt_ext
  ·rw [strOfNums_size', List.length_map, bytesOf_length, z1, z2]
  ·intro i hi
   rw [strOfNums_size', List.length_map, bytesOf_length, z1] at hi
   rw [compl_bt _ _ (by omega), bt_extract s 12 s.size i (by omega), bt_extract s 0 12 i (by omega), Nat.zero_add, e i hi]
theorem in_eq (a b c : Int) : entry_in.f a b c = some (decide (b ≤ a ∧ a ≤ c)) := by
 unfold entry_in.f
 by_cases h1 : a ≥ b
 ·simp [h1, show b ≤ a from h1]
 ·simp [h1, show ¬ b ≤ a from h1]
theorem May_eq (q sl sz sm : Int) : entry_May.f q sl sz sm = some (recMay q sl sz sm) := by
 unfold entry_May.f entry_Slot.f entry_Size.f recMay
 simp only [in_eq, Option.bind_some]
 by_cases h1 : 1 ≤ q ∧ q ≤ 1048576
 ·by_cases h2 : 0 ≤ sl ∧ sl ≤ 1
  ·by_cases h3 : 1 ≤ sz ∧ sz ≤ 288
   ·simp [h1, h2, h3]
   ·rw [if_pos (by simpa using h1), if_pos (by simpa using h2), if_neg (by simpa using h3)]; congr 1; symm; rw [decide_eq_false_iff_not]; omega
  ·rw [if_pos (by simpa using h1), if_neg (by simpa using h2)]; congr 1; symm; rw [decide_eq_false_iff_not]; omega
 ·rw [if_neg (by simpa using h1)]; congr 1; symm; rw [decide_eq_false_iff_not]; omega
theorem Get_at (s : ByteArray) : entry_Get.f 7 s = some (getV s) := by
 unfold entry_Get.f
 by_cases h : s.size = 24
 ·rw [if_pos (by omega), if_pos (by omega), if_pos (by omega)]
  have z1 : (s.extract 0 12).size = 12 := by rw [ByteArray.size_extract]; omega
  have e0 : entry_complement.f (s.extract 0 12) = some (strOfNums ((bytesOf (s.extract 0 12)).map complB)) := by unfold entry_complement.f; rw [if_pos (by omega)]
  rw [e0, Option.bind_some, entry_Get.j0]
  by_cases hc : strOfNums ((bytesOf (s.extract 0 12)).map complB) = s.extract 12 s.size
  ·rw [hc, bne_self_eq_false, if_neg (by decide), if_pos (by omega), if_pos (by omega), num4_eq _ (by rw [ByteArray.size_extract]; omega), Option.bind_some, if_pos (by omega), if_pos (by omega), num2_eq _ (by rw [ByteArray.size_extract]; omega), Option.bind_some,
    if_pos (by omega), if_pos (by omega), num2_eq _ (by rw [ByteArray.size_extract]; omega), Option.bind_some, if_pos (by omega), if_pos (by omega), num4_eq _ (by rw [ByteArray.size_extract]; omega), Option.bind_some, May_eq, Option.bind_some]
   rw [n4_extract s 0 (by omega), n2_extract s 4 (by omega), n2_extract s 6 (by omega), n4_extract s 8 (by omega)]
   unfold getV
   by_cases hm : recMay (n4 s 0) (n2 s 4) (n2 s 6) (n4 s 8) = true
   ·rw [if_pos hm, if_pos ⟨h, (compl_iff s h).1 hc, hm⟩]
   ·rw [if_neg hm, if_neg (fun x => hm x.2.2)]
  ·have hb : (ByteArray.toList (strOfNums ((bytesOf (s.extract 0 12)).map complB)) != ByteArray.toList (s.extract 12 s.size)) = true := by
    rw [bne_iff_ne]; intro x; exact hc (toList_inj.1 x)
   rw [hb, if_pos rfl]
   unfold getV
   rw [if_neg (fun x => hc ((compl_iff s h).2 x.2.1))]
 ·rw [if_neg (by omega), entry_Get.j0, if_pos rfl]
  unfold getV
  rw [if_neg (fun x => h x.1)]
theorem Get_ev (s : ByteArray) : Ev (fun k => entry_Get.f k s) (getV s) := Ev.of (fun k => entry_Get.mono s k) (Get_at s)
theorem lb_n4 (s : ByteArray) (i : Nat) : lb (n4 s i) 0 = bt s (i : Int) ∧ lb (n4 s i) 1 = bt s ((i + 1 : Nat) : Int) ∧ lb (n4 s i) 2 = bt s ((i + 2 : Nat) : Int) ∧ lb (n4 s i) 3 = bt s ((i + 3 : Nat) : Int) := by
 have b0 := bt_u8 s (i : Int); have b1 := bt_u8 s ((i + 1 : Nat) : Int); have b2 := bt_u8 s ((i + 2 : Nat) : Int); have b3 := bt_u8 s ((i + 3 : Nat) : Int)
 unfold lb n4
 simp only [Nat.mul_zero, Nat.mul_one, show 8 * 2 = 16 from rfl, show 8 * 3 = 24 from rfl, show (2 : Int) ^ 0 = 1 from rfl, show (2 : Int) ^ 8 = 256 from rfl, show (2 : Int) ^ 16 = 65536 from rfl, show (2 : Int) ^ 24 = 16777216 from rfl]
 omega
theorem lb_n2 (s : ByteArray) (i : Nat) : lb (n2 s i) 0 = bt s (i : Int) ∧ lb (n2 s i) 1 = bt s ((i + 1 : Nat) : Int) := by
 have b0 := bt_u8 s (i : Int); have b1 := bt_u8 s ((i + 1 : Nat) : Int)
 unfold lb n2
 simp only [Nat.mul_zero, Nat.mul_one, show (2 : Int) ^ 0 = 1 from rfl, show (2 : Int) ^ 8 = 256 from rfl]
 omega
theorem ent_bt (q sl sz sm : Int) (i : Nat) (h : i < 12) : bt (ent q sl sz sm) ((i : Nat) : Int) = (entL q sl sz sm).getD i 0 ∧ bt (ent q sl sz sm) ((12 + i : Nat) : Int) = 255 - (entL q sl sz sm).getD i 0 := by
 have r : ∀ j, j < 12 → 0 ≤ (entL q sl sz sm).getD j 0 ∧ (entL q sl sz sm).getD j 0 < 256 := by
  intro j hj
  match j, hj with
  | 0, _ => exact lb_range _ _
  | 1, _ => exact lb_range _ _
  | 2, _ => exact lb_range _ _
  | 3, _ => exact lb_range _ _
  | 4, _ => exact lb_range _ _
  | 5, _ => exact ⟨Int.le_refl 0, (by decide : (0 : Int) < 256)⟩
  | 6, _ => exact lb_range _ _
  | 7, _ => exact lb_range _ _
  | 8, _ => exact lb_range _ _
  | 9, _ => exact lb_range _ _
  | 10, _ => exact lb_range _ _
  | 11, _ => exact lb_range _ _
 have hl : (entL q sl sz sm).length = 12 := rfl
 have e1 : (entL q sl sz sm ++ (entL q sl sz sm).map fun x => (255 - x) % 256).getD i 0 = (entL q sl sz sm).getD i 0 := by
  rw [List.getD_eq_getElem?_getD, List.getElem?_append_left (by omega), ← List.getD_eq_getElem?_getD]
 have e2 : (entL q sl sz sm ++ (entL q sl sz sm).map fun x => (255 - x) % 256).getD (12 + i) 0 = 255 - (entL q sl sz sm).getD i 0 := by
  have := r i h
  rw [List.getD_eq_getElem?_getD, List.getElem?_append_right (by omega), hl, show 12 + i - 12 = i by omega, List.getElem?_map]
  rw [List.getD_eq_getElem?_getD] at this ⊢
  rw [List.getElem?_eq_getElem (by omega)] at this ⊢
  simp only [Option.map_some, Option.getD_some] at this ⊢
  omega
 have := r i h
 unfold ent
 constructor
 ·rw [bt_strOfNums _ _ (by simp [hl]; omega) (by rw [e1]; omega) (by rw [e1]; omega), e1]
 ·rw [bt_strOfNums _ _ (by simp [hl]; omega) (by rw [e2]; omega) (by rw [e2]; omega), e2]
/-- The reference's way to say it: put again, it is the same. -/
theorem getOk_iff (s : ByteArray) (h : s.size = 24) : getOk s ↔ recMay (n4 s 0) (bt s ((4 : Nat) : Int)) (n2 s 6) (n4 s 8) = true ∧ ent (n4 s 0) (bt s ((4 : Nat) : Int)) (n2 s 6) (n4 s 8) = s := by
 have q0 := lb_n4 s 0; have q6 := lb_n2 s 6; have q8 := lb_n4 s 8
 have b4 := bt_u8 s ((4 : Nat) : Int); have b5 := bt_u8 s ((5 : Nat) : Int)
 have l4 : lb (bt s ((4 : Nat) : Int)) 0 = bt s ((4 : Nat) : Int) := by unfold lb; simp only [Nat.mul_zero, show (2 : Int) ^ 0 = 1 from rfl]; omega
 have e12 : entL (n4 s 0) (bt s ((4 : Nat) : Int)) (n2 s 6) (n4 s 8) = [bt s ((0 : Nat) : Int), bt s ((1 : Nat) : Int), bt s ((2 : Nat) : Int), bt s ((3 : Nat) : Int), bt s ((4 : Nat) : Int), 0, bt s ((6 : Nat) : Int), bt s ((7 : Nat) : Int), bt s ((8 : Nat) : Int), bt s ((9 : Nat) : Int), bt s ((10 : Nat) : Int), bt s ((11 : Nat) : Int)] := by
  unfold entL
  rw [q0.1, q0.2.1, q0.2.2.1, q0.2.2.2, q6.1, q6.2, q8.1, q8.2.1, q8.2.2.1, q8.2.2.2, l4]
 constructor
 ·rintro ⟨_, hc, hm⟩
  have z5 : bt s ((5 : Nat) : Int) = 0 := by
   unfold recMay at hm
   have := of_decide_eq_true hm
   have e : n2 s 4 = bt s ((4 : Nat) : Int) + 256 * bt s ((5 : Nat) : Int) := rfl
   omega
  have e2 : n2 s 4 = bt s ((4 : Nat) : Int) := by
   have e : n2 s 4 = bt s ((4 : Nat) : Int) + 256 * bt s ((5 : Nat) : Int) := rfl
   omega
  refine ⟨by rw [← e2]; exact hm, ?_⟩
  have low : ∀ j, j < 12 → (entL (n4 s 0) (bt s ((4 : Nat) : Int)) (n2 s 6) (n4 s 8)).getD j 0 = bt s ((j : Nat) : Int) := by
   intro j hj
   rw [e12]
   match j, hj with
   | 0, _ => rfl
   | 1, _ => rfl
   | 2, _ => rfl
   | 3, _ => rfl
   | 4, _ => rfl
   | 5, _ => exact z5.symm
   | 6, _ => rfl
   | 7, _ => rfl
   | 8, _ => rfl
   | 9, _ => rfl
   | 10, _ => rfl
   | 11, _ => rfl
  apply bt_ext
  ·rw [ent_size, h]
  ·intro i hi
   rw [ent_size] at hi
   by_cases c : i < 12
   ·rw [(ent_bt _ _ _ _ i c).1, low i c]
   ·obtain ⟨j, rfl⟩ : ∃ j, i = 12 + j := ⟨i - 12, by omega⟩
    rw [(ent_bt _ _ _ _ j (by omega)).2, low j (by omega), hc j (by omega)]
 ·rintro ⟨hm, he⟩
  have low : ∀ j, j < 12 → bt s ((j : Nat) : Int) = (entL (n4 s 0) (bt s ((4 : Nat) : Int)) (n2 s 6) (n4 s 8)).getD j 0 := by
   intro j hj
   have := (ent_bt (n4 s 0) (bt s ((4 : Nat) : Int)) (n2 s 6) (n4 s 8) j hj).1
   rw [he] at this
   exact this
  have z5 : bt s ((5 : Nat) : Int) = 0 := (low 5 (by omega)).trans (by rw [e12]; rfl)
  have e2 : n2 s 4 = bt s ((4 : Nat) : Int) := by
   have e : n2 s 4 = bt s ((4 : Nat) : Int) + 256 * bt s ((5 : Nat) : Int) := rfl
   omega
  refine ⟨h, fun i hi => ?_, by rw [e2]; exact hm⟩
  have := (ent_bt (n4 s 0) (bt s ((4 : Nat) : Int)) (n2 s 6) (n4 s 8) i hi).2
  rw [he] at this
  rw [this, low i hi]
theorem GetEntry_at (s : ByteArray) : skiffref1_GetEntry.f 6 s = some (getV s) := by
 unfold skiffref1_GetEntry.f
 by_cases h : s.size = 24
 ·rw [if_pos (by omega), if_pos (by omega), if_pos (by omega), of4_eq _ (by rw [ByteArray.size_extract]; omega), Option.bind_some, if_pos (by omega), if_pos (by omega), if_pos (by omega), of2_eq _ (by rw [ByteArray.size_extract]; omega), Option.bind_some,
   if_pos (by omega), if_pos (by omega), of4_eq _ (by rw [ByteArray.size_extract]; omega), Option.bind_some, PutEntry_at _ _ _ _ 6 rfl, Option.bind_some]
  rw [n4_extract s 0 (by omega), n2_extract s 6 (by omega), n4_extract s 8 (by omega)]
  have b4 := bt_u8 s ((4 : Nat) : Int)
  have w4 : wrap64 (bt s 4) = bt s ((4 : Nat) : Int) := by show wrap64 (bt s ((4 : Nat) : Int)) = _; unfold wrap64; omega
  rw [w4]
  unfold getV
  by_cases hm : recMay (n4 s 0) (bt s ((4 : Nat) : Int)) (n2 s 6) (n4 s 8) = true
  ·rw [if_pos hm, if_pos rfl]
   by_cases he : ent (n4 s 0) (bt s ((4 : Nat) : Int)) (n2 s 6) (n4 s 8) = s
   ·have ok := (getOk_iff s h).2 ⟨hm, he⟩
    have e2 : n2 s 4 = bt s ((4 : Nat) : Int) := by
     have e : n2 s 4 = bt s ((4 : Nat) : Int) + 256 * bt s ((5 : Nat) : Int) := rfl
     have hm2 := of_decide_eq_true ok.2.2
     have b5 := bt_u8 s ((5 : Nat) : Int)
     omega
    rw [if_pos (by rw [he]), if_pos ok, e2]
   ·rw [if_neg (fun x => he (toList_inj.1 x)), if_neg (fun x => he ((getOk_iff s h).1 x).2)]
  ·rw [if_neg hm, if_neg (by decide), if_neg (fun x => hm ((getOk_iff s h).1 x).1)]
 ·rw [if_neg (by omega)]
  unfold getV
  rw [if_neg (fun x => h x.1)]
theorem GetEntry_ev (s : ByteArray) : Ev (fun k => skiffref1_GetEntry.f k s) (getV s) := Ev.of (fun k => skiffref1_GetEntry.mono s k) (GetEntry_at s)
/-- A record that was put is found. -/
theorem getV_ent (q sl sz sm : Int) (h : recMay q sl sz sm = true) : getV (ent q sl sz sm) = (q, sl, sz, sm, 0) := by
 have hm := of_decide_eq_true h
 have lo : ∀ j, j < 12 → bt (ent q sl sz sm) ((j : Nat) : Int) = (entL q sl sz sm).getD j 0 := fun j hj => (ent_bt q sl sz sm j hj).1
 have e0 : n4 (ent q sl sz sm) 0 = q := by
  unfold n4
  rw [lo 0 (by omega), lo (0 + 1) (by omega), lo (0 + 2) (by omega), lo (0 + 3) (by omega)]
  show lb q 0 + 256 * lb q 1 + 65536 * lb q 2 + 16777216 * lb q 3 = q
  unfold lb
  simp only [Nat.mul_zero, Nat.mul_one, show 8 * 2 = 16 from rfl, show 8 * 3 = 24 from rfl, show (2 : Int) ^ 0 = 1 from rfl, show (2 : Int) ^ 8 = 256 from rfl, show (2 : Int) ^ 16 = 65536 from rfl, show (2 : Int) ^ 24 = 16777216 from rfl]
  omega
 have e8 : n4 (ent q sl sz sm) 8 = sm := by
  unfold n4
  rw [lo 8 (by omega), lo (8 + 1) (by omega), lo (8 + 2) (by omega), lo (8 + 3) (by omega)]
  show lb sm 0 + 256 * lb sm 1 + 65536 * lb sm 2 + 16777216 * lb sm 3 = sm
  unfold lb
  simp only [Nat.mul_zero, Nat.mul_one, show 8 * 2 = 16 from rfl, show 8 * 3 = 24 from rfl, show (2 : Int) ^ 0 = 1 from rfl, show (2 : Int) ^ 8 = 256 from rfl, show (2 : Int) ^ 16 = 65536 from rfl, show (2 : Int) ^ 24 = 16777216 from rfl]
  omega
 have e4 : n2 (ent q sl sz sm) 4 = sl := by
  unfold n2
  rw [lo 4 (by omega), lo (4 + 1) (by omega)]
  show lb sl 0 + 256 * 0 = sl
  unfold lb
  simp only [Nat.mul_zero, show (2 : Int) ^ 0 = 1 from rfl]
  omega
 have e6 : n2 (ent q sl sz sm) 6 = sz := by
  unfold n2
  rw [lo 6 (by omega), lo (6 + 1) (by omega)]
  show lb sz 0 + 256 * lb sz 1 = sz
  unfold lb
  simp only [Nat.mul_zero, Nat.mul_one, show (2 : Int) ^ 0 = 1 from rfl, show (2 : Int) ^ 8 = 256 from rfl]
  omega
 unfold getV
 have ok : getOk (ent q sl sz sm) := ⟨ent_size q sl sz sm, fun i hi => by rw [(ent_bt q sl sz sm i hi).2, lo i hi], by rw [e0, e4, e6, e8]; exact h⟩
 rw [if_pos ok, e0, e4, e6, e8]
end Go.Proofs.Ytjihlabmddfjhaa.M

/- Plain facts: what a step of flash makes of it, cut or whole, by the program and by the reference; no memory in sight. -/
set_option linter.unnecessarySimpa false
set_option linter.unusedSimpArgs false
set_option linter.unusedVariables false
namespace Go.Proofs.Ytjihlabmddfjhaa.M
open Go.RowKit Go.Proofs.YtjihlabmddfjhaaW.PrintWords Go.Proofs.YtjihlabmddfjhaaW.PrintLast Go.Proofs.YtjihlabmddfjhaaW.PrintMore Go.Proofs.Ytjihlabmddfjhaa.Hand Go.Proofs.Ytjihlabmddfjhaa.PAll
/-- As much of a step as is told. -/
def doF (f : ByteArray) (e : Bool) (a : Int) (t : ByteArray) (cut : Int) : ByteArray := if e = true then wornF f (a.toNat / 96) cut.toNat else tornF f a.toNat t (mn cut 32)
def cutOk (f : ByteArray) (e : Bool) (a : Int) (t : ByteArray) (cut : Int) : Prop := f.size = 768 ∧ opMay e a t = true ∧ 0 ≤ cut ∧ cut ≤ 96
instance (f : ByteArray) (e : Bool) (a : Int) (t : ByteArray) (cut : Int) : Decidable (cutOk f e a t cut) := by unfold cutOk; exact inferInstance
def cutV (f : ByteArray) (e : Bool) (a : Int) (t : ByteArray) (cut : Int) : ByteArray × Int := if cutOk f e a t cut then (doF f e a t cut, 0) else (⟨#[]⟩, 300)
theorem opMay_true {a : Int} {t : ByteArray} (h : opMay true a t = true) : 0 ≤ a ∧ a ≤ 672 ∧ a % 96 = 0 ∧ t.size = 0 := by
 unfold opMay at h; rw [if_pos rfl] at h; exact of_decide_eq_true h
theorem opMay_false {a : Int} {t : ByteArray} (h : opMay false a t = true) : 0 ≤ a ∧ a ≤ 764 ∧ a % 4 = 0 ∧ t.size = 4 := by
 unfold opMay at h; rw [if_neg (by decide)] at h; exact of_decide_eq_true h
theorem mn32 (cut : Int) (h0 : 0 ≤ cut) : 0 ≤ mn cut 32 ∧ mn cut 32 ≤ 32 := by unfold mn; split <;> omega
theorem ref_Torn_eq (f : ByteArray) (a : Int) (t : ByteArray) (m : Int) (hf : f.size = 768) (ha : 0 ≤ a ∧ a ≤ 764 ∧ a % 4 = 0 ∧ t.size = 4) (h0 : 0 ≤ m) (h1 : m ≤ 32) : skiffref1_Torn.f f a t m = some (tornF f a.toNat t m, 0) := by
 unfold skiffref1_Torn.f
 rw [if_pos (by omega), if_pos (by omega), if_pos (by omega), if_pos (by rw [Int.tmod_eq_emod_of_nonneg ha.1]; exact ha.2.2.1), if_pos (by omega), if_pos (by omega), if_pos (by omega), rtornF_eq f a.toNat t m (by omega) h0 h1]
theorem ref_Cut_no (f : ByteArray) (e : Bool) (a : Int) (t : ByteArray) (cut : Int) : Ev (fun k => skiffref1_Cut.j0 k f cut true e a t) (⟨#[]⟩, 300) :=
 Ev.one fun k => by simp only [skiffref1_Cut.j0, if_true]
theorem ref_Cut_ev (f : ByteArray) (e : Bool) (a : Int) (t : ByteArray) (cut : Int) : Ev (fun k => skiffref1_Cut.f k f e a t cut) (cutV f e a t cut) := by
 unfold skiffref1_Cut.f skiffref1_FlashMay.f
 simp only [Option.bind_some, ref_OpMay_eq e a t, upTo_eq]
 by_cases h1 : f.size = 768
 ·have e1 : ((f.size : Int) == 768) = true := by simp; omega
  simp only [e1, if_true]
  cases h2 : opMay e a t with
  | false =>
   simp only [Bool.false_eq_true, if_false]
   unfold cutV
   rw [if_neg (by unfold cutOk; rw [h2]; simp)]
   exact ref_Cut_no f e a t cut
  | true =>
   simp only [if_true]
   by_cases h4 : 0 ≤ cut ∧ cut ≤ 96
   ·have e4 : decide (0 ≤ cut ∧ cut ≤ 96) = true := by simpa using h4
    simp only [e4, Bool.not_true]
    unfold cutV
    rw [if_pos ⟨h1, h2, h4.1, h4.2⟩]
    cases e with
    | true =>
     obtain ⟨m0, m1, m2, m3⟩ := opMay_true h2
     have hw : wrap64 (Int.tdiv a 96) = a / 96 := by rw [Int.tdiv_eq_ediv_of_nonneg m0]; exact wrap_id (by omega)
     refine Ev.step (f := fun k => (skiffref1_Worn.f k f (a / 96) cut).bind fun bt345 => (some (bt345.1, bt345.2))) (fun k => by simp only [skiffref1_Cut.j0, Bool.false_eq_true, if_false, if_true, hw]) ?_
     refine Ev.bind (ref_Worn_ev f (a / 96) cut h1 (by omega) (by omega) h4.1 h4.2) (Ev.always fun k => ?_)
     unfold doF
     rw [if_pos rfl, show (a / 96).toNat = a.toNat / 96 by omega]
    | false =>
     have hm := opMay_false h2
     have hc := mn32 cut h4.1
     refine Ev.one fun k => ?_
     simp only [skiffref1_Cut.j0, Bool.false_eq_true, if_false]
     rw [ref_Torn_eq f a t (mn cut 32) h1 hm hc.1 hc.2]
     rfl
   ·have e4 : decide (0 ≤ cut ∧ cut ≤ 96) = false := decide_eq_false h4
    simp only [e4, Bool.not_false]
    unfold cutV
    rw [if_neg (by unfold cutOk; omega)]
    exact ref_Cut_no f e a t cut
 ·have e1 : ((f.size : Int) == 768) = false := by simp; omega
  simp only [e1, Bool.false_eq_true, if_false]
  unfold cutV
  rw [if_neg (by unfold cutOk; omega)]
  exact ref_Cut_no f e a t cut
theorem ref_Do_ev (f : ByteArray) (e : Bool) (a : Int) (t : ByteArray) : Ev (fun k => skiffref1_Do.f k f e a t) (cutV f e a t 96) := by
 unfold skiffref1_Do.f
 exact Ev.bind (ref_Cut_ev f e a t 96) (Ev.always fun k => rfl)
theorem Blank_ev : Ev (fun k => skiffref1_Blank.f k) (ff 768) := by
 unfold skiffref1_Blank.f
 exact Ev.bind (full_ev 768 (by omega) (by omega)) (Ev.always fun k => rfl)
/-- Which bytes a step reaches. -/
def width (e : Bool) : Nat := if e = true then 96 else 4
end Go.Proofs.Ytjihlabmddfjhaa.M

-- Written by this session's own program (wip/tools/myprint.py), which runs the kit's print over functions proved by hand.
namespace Go.Proofs.Ytjihlabmddfjhaa.PAll
open Go.RowKit Go.Proofs.YtjihlabmddfjhaaW.PrintWords Go.Proofs.YtjihlabmddfjhaaW.PrintLast Go.Proofs.YtjihlabmddfjhaaW.PrintMore
attribute [local go_sem] max2_int min2_int max_two min_two max_three min_three max_four min_four   -- for this text's walks alone
set_option linter.unusedVariables false
set_option linter.unusedSimpArgs false
mutual
def skiffref1_Scan.l0 : Nat → ByteArray → List (S59) → Int → Option ((List (S59)) × Int)
 | 0, _, _, _ => none
 | k + 1, x0, x4, x5 => if x5 < 2 then (skiffref1_Scan.l1 k x0 x4 x5 (wrap64 (x5 * 96))) else (some (x4, 0))
def skiffref1_Scan.l1 : Nat → ByteArray → List (S59) → Int → Int → Option ((List (S59)) × Int)
 | 0, _, _, _, _ => none
 | k + 1, x0, x4, x5, x6 => if (wrap64 (x6 + 24)) ≤ (wrap64 ((wrap64 (x5 + 1)) * 96)) then (if 0 ≤ x6 then (if x6 ≤ (wrap64 (x6 + 24)) then (if (wrap64 (x6 + 24)) ≤ (x0.size : Int) then ((skiffref1_GetEntry.f k (x0.extract (x6 : Int).toNat ((wrap64 (x6 + 24)) : Int).toNat)).bind fun bt361 => (if bt361.2.2.2.2 = 0 then (if x4.length < 3518437208883 then (skiffref1_Scan.l1 k x0 (x4 ++ [(⟨x6, (⟨bt361.1, bt361.2.1, bt361.2.2.1, bt361.2.2.2.1⟩ : S25)⟩ : S59)]) x5 (wrap64 (x6 + 24))) else (none)) else (skiffref1_Scan.l1 k x0 x4 x5 (wrap64 (x6 + 24))))) else (none)) else (none)) else (none)) else (skiffref1_Scan.l0 k x0 x4 (wrap64 (x5 + 1)))
end
def skiffref1_Scan.f (k : Nat) (a0 : ByteArray) : Option ((List (S59)) × Int) := (skiffref1_FlashMay.f a0).bind fun t360 => (if t360 = true then (skiffref1_Scan.l0 k a0 ([] : List (S59)) 0) else (some (([] : List (S59)), 500)))
set_option maxHeartbeats 8000000 in
set_option maxRecDepth 100000 in
theorem skiffref1_Scan.calls (k : Nat) (a0 : ByteArray) (r1 : List (S59)) (r2 : Int) (w : World) (h : skiffref1_Scan.f k a0 = some (r1, r2)) :
  Calls Try.prog 77 #[.string a0] w fun e w' => ∃ v0_ : Value, e = .returned (.tuple #[v0_, .int .i64 r2]) ∧ Kd.R k59 59 w' w.heap.size (fun _ => True) v0_ r1 ∧ Below w.heap.size w w' := by
 have hu25 := Try.underlying25
 have hu59 := Try.underlying59
 have HB := Aside0.mk (Below.refl w.heap.size w)
 have H : ((skiffref1_FlashMay.f a0).bind fun t360 => (if t360 = true then (skiffref1_Scan.l0 k a0 ([] : List (S59)) 0) else (some (([] : List (S59)), 500)))) = some (r1, r2) := h
 clear h
 replace H := Option.bind_eq_some_iff.mp H
 obtain ⟨t360, A20, H⟩ := H
 replace H : (if t360 = true then (skiffref1_Scan.l0 k a0 ([] : List (S59)) 0) else (some (([] : List (S59)), 500))) = some (r1, r2) := H
 have A2 := Aside0.mk A20
 clear A20
 by_cases c3 : t360 = true
 ·subst c3
  have H1 : (skiffref1_Scan.l0 k a0 ([] : List (S59)) 0) = some (r1, r2) := by rw [if_pos rfl] at H; exact H
  clear H
  have H := H1
  clear H1
  have H' := Aside0.mk H
  clear H
  go_enter Try.func77, Try.ntmps77
  go_wp2_with (first | ((with_reducible refine gate_callee (f := 48) rfl ?_); refine goesL_ (some 10) rfl rfl Try.func48 (by kernel_rfl) rfl #[.string a0] rfl q1_ ?_; (with_reducible refine (skiffref1_FlashMay.calls a0 true _ A2.out).mono ?_); rintro e w' ⟨rfl, ⟨nd, rfl⟩⟩; refine ⟨_, rfl, ?_⟩))
  go_loopg [4, 5] k (fun kq v4 v5 w' => ∃ (x4_1 : List (S59)) (x5_1 : Int), v5 = .int .i64 x5_1 ∧ Aside0 (skiffref1_Scan.l0 kq a0 x4_1 x5_1 = some (r1, r2)) ∧ Aside0 (kq ≤ k) ∧ Aside0 (Kd.R k59 59 w' w.heap.size (fun _ => True) v4 x4_1) ∧ Aside0 (Below w.heap.size w w'))
  case atStart => exact ⟨(([] : List (S59))), (0), q4_, H', ⟨Nat.le_refl _⟩, ⟨by first | exact Kd.R_nil _ _ _ _ _ | exact Kd.N_nil _ _ _ _ _ | exact Kd.V_nil _ _ _ _ _ | exact Kd.Q_nil _ _ _ _ _ | exact Kd.S_nil _ _ _ _ _⟩, ⟨by repeat (first | (with_reducible first | exact HB.out | apply below_alloc | apply pw_below_drewN | apply below_drew1) | exact HB.out)⟩⟩
  case round =>
   clear H'
   try clear p2
   try clear c3
   obtain ⟨x4_1, x5_1, rfl, HA, HK1, HO_4, HB⟩ := hrel
   cases gk with
   | zero => exact absurd HA.out (by simp [skiffref1_Scan.l0])
   | succ k1 =>
    have H := HA.out
    clear HA
    simp only [skiffref1_Scan.l0] at H
    by_cases c4 : x5_1 < 2
    ·rw [if_pos c4] at H
     have c4b0 : decide (x5_1 < 2) = true := decide_eq_true c4
     clear c4
     have H' := Aside0.mk H
     clear H
     go_wp2
     go_loopg [4, 6] k1 (fun kq v4 v6 w' => ∃ (x4_2 : List (S59)) (x6_2 : Int), v6 = .int .i64 x6_2 ∧ Aside0 (skiffref1_Scan.l1 kq a0 x4_2 x5_1 x6_2 = some (r1, r2)) ∧ Aside0 (kq ≤ k1) ∧ Aside0 (Kd.R k59 59 w' w.heap.size (fun _ => True) v4 x4_2) ∧ Aside0 (Below w.heap.size w w'))
     case atStart => exact ⟨(x4_1), (wrap64 (x5_1 * 96)), q4_, H', ⟨Nat.le_refl _⟩, ⟨by (with_reducible repeat (first | apply Kd.R_alloc | apply Kd.R_drewN | apply Kd.R_drew)); exact HO_4.out⟩, ⟨by repeat (first | (with_reducible first | exact HB.out | apply below_alloc | apply pw_below_drewN | apply below_drew1) | exact HB.out)⟩⟩
     case round =>
      clear H'
      try clear p2
      try clear c3
      try clear c4
      try clear c4b0
      try clear p2
      obtain ⟨x4_2, x6_2, rfl, HA, HK2, HO_4, HB⟩ := hrel
      cases gk with
      | zero => exact absurd HA.out (by simp [skiffref1_Scan.l1])
      | succ k2 =>
       have H := HA.out
       clear HA
       simp only [skiffref1_Scan.l1] at H
       by_cases c5 : (wrap64 (x6_2 + 24)) ≤ (wrap64 ((wrap64 (x5_1 + 1)) * 96))
       ·rw [if_pos c5] at H
        have c5b0 : decide ((wrap64 (x6_2 + 24)) ≤ (wrap64 ((wrap64 (x5_1 + 1)) * 96))) = true := decide_eq_true c5
        clear c5
        by_cases c6 : 0 ≤ x6_2
        ·rw [if_pos c6] at H
         have c6b0 := eq_true c6
         have c6b1 : decide (0 ≤ x6_2) = true := decide_eq_true c6
         clear c6
         by_cases c7 : x6_2 ≤ (wrap64 (x6_2 + 24))
         ·rw [if_pos c7] at H
          have c7b0 := eq_true c7
          have c7b1 : decide (x6_2 ≤ (wrap64 (x6_2 + 24))) = true := decide_eq_true c7
          by_cases c8 : (wrap64 (x6_2 + 24)) ≤ (a0.size : Int)
          ·rw [if_pos c8] at H
           have c8b0 := eq_true c8
           have c8b1 : decide ((wrap64 (x6_2 + 24)) ≤ (a0.size : Int)) = true := decide_eq_true c8
           replace H := Option.bind_eq_some_iff.mp H
           obtain ⟨⟨t361, t362, t363, t364, t365⟩, A90, H⟩ := H
           replace H : (if t365 = 0 then (if x4_2.length < 3518437208883 then (skiffref1_Scan.l1 k2 a0 (x4_2 ++ [(⟨x6_2, (⟨t361, t362, t363, t364⟩ : S25)⟩ : S59)]) x5_1 (wrap64 (x6_2 + 24))) else (none)) else (skiffref1_Scan.l1 k2 a0 x4_2 x5_1 (wrap64 (x6_2 + 24)))) = some (r1, r2) := H
           have A9 := Aside0.mk A90
           clear A90
           by_cases c10 : t365 = 0
           ·rw [if_pos c10] at H
            have c10b0 : (t365 == 0) = true := beq_iff_eq.mpr c10
            have c10b1 : (t365 != 0) = false := bne_eq_false_iff_eq.mpr c10
            clear c10
            by_cases c11 : x4_2.length < 3518437208883
            ·rw [if_pos c11] at H
             have LMc11 := Aside0.mk c11
             clear c11
             obtain ⟨y367, hy367⟩ : ∃ y_ : List (S59), y_ = (x4_2 ++ [(⟨x6_2, (⟨t361, t362, t363, t364⟩ : S25)⟩ : S59)]) := ⟨_, rfl⟩
             replace H : (skiffref1_Scan.l1 k2 a0 y367 x5_1 (wrap64 (x6_2 + 24))) = some (r1, r2) := by first | (rw [hy367]; with_reducible exact H) | (have H2_ := (Option.bind_some _ _).symm.trans H; rw [hy367]; with_reducible exact H2_) | (have H2_ := (Option.bind_some _ _).symm.trans H; with_reducible exact H2_) | with_reducible exact H | (rw [hy367]; exact H) | exact H
             have Ny367 := Aside0.mk hy367
             clear hy367
             have H' := Aside0.mk H
             clear H
             go_wp2_with (first | ((with_reducible refine gate_callee (f := 84) rfl ?_); refine goesL_ (some 32) rfl rfl Try.func84 (by kernel_rfl) rfl #[.string (a0.extract (x6_2 : Int).toNat ((wrap64 (x6_2 + 24)) : Int).toNat)] rfl q1_ ?_; (with_reducible refine (skiffref1_GetEntry.calls k2 (a0.extract (x6_2 : Int).toNat ((wrap64 (x6_2 + 24)) : Int).toNat) t361 t362 t363 t364 t365 _ A9.out).mono ?_); rintro e w12 ⟨rfl, hb⟩; refine ⟨_, rfl, ?_⟩; have n0_ := Aside0.mk (Kd.R_below q6_ hb); have n1_ := Aside0.mk (below_step q2_ hb); clear HO_4; clear HB; have HO_4 := n0_; have HB := n1_; clear n0_ n1_; (try clear hb); (try clear hb2); (try clear hk); (try clear hi)) | ((with_reducible refine gate_dst (N := 7) rfl ?_); refine box_event ?hg (N := 7) ?hd (cs := #[.int .i64 0, .int .i64 0, .int .i64 0, .int .i64 0]) (t := 25) ?hr ?_; (case hd => rfl); (case hg => rfl); (case hr => first | (go_simp; done) | (go_simp; rfl)); intro gb366 hg w13 hbox hb; have n0_ := Aside0.mk (Kd.R_below q6_ hb); have n1_ := Aside0.mk (below_step q2_ hb); have n2_ := Aside0.mk (hbox); have n3_ := Aside0.mk ((by rw [hg]; exact (below_size q2_) : w.heap.size ≤ gb366)); have n4_ := Aside0.mk ((by rw [hg]; exact (below_size q2_) : w.heap.size ≤ gb366)); clear HO_4; clear HB; have HO_4 := n0_; have HB := n1_; have BK366 := n2_; have GW366 := n3_; have GE366 := n4_; clear n0_ n1_ n2_ n3_ n4_; clear hb hbox hg; have hcz14_0 : w13.cell? ⟨gb366, 0, none⟩ = some (.int .i64 0) := (blk_cell BK366.out 0).trans rfl; have hcz14_1 : w13.cell? ⟨gb366, 1, none⟩ = some (.int .i64 0) := (blk_cell BK366.out 1).trans rfl; have hcz14_2 : w13.cell? ⟨gb366, 2, none⟩ = some (.int .i64 0) := (blk_cell BK366.out 2).trans rfl; have hcz14_3 : w13.cell? ⟨gb366, 3, none⟩ = some (.int .i64 0) := (blk_cell BK366.out 3).trans rfl; have hfz14_0 := blk_frozen BK366.out 0; have hfz14_1 := blk_frozen BK366.out 1; have hfz14_2 := blk_frozen BK366.out 2; have hfz14_3 := blk_frozen BK366.out 3) | ((with_reducible refine gate_builtin (b := .append) (xs := #[.tmp 37, .tmp 41]) rfl ?_); at_builtin; refine Kd.R_append k59 (w0 := w) w.heap.size rfl (.tmp 37) (.tmp 41) 56 59 (.agg #[(.int .i64 0), (.int .i64 0), (.int .i64 0), (.int .i64 0), (.int .i64 0)]) 40 rfl Try.underlying56 info59 rfl (by decide) (by omega) u4 x4_2 (⟨x6_2, (⟨t361, t362, t363, t364⟩ : S25)⟩ : S59) [.int .i64 x6_2, .int .i64 t361, .int .i64 t362, .int .i64 t363, .int .i64 t364] (fun _ => True) (fun _ => False) rfl (by first | (go_simp; done) | (go_simp; rfl)) ?aP (fun _ hk => hk.elim) ?aF ?aO ?aB ?aS ?aL ?_; (case aP => exact k59_mkM _ _ _ (⟨x6_2, (⟨t361, t362, t363, t364⟩ : S25)⟩ : S59)); (case aB => exact (by repeat (first | (with_reducible first | exact HB.out | apply below_alloc | apply pw_below_drewN | apply below_drew1 | refine below_set ?_ GE366.out) | exact HB.out))); (case aF => exact (fun _ _ => trivial)); (case aO => exact (by (with_reducible repeat (first | apply Kd.R_alloc | apply Kd.R_drewN | apply Kd.R_drew)); exact Kd.R_mono (Kd.R_far (p := ⟨gb366, 3, none⟩) (Kd.R_far (p := ⟨gb366, 2, none⟩) (Kd.R_far (p := ⟨gb366, 1, none⟩) (Kd.R_far (p := ⟨gb366, 0, none⟩) (Kd.R_types HO_4.out BK366.out (by decide)) (fun _ hk => hk.2) (.int .i64 t361)) (fun _ hk => hk.2) (.int .i64 t362)) (fun _ hk => hk.2) (.int .i64 t363)) (fun _ hk => hk.2) (.int .i64 t364)) (fun _ hk => trivial))); (case aS => exact (below_size (by repeat (first | (with_reducible first | exact HB.out | apply below_alloc | apply pw_below_drewN | apply below_drew1 | refine below_set ?_ GE366.out) | exact HB.out)))); (case aL => have := LMc11.out; omega); intro v368 w15 ho hb hg hat; rw [← Ny367.out] at ho; have n0_ := Aside0.mk (blk_grown (g := gb366) (o := .cells #[.int .i64 t361, .int .i64 t362, .int .i64 t363, .int .i64 t364] 25 (0, 0)) (by (with_reducible repeat (first | refine blk_drewN ?_ _ | refine blk_drew ?_ | refine blk_alloc ?_ _)); refine blk_put (cs := #[.int .i64 t361, .int .i64 t362, .int .i64 t363, .int .i64 0]) ?_ 3 _ rfl; (with_reducible repeat (first | refine blk_drewN ?_ _ | refine blk_drew ?_ | refine blk_alloc ?_ _)); refine blk_put (cs := #[.int .i64 t361, .int .i64 t362, .int .i64 0, .int .i64 0]) ?_ 2 _ rfl; (with_reducible repeat (first | refine blk_drewN ?_ _ | refine blk_drew ?_ | refine blk_alloc ?_ _)); refine blk_put (cs := #[.int .i64 t361, .int .i64 0, .int .i64 0, .int .i64 0]) ?_ 1 _ rfl; (with_reducible repeat (first | refine blk_drewN ?_ _ | refine blk_drew ?_ | refine blk_alloc ?_ _)); refine blk_put (cs := #[.int .i64 0, .int .i64 0, .int .i64 0, .int .i64 0]) ?_ 0 _ rfl; (with_reducible repeat (first | refine blk_drewN ?_ _ | refine blk_drew ?_ | refine blk_alloc ?_ _)); exact BK366.out) hg (Kd.R_ne HO_4.out BK366.out (by decide))); have n1_ := Aside0.mk (hb); have n2_ := Aside0.mk (ho); clear BK366; clear HB; clear HO_4; have BK366 := n0_; have HB := n1_; have HO369 := n2_; clear n0_ n1_ n2_; clear ho hb hg hat))
             go_roundg k2
             case measure => have := HK1.out; have := HK2.out; omega
             case rel => exact ⟨(y367), (wrap64 (x6_2 + 24)), q4_, H', ⟨by have := HK1.out; have := HK2.out; omega⟩, ⟨by (with_reducible repeat (first | apply Kd.R_alloc | apply Kd.R_drewN | apply Kd.R_drew)); exact HO369.out⟩, ⟨by repeat (first | (with_reducible first | exact HB.out | apply below_alloc | apply pw_below_drewN | apply below_drew1 | refine below_set ?_ GE366.out) | exact HB.out)⟩⟩
            ·rw [if_neg c11] at H
             exact absurd H (by simp)
           ·rw [if_neg c10] at H
            have c10b0 : (t365 == 0) = false := beq_eq_false_iff_ne.mpr c10
            have c10b1 : (t365 != 0) = true := bne_iff_ne.mpr c10
            have H' := Aside0.mk H
            clear H
            go_wp2_with (first | ((with_reducible refine gate_callee (f := 84) rfl ?_); refine goesL_ (some 32) rfl rfl Try.func84 (by kernel_rfl) rfl #[.string (a0.extract (x6_2 : Int).toNat ((wrap64 (x6_2 + 24)) : Int).toNat)] rfl q1_ ?_; (with_reducible refine (skiffref1_GetEntry.calls k2 (a0.extract (x6_2 : Int).toNat ((wrap64 (x6_2 + 24)) : Int).toNat) t361 t362 t363 t364 t365 _ A9.out).mono ?_); rintro e w16 ⟨rfl, hb⟩; refine ⟨_, rfl, ?_⟩; have n0_ := Aside0.mk (Kd.R_below q6_ hb); have n1_ := Aside0.mk (below_step q2_ hb); clear HO_4; clear HB; have HO_4 := n0_; have HB := n1_; clear n0_ n1_; (try clear hb); (try clear hb2); (try clear hk); (try clear hi)) | ((with_reducible refine gate_dst (N := 7) rfl ?_); refine box_event ?hg (N := 7) ?hd (cs := #[.int .i64 0, .int .i64 0, .int .i64 0, .int .i64 0]) (t := 25) ?hr ?_; (case hd => rfl); (case hg => rfl); (case hr => first | (go_simp; done) | (go_simp; rfl)); intro gb366 hg w17 hbox hb; have n0_ := Aside0.mk (Kd.R_below q6_ hb); have n1_ := Aside0.mk (below_step q2_ hb); have n2_ := Aside0.mk (hbox); have n3_ := Aside0.mk ((by rw [hg]; exact (below_size q2_) : w.heap.size ≤ gb366)); have n4_ := Aside0.mk ((by rw [hg]; exact (below_size q2_) : w.heap.size ≤ gb366)); clear HO_4; clear HB; have HO_4 := n0_; have HB := n1_; have BK366 := n2_; have GW366 := n3_; have GE366 := n4_; clear n0_ n1_ n2_ n3_ n4_; clear hb hbox hg; have hcz18_0 : w17.cell? ⟨gb366, 0, none⟩ = some (.int .i64 0) := (blk_cell BK366.out 0).trans rfl; have hcz18_1 : w17.cell? ⟨gb366, 1, none⟩ = some (.int .i64 0) := (blk_cell BK366.out 1).trans rfl; have hcz18_2 : w17.cell? ⟨gb366, 2, none⟩ = some (.int .i64 0) := (blk_cell BK366.out 2).trans rfl; have hcz18_3 : w17.cell? ⟨gb366, 3, none⟩ = some (.int .i64 0) := (blk_cell BK366.out 3).trans rfl; have hfz18_0 := blk_frozen BK366.out 0; have hfz18_1 := blk_frozen BK366.out 1; have hfz18_2 := blk_frozen BK366.out 2; have hfz18_3 := blk_frozen BK366.out 3))
            go_roundg k2
            case measure => have := HK1.out; have := HK2.out; omega
            case rel => exact ⟨(x4_2), (wrap64 (x6_2 + 24)), q4_, H', ⟨by have := HK1.out; have := HK2.out; omega⟩, ⟨by (with_reducible repeat (first | apply Kd.R_alloc | apply Kd.R_drewN | apply Kd.R_drew)); exact Kd.R_mono (Kd.R_far (p := ⟨gb366, 3, none⟩) (Kd.R_far (p := ⟨gb366, 2, none⟩) (Kd.R_far (p := ⟨gb366, 1, none⟩) (Kd.R_far (p := ⟨gb366, 0, none⟩) (Kd.R_types HO_4.out BK366.out (by decide)) (fun _ hk => hk.2) (.int .i64 t361)) (fun _ hk => hk.2) (.int .i64 t362)) (fun _ hk => hk.2) (.int .i64 t363)) (fun _ hk => hk.2) (.int .i64 t364)) (fun _ hk => trivial)⟩, ⟨by repeat (first | (with_reducible first | exact HB.out | apply below_alloc | apply pw_below_drewN | apply below_drew1 | refine below_set ?_ GE366.out) | exact HB.out)⟩⟩
          ·rw [if_neg c8] at H
           exact absurd H (by simp)
         ·rw [if_neg c7] at H
          exact absurd H (by simp)
        ·rw [if_neg c6] at H
         exact absurd H (by simp)
       ·rw [if_neg c5] at H
        have c5b0 : decide ((wrap64 (x6_2 + 24)) ≤ (wrap64 ((wrap64 (x5_1 + 1)) * 96))) = false := decide_eq_false c5
        clear c5
        have H' := Aside0.mk H
        clear H
        go_wp2
        go_roundg k2
        case measure => have := HK1.out; have := HK2.out; omega
        case rel => exact ⟨(x4_2), (wrap64 (x5_1 + 1)), q4_, H', ⟨by have := HK1.out; have := HK2.out; omega⟩, ⟨by (with_reducible repeat (first | apply Kd.R_alloc | apply Kd.R_drewN | apply Kd.R_drew)); exact HO_4.out⟩, ⟨by repeat (first | (with_reducible first | exact HB.out | apply below_alloc | apply pw_below_drewN | apply below_drew1) | exact HB.out)⟩⟩
    ·rw [if_neg c4] at H
     have c4b0 : decide (x5_1 < 2) = false := decide_eq_false c4
     clear c4
     simp only [Option.some.injEq, Prod.mk.injEq] at H
     obtain ⟨rfl, rfl⟩ := H
     go_wp2
     go_ret2
     exact ⟨_, by first | rfl | (simp [errW_none, errW_some] <;> rfl) | (simp [*, errW_none, errW_some] <;> rfl), by (with_reducible repeat (first | apply Kd.R_alloc | apply Kd.R_drewN | apply Kd.R_drew)); exact HO_4.out, by repeat (first | (with_reducible first | exact HB.out | apply below_alloc | apply pw_below_drewN | apply below_drew1) | exact HB.out)⟩
 ·replace c3 := Bool.eq_false_iff.mpr c3
  subst c3
  have H1 : (some (([] : List (S59)), 500)) = some (r1, r2) := by rw [if_neg (show ¬ (false = true) by decide)] at H; exact H
  clear H
  have H := H1
  clear H1
  simp only [Option.some.injEq, Prod.mk.injEq] at H
  obtain ⟨rfl, rfl⟩ := H
  go_enter Try.func77, Try.ntmps77
  go_wp2_with (first | ((with_reducible refine gate_callee (f := 48) rfl ?_); refine goesL_ (some 10) rfl rfl Try.func48 (by kernel_rfl) rfl #[.string a0] rfl q1_ ?_; (with_reducible refine (skiffref1_FlashMay.calls a0 false _ A2.out).mono ?_); rintro e w' ⟨rfl, ⟨nd, rfl⟩⟩; refine ⟨_, rfl, ?_⟩))
  go_ret2
  exact ⟨_, by first | rfl | (simp [errW_none, errW_some] <;> rfl) | (simp [*, errW_none, errW_some] <;> rfl), by first | exact Kd.R_nil _ _ _ _ _ | exact Kd.N_nil _ _ _ _ _ | exact Kd.V_nil _ _ _ _ _ | exact Kd.Q_nil _ _ _ _ _ | exact Kd.S_nil _ _ _ _ _, by repeat (first | (with_reducible first | exact HB.out | apply below_alloc | apply pw_below_drewN | apply below_drew1) | exact HB.out)⟩
def skiffref1_NextSeq.l0 : Nat → List (S59) → Int → Int → Option (Int × Int)
 | 0, _, _, _ => none
 | k + 1, x4, x6, x7 => if x7 < (x4.length : Int) then (if 0 ≤ x7 then (skiffref1_NextSeq.l0 k x4 (mx x6 ((rd_T59 x4 x7).f1.f0)) (wrap64 (x7 + 1))) else (none)) else (if x6 = 1048576 then (some (0, 801)) else (some (wrap64 (x6 + 1), 0)))
def skiffref1_NextSeq.f (k : Nat) (a0 : ByteArray) : Option (Int × Int) := (skiffref1_Scan.f k a0).bind fun bt370 => (if bt370.2 = 0 then (skiffref1_NextSeq.l0 k bt370.1 0 0) else (some (0, 800)))
set_option maxHeartbeats 8000000 in
set_option maxRecDepth 100000 in
theorem skiffref1_NextSeq.calls (k : Nat) (a0 : ByteArray) (r1 : Int) (r2 : Int) (w : World) (h : skiffref1_NextSeq.f k a0 = some (r1, r2)) :
  Calls Try.prog 63 #[.string a0] w fun e w' => e = .returned (.tuple #[.int .i64 r1, .int .i64 r2]) ∧ Below w.heap.size w w' := by
 have HB := Aside0.mk (Below.refl w.heap.size w)
 have H : ((skiffref1_Scan.f k a0).bind fun bt370 => (if bt370.2 = 0 then (skiffref1_NextSeq.l0 k bt370.1 0 0) else (some (0, 800)))) = some (r1, r2) := h
 clear h
 replace H := Option.bind_eq_some_iff.mp H
 obtain ⟨⟨t370, t371⟩, A20, H⟩ := H
 replace H : (if t371 = 0 then (skiffref1_NextSeq.l0 k t370 0 0) else (some (0, 800))) = some (r1, r2) := H
 have A2 := Aside0.mk A20
 clear A20
 by_cases c3 : t371 = 0
 ·rw [if_pos c3] at H
  have c3b0 : (t371 == 0) = true := beq_iff_eq.mpr c3
  have c3b1 : (t371 != 0) = false := bne_eq_false_iff_eq.mpr c3
  clear c3
  have H' := Aside0.mk H
  clear H
  go_enter Try.func63, Try.ntmps63
  go_wp2_with (first | ((with_reducible refine gate_callee (f := 77) rfl ?_); refine goesL_ (some 10) rfl rfl Try.func77 (by kernel_rfl) rfl #[.string a0] rfl q1_ ?_; (with_reducible refine (skiffref1_Scan.calls k a0 t370 t371 _ A2.out).mono ?_); rintro e w4 ⟨v372, rfl, ho0, hb⟩; refine ⟨_, rfl, ?_⟩; have n0_ := Aside0.mk (Kd.R_lower ho0 (below_size q2_)); have n1_ := Aside0.mk (below_step q2_ hb); clear HB; have HO373 := n0_; have HB := n1_; clear n0_ n1_; (try clear hb); (try clear hb2); (try clear hk); (try clear hi); (try clear ho0)))
  go_loopg [6, 7] k (fun kq v6 v7 w' => ∃ (x6_1 : Int) (x7_1 : Int), v6 = .int .i64 x6_1 ∧ v7 = .int .i64 x7_1 ∧ Aside0 (skiffref1_NextSeq.l0 kq t370 x6_1 x7_1 = some (r1, r2)) ∧ Aside0 (kq ≤ k) ∧ Aside0 (Kd.R k59 59 w' w.heap.size (fun _ => True) v372 t370) ∧ Aside0 (Below w.heap.size w w'))
  case atStart => exact ⟨(0), (0), q4_, q4_, H', ⟨Nat.le_refl _⟩, ⟨by (with_reducible repeat (first | apply Kd.R_alloc | apply Kd.R_drewN | apply Kd.R_drew)); exact HO373.out⟩, ⟨by repeat (first | (with_reducible first | exact HB.out | apply below_alloc | apply pw_below_drewN | apply below_drew1) | exact HB.out)⟩⟩
  case round =>
   clear H'
   try clear p2
   try clear c3
   try clear c3b0
   try clear c3b1
   obtain ⟨x6_1, x7_1, rfl, rfl, HA, HK1, HO_4, HB⟩ := hrel
   cases gk with
   | zero => exact absurd HA.out (by simp [skiffref1_NextSeq.l0])
   | succ k1 =>
    have H := HA.out
    clear HA
    simp only [skiffref1_NextSeq.l0] at H
    by_cases c5 : x7_1 < (t370.length : Int)
    ·rw [if_pos c5] at H
     have c5b0 : decide (x7_1 < (t370.length : Int)) = true := decide_eq_true c5
     clear c5
     by_cases c6 : 0 ≤ x7_1
     ·rw [if_pos c6] at H
      have c6b0 : decide (0 ≤ x7_1) = true := decide_eq_true c6
      clear c6
      obtain ⟨ji7, hji7⟩ : ∃ j_ : Int, (mx x6_1 ((rd_T59 t370 x7_1).f1.f0)) = j_ := ⟨_, rfl⟩
      replace H : (skiffref1_NextSeq.l0 k1 t370 ji7 (wrap64 (x7_1 + 1))) = some (r1, r2) := by first | (rw [hji7] at H; exact H) | (simp only [hji7] at H ⊢; exact H)
      have hji7_ : (if x6_1 < ((rd_T59 t370 x7_1).f1.f0) then ((rd_T59 t370 x7_1).f1.f0) else x6_1) = ji7 := hji7
      have H' := Aside0.mk H
      clear H
      obtain ⟨Ao8, co8, eo8⟩ := Kd.R_slice HO_4.out
      subst eo8
      have p374 : 0 ≤ (x7_1 : Int) := of_decide_eq_true q5_
      have q374 : x7_1 < (t370.length : Int) := of_decide_eq_true q5_
      obtain ⟨ad374, e374, hx374_0, hx374_1, hx374_2, hx374_3, hx374_4⟩ := at_T59 (Kd.R_reads' HO_4.out).2.2 x7_1 p374 q374
      cases e374
      replace p374 := eq_true p374
      replace q374 := eq_true q374
      go_wp2
      go_roundg k1
      case measure => have := HK1.out; omega
      case rel => exact ⟨(ji7), (wrap64 (x7_1 + 1)), (by first | rfl | (simp; done) | (simp only [← hji7] <;> (first | rfl | simp)) | (simp [*]; done)), q4_, H', ⟨by have := HK1.out; omega⟩, ⟨by (with_reducible repeat (first | apply Kd.R_alloc | apply Kd.R_drewN | apply Kd.R_drew)); exact HO_4.out⟩, ⟨by repeat (first | (with_reducible first | exact HB.out | apply below_alloc | apply pw_below_drewN | apply below_drew1) | exact HB.out)⟩⟩
     ·rw [if_neg c6] at H
      exact absurd H (by simp)
    ·rw [if_neg c5] at H
     have c5b0 : decide (x7_1 < (t370.length : Int)) = false := decide_eq_false c5
     clear c5
     by_cases c9 : x6_1 = 1048576
     ·rw [if_pos c9] at H
      have c9b0 : (x6_1 == 1048576) = true := beq_iff_eq.mpr c9
      have c9b1 : (x6_1 != 1048576) = false := bne_eq_false_iff_eq.mpr c9
      clear c9
      simp only [Option.some.injEq, Prod.mk.injEq] at H
      obtain ⟨rfl, rfl⟩ := H
      obtain ⟨Ao10, co10, eo10⟩ := Kd.R_slice HO_4.out
      subst eo10
      go_wp2
      go_ret2
      exact ⟨by first | rfl | (simp [errW_none, errW_some] <;> rfl) | (simp [*, errW_none, errW_some] <;> rfl), by repeat (first | (with_reducible first | exact HB.out | apply below_alloc | apply pw_below_drewN | apply below_drew1) | exact HB.out)⟩
     ·rw [if_neg c9] at H
      have c9b0 : (x6_1 == 1048576) = false := beq_eq_false_iff_ne.mpr c9
      have c9b1 : (x6_1 != 1048576) = true := bne_iff_ne.mpr c9
      simp only [Option.some.injEq, Prod.mk.injEq] at H
      obtain ⟨rfl, rfl⟩ := H
      obtain ⟨Ao11, co11, eo11⟩ := Kd.R_slice HO_4.out
      subst eo11
      go_wp2
      go_ret2
      exact ⟨by first | rfl | (simp [errW_none, errW_some] <;> rfl) | (simp [*, errW_none, errW_some] <;> rfl), by repeat (first | (with_reducible first | exact HB.out | apply below_alloc | apply pw_below_drewN | apply below_drew1) | exact HB.out)⟩
 ·rw [if_neg c3] at H
  have c3b0 : (t371 == 0) = false := beq_eq_false_iff_ne.mpr c3
  have c3b1 : (t371 != 0) = true := bne_iff_ne.mpr c3
  simp only [Option.some.injEq, Prod.mk.injEq] at H
  obtain ⟨rfl, rfl⟩ := H
  go_enter Try.func63, Try.ntmps63
  go_wp2_with (first | ((with_reducible refine gate_callee (f := 77) rfl ?_); refine goesL_ (some 10) rfl rfl Try.func77 (by kernel_rfl) rfl #[.string a0] rfl q1_ ?_; (with_reducible refine (skiffref1_Scan.calls k a0 t370 t371 _ A2.out).mono ?_); rintro e w12 ⟨v372, rfl, ho0, hb⟩; refine ⟨_, rfl, ?_⟩; have n0_ := Aside0.mk (Kd.R_lower ho0 (below_size q2_)); have n1_ := Aside0.mk (below_step q2_ hb); clear HB; have HO373 := n0_; have HB := n1_; clear n0_ n1_; (try clear hb); (try clear hb2); (try clear hk); (try clear hi); (try clear ho0)))
  go_ret2
  exact ⟨by first | rfl | (simp [errW_none, errW_some] <;> rfl) | (simp [*, errW_none, errW_some] <;> rfl), by repeat (first | (with_reducible first | exact HB.out | apply below_alloc | apply pw_below_drewN | apply below_drew1) | exact HB.out)⟩
def skiffref1_RecordOf.j0 : Nat → ByteArray → Int → Int → Int → Bool → Option (Int × Int × Int × Int × Int)
 | 0, _, _, _, _, _ => none
 | k + 1, x0, x1, x2, x8, x27 => if x27 = true then (some (0, 0, 0, 0, 900)) else ((skiffref1_NextSeq.f k x0).bind fun bt380 => (if bt380.2 = 0 then (if 0 ≤ x8 then (if x8 ≤ (wrap64 (x8 + x2)) then (if (wrap64 (x8 + x2)) ≤ (x0.size : Int) then ((skiffref1_Crc.f k (x0.extract (x8 : Int).toNat ((wrap64 (x8 + x2)) : Int).toNat)).bind fun t382 => (some (bt380.1, x1, x2, t382, 0))) else (none)) else (none)) else (none)) else (some (0, 0, 0, 0, bt380.2))))
def skiffref1_RecordOf.f (k : Nat) (a0 : ByteArray) (a1 : Int) (a2 : Int) : Option (Int × Int × Int × Int × Int) := (skiffref1_Base.f a1).bind fun bt376 => ((skiffref1_FlashMay.f a0).bind fun t378 => (if t378 = true then (if bt376.2 = 0 then ((PBase.skiffref1_upTo.f a2 1 288).bind fun t379 => (skiffref1_RecordOf.j0 k a0 a1 a2 bt376.1 (!t379))) else (skiffref1_RecordOf.j0 k a0 a1 a2 bt376.1 true)) else (skiffref1_RecordOf.j0 k a0 a1 a2 bt376.1 true)))
set_option maxHeartbeats 8000000 in
set_option maxRecDepth 100000 in
theorem skiffref1_RecordOf.calls (k : Nat) (a0 : ByteArray) (a1 : Int) (a2 : Int) (r1 : Int) (r2 : Int) (r3 : Int) (r4 : Int) (r5 : Int) (w : World) (h : skiffref1_RecordOf.f k a0 a1 a2 = some (r1, r2, r3, r4, r5)) :
  Calls Try.prog 40 #[.string a0, .int .i64 a1, .int .i64 a2] w fun e w' => e = .returned (.tuple #[.agg #[.int .i64 r1, .int .i64 r2, .int .i64 r3, .int .i64 r4], .int .i64 r5]) ∧ Below w.heap.size w w' := by
 have hu25 := Try.underlying25
 have HB := Aside0.mk (Below.refl w.heap.size w)
 have H : ((skiffref1_Base.f a1).bind fun bt376 => ((skiffref1_FlashMay.f a0).bind fun t378 => (if t378 = true then (if bt376.2 = 0 then ((PBase.skiffref1_upTo.f a2 1 288).bind fun t379 => (skiffref1_RecordOf.j0 k a0 a1 a2 bt376.1 (!t379))) else (skiffref1_RecordOf.j0 k a0 a1 a2 bt376.1 true)) else (skiffref1_RecordOf.j0 k a0 a1 a2 bt376.1 true)))) = some (r1, r2, r3, r4, r5) := h
 clear h
 replace H := Option.bind_eq_some_iff.mp H
 obtain ⟨⟨t376, t377⟩, A40, H⟩ := H
 replace H : ((skiffref1_FlashMay.f a0).bind fun t378 => (if t378 = true then (if t377 = 0 then ((PBase.skiffref1_upTo.f a2 1 288).bind fun t379 => (skiffref1_RecordOf.j0 k a0 a1 a2 t376 (!t379))) else (skiffref1_RecordOf.j0 k a0 a1 a2 t376 true)) else (skiffref1_RecordOf.j0 k a0 a1 a2 t376 true))) = some (r1, r2, r3, r4, r5) := H
 have A4 := Aside0.mk A40
 clear A40
 have HC5 := Aside0.mk H
 clear H
 go_enter Try.func40, Try.ntmps40
 go_upto_region 2 with (first | ((with_reducible refine gate_dst (N := 6) rfl ?_); refine box_event ?hg (N := 6) ?hd (cs := #[.int .i64 0, .int .i64 0, .int .i64 0, .int .i64 0]) (t := 25) ?hr ?_; (case hd => rfl); (case hg => rfl); (case hr => first | (go_simp; done) | (go_simp; rfl)); intro gb375 hg w6 hbox hb; have n0_ := Aside0.mk (below_step q2_ hb); have n1_ := Aside0.mk (hbox); have n2_ := Aside0.mk ((by rw [hg]; exact (below_size q2_) : w.heap.size ≤ gb375)); have n3_ := Aside0.mk ((by rw [hg]; exact (below_size q2_) : w.heap.size ≤ gb375)); clear HB; have HB := n0_; have BK375 := n1_; have GW375 := n2_; have GE375 := n3_; clear n0_ n1_ n2_ n3_; clear hb hbox hg) | ((with_reducible refine gate_callee (f := 62) rfl ?_); refine goesL_ (some 13) rfl rfl Try.func62 (by kernel_rfl) rfl #[.int .i64 a1] rfl q1_ ?_; (with_reducible refine (skiffref1_Base.calls a1 t376 t377 _ A4.out).mono ?_); rintro e w' ⟨rfl, ⟨nd, rfl⟩⟩; refine ⟨_, rfl, ?_⟩))
 (try simp only [Act.put, List.setIfInBounds_toArray, List.set_cons_zero, List.set_cons_succ])
 go_cut [27] (fun v27 wc => ∃ (kq : Nat) (x27_4 : Bool), v27 = .bool x27_4 ∧ Aside0 (skiffref1_RecordOf.j0 kq a0 a1 a2 t376 x27_4 = some (r1, r2, r3, r4, r5)) ∧ Aside0 (kq ≤ k) ∧ Aside0 (wc.heap[gb375]? = some (.cells #[.int .i64 0, .int .i64 0, .int .i64 0, .int .i64 0] 25 (0, 0))) ∧ Aside0 (Below w.heap.size w wc))
 case first =>
  have H := HC5.out
  clear HC5
  replace H := Option.bind_eq_some_iff.mp H
  obtain ⟨t378, A70, H⟩ := H
  replace H : (if t378 = true then (if t377 = 0 then ((PBase.skiffref1_upTo.f a2 1 288).bind fun t379 => (skiffref1_RecordOf.j0 k a0 a1 a2 t376 (!t379))) else (skiffref1_RecordOf.j0 k a0 a1 a2 t376 true)) else (skiffref1_RecordOf.j0 k a0 a1 a2 t376 true)) = some (r1, r2, r3, r4, r5) := H
  have A7 := Aside0.mk A70
  clear A70
  by_cases c8 : t378 = true
  ·subst c8
   have H1 : (if t377 = 0 then ((PBase.skiffref1_upTo.f a2 1 288).bind fun t379 => (skiffref1_RecordOf.j0 k a0 a1 a2 t376 (!t379))) else (skiffref1_RecordOf.j0 k a0 a1 a2 t376 true)) = some (r1, r2, r3, r4, r5) := by rw [if_pos rfl] at H; exact H
   clear H
   have H := H1
   clear H1
   by_cases c9 : t377 = 0
   ·rw [if_pos c9] at H
    have c9b0 : (t377 == 0) = true := beq_iff_eq.mpr c9
    have c9b1 : (t377 != 0) = false := bne_eq_false_iff_eq.mpr c9
    clear c9
    (first | rw [c9b0] | (simp only [i64_w, i32_w]; rw [c9b0]) | skip)
    replace H := Option.bind_eq_some_iff.mp H
    obtain ⟨t379, A100, H⟩ := H
    replace H : (skiffref1_RecordOf.j0 k a0 a1 a2 t376 (!t379)) = some (r1, r2, r3, r4, r5) := H
    have A10 := Aside0.mk A100
    clear A100
    have H' := Aside0.mk H
    clear H
    go_wp2_with (first | ((with_reducible refine gate_callee (f := 48) rfl ?_); refine goesL_ (some 17) rfl rfl Try.func48 (by kernel_rfl) rfl #[.string a0] rfl q1_ ?_; (with_reducible refine (skiffref1_FlashMay.calls a0 true _ A7.out).mono ?_); rintro e w' ⟨rfl, ⟨nd, rfl⟩⟩; refine ⟨_, rfl, ?_⟩) | (go_at_call 43; (with_reducible refine (PBase.skiffref1_upTo.calls a2 1 288 t379 _ A10.out).mono ?_); rintro e w' ⟨rfl, ⟨nd, rfl⟩⟩))
    go_meet
    case rel => exact ⟨_, (!t379), q4_, H', ⟨by first | omega | exact Nat.le_refl _⟩, ⟨by (with_reducible repeat (first | refine blk_drewN ?_ _ | refine blk_drew ?_ | refine blk_alloc ?_ _)); exact BK375.out⟩, ⟨by repeat (first | (with_reducible first | exact HB.out | apply below_alloc | apply pw_below_drewN | apply below_drew1 | refine below_set ?_ GE375.out) | exact HB.out)⟩⟩
   ·rw [if_neg c9] at H
    have c9b0 : (t377 == 0) = false := beq_eq_false_iff_ne.mpr c9
    have c9b1 : (t377 != 0) = true := bne_iff_ne.mpr c9
    (first | rw [c9b0] | (simp only [i64_w, i32_w]; rw [c9b0]) | skip)
    have H' := Aside0.mk H
    clear H
    go_wp2_with (first | ((with_reducible refine gate_callee (f := 48) rfl ?_); refine goesL_ (some 17) rfl rfl Try.func48 (by kernel_rfl) rfl #[.string a0] rfl q1_ ?_; (with_reducible refine (skiffref1_FlashMay.calls a0 true _ A7.out).mono ?_); rintro e w' ⟨rfl, ⟨nd, rfl⟩⟩; refine ⟨_, rfl, ?_⟩))
    go_meet
    case rel => exact ⟨_, (true), q4_, H', ⟨by first | omega | exact Nat.le_refl _⟩, ⟨by (with_reducible repeat (first | refine blk_drewN ?_ _ | refine blk_drew ?_ | refine blk_alloc ?_ _)); exact BK375.out⟩, ⟨by repeat (first | (with_reducible first | exact HB.out | apply below_alloc | apply pw_below_drewN | apply below_drew1 | refine below_set ?_ GE375.out) | exact HB.out)⟩⟩
  ·replace c8 := Bool.eq_false_iff.mpr c8
   subst c8
   have H1 : (skiffref1_RecordOf.j0 k a0 a1 a2 t376 true) = some (r1, r2, r3, r4, r5) := by rw [if_neg (show ¬ (false = true) by decide)] at H; exact H
   clear H
   have H := H1
   clear H1
   have H' := Aside0.mk H
   clear H
   go_wp2_with (first | ((with_reducible refine gate_callee (f := 48) rfl ?_); refine goesL_ (some 17) rfl rfl Try.func48 (by kernel_rfl) rfl #[.string a0] rfl q1_ ?_; (with_reducible refine (skiffref1_FlashMay.calls a0 false _ A7.out).mono ?_); rintro e w' ⟨rfl, ⟨nd, rfl⟩⟩; refine ⟨_, rfl, ?_⟩))
   go_meet
   case rel => exact ⟨_, (true), q4_, H', ⟨by first | omega | exact Nat.le_refl _⟩, ⟨by (with_reducible repeat (first | refine blk_drewN ?_ _ | refine blk_drew ?_ | refine blk_alloc ?_ _)); exact BK375.out⟩, ⟨by repeat (first | (with_reducible first | exact HB.out | apply below_alloc | apply pw_below_drewN | apply below_drew1 | refine below_set ?_ GE375.out) | exact HB.out)⟩⟩
 case rest =>
  clear HC5
  try clear p2
  try clear c4
  try clear c6
  try clear c8
  try clear c9
  try clear c9b0
  try clear c9b1
  obtain ⟨kq, x27_4, rfl, HA, HJ4, BK375, HB⟩ := hcut
  cases kq with
  | zero => exact absurd HA.out (by simp [skiffref1_RecordOf.j0])
  | succ kj4 =>
   have H := HA.out
   clear HA
   simp only [skiffref1_RecordOf.j0] at H
   by_cases c11 : x27_4 = true
   ·subst c11
    have H1 : (some (0, 0, 0, 0, 900)) = some (r1, r2, r3, r4, r5) := by rw [if_pos rfl] at H; exact H
    clear H
    have H := H1
    clear H1
    simp only [Option.some.injEq, Prod.mk.injEq] at H
    obtain ⟨rfl, rfl, rfl, rfl, rfl⟩ := H
    have hcz12_0 : wc.cell? ⟨gb375, 0, none⟩ = some (.int .i64 0) := (blk_cell BK375.out 0).trans rfl
    have hcz12_1 : wc.cell? ⟨gb375, 1, none⟩ = some (.int .i64 0) := (blk_cell BK375.out 1).trans rfl
    have hcz12_2 : wc.cell? ⟨gb375, 2, none⟩ = some (.int .i64 0) := (blk_cell BK375.out 2).trans rfl
    have hcz12_3 : wc.cell? ⟨gb375, 3, none⟩ = some (.int .i64 0) := (blk_cell BK375.out 3).trans rfl
    have hfz12_0 := blk_frozen BK375.out 0
    have hfz12_1 := blk_frozen BK375.out 1
    have hfz12_2 := blk_frozen BK375.out 2
    have hfz12_3 := blk_frozen BK375.out 3
    go_wp2
    refine bodyPost_ret (results_ct rfl _ _ gb375 25 #[.int .i64 0, .int .i64 0, .int .i64 0, .int .i64 0] (0, 0) _ rfl (by (with_reducible repeat (first | refine blk_drewN ?_ _ | refine blk_drew ?_ | refine blk_alloc ?_ _)); refine blk_put (cs := #[.int .i64 0, .int .i64 0, .int .i64 0, .int .i64 0]) ?_ 3 _ rfl; (with_reducible repeat (first | refine blk_drewN ?_ _ | refine blk_drew ?_ | refine blk_alloc ?_ _)); refine blk_put (cs := #[.int .i64 0, .int .i64 0, .int .i64 0, .int .i64 0]) ?_ 2 _ rfl; (with_reducible repeat (first | refine blk_drewN ?_ _ | refine blk_drew ?_ | refine blk_alloc ?_ _)); refine blk_put (cs := #[.int .i64 0, .int .i64 0, .int .i64 0, .int .i64 0]) ?_ 1 _ rfl; (with_reducible repeat (first | refine blk_drewN ?_ _ | refine blk_drew ?_ | refine blk_alloc ?_ _)); refine blk_put (cs := #[.int .i64 0, .int .i64 0, .int .i64 0, .int .i64 0]) ?_ 0 _ rfl; (with_reducible repeat (first | refine blk_drewN ?_ _ | refine blk_drew ?_ | refine blk_alloc ?_ _)); exact BK375.out) Try.underlying25 rfl (by kernel_rfl)) rfl ?_
    exact ⟨by first | rfl | (simp [errW_none, errW_some] <;> rfl) | (simp [*, errW_none, errW_some] <;> rfl), by repeat (first | (with_reducible first | exact HB.out | apply below_alloc | apply pw_below_drewN | apply below_drew1 | refine below_set ?_ GE375.out) | exact HB.out)⟩
   ·replace c11 := Bool.eq_false_iff.mpr c11
    subst c11
    have H1 : ((skiffref1_NextSeq.f kj4 a0).bind fun bt380 => (if bt380.2 = 0 then (if 0 ≤ t376 then (if t376 ≤ (wrap64 (t376 + a2)) then (if (wrap64 (t376 + a2)) ≤ (a0.size : Int) then ((skiffref1_Crc.f kj4 (a0.extract (t376 : Int).toNat ((wrap64 (t376 + a2)) : Int).toNat)).bind fun t382 => (some (bt380.1, a1, a2, t382, 0))) else (none)) else (none)) else (none)) else (some (0, 0, 0, 0, bt380.2)))) = some (r1, r2, r3, r4, r5) := by rw [if_neg (show ¬ (false = true) by decide)] at H; exact H
    clear H
    have H := H1
    clear H1
    replace H := Option.bind_eq_some_iff.mp H
    obtain ⟨⟨t380, t381⟩, A130, H⟩ := H
    replace H : (if t381 = 0 then (if 0 ≤ t376 then (if t376 ≤ (wrap64 (t376 + a2)) then (if (wrap64 (t376 + a2)) ≤ (a0.size : Int) then ((skiffref1_Crc.f kj4 (a0.extract (t376 : Int).toNat ((wrap64 (t376 + a2)) : Int).toNat)).bind fun t382 => (some (t380, a1, a2, t382, 0))) else (none)) else (none)) else (none)) else (some (0, 0, 0, 0, t381))) = some (r1, r2, r3, r4, r5) := H
    have A13 := Aside0.mk A130
    clear A130
    by_cases c14 : t381 = 0
    ·rw [if_pos c14] at H
     have c14b0 : (t381 == 0) = true := beq_iff_eq.mpr c14
     have c14b1 : (t381 != 0) = false := bne_eq_false_iff_eq.mpr c14
     clear c14
     by_cases c15 : 0 ≤ t376
     ·rw [if_pos c15] at H
      have c15b0 := eq_true c15
      have c15b1 : decide (0 ≤ t376) = true := decide_eq_true c15
      clear c15
      by_cases c16 : t376 ≤ (wrap64 (t376 + a2))
      ·rw [if_pos c16] at H
       have c16b0 := eq_true c16
       have c16b1 : decide (t376 ≤ (wrap64 (t376 + a2))) = true := decide_eq_true c16
       by_cases c17 : (wrap64 (t376 + a2)) ≤ (a0.size : Int)
       ·rw [if_pos c17] at H
        have c17b0 := eq_true c17
        have c17b1 : decide ((wrap64 (t376 + a2)) ≤ (a0.size : Int)) = true := decide_eq_true c17
        replace H := Option.bind_eq_some_iff.mp H
        obtain ⟨t382, A180, H⟩ := H
        replace H : (some (t380, a1, a2, t382, 0)) = some (r1, r2, r3, r4, r5) := H
        have A18 := Aside0.mk A180
        clear A180
        simp only [Option.some.injEq, Prod.mk.injEq] at H
        obtain ⟨rfl, rfl, rfl, rfl, rfl⟩ := H
        go_wp2_with (first | ((with_reducible refine gate_callee (f := 63) rfl ?_); refine goesL_ (some 31) rfl rfl Try.func63 (by kernel_rfl) rfl #[.string a0] rfl q1_ ?_; (with_reducible refine (skiffref1_NextSeq.calls kj4 a0 t380 t381 _ A13.out).mono ?_); rintro e w19 ⟨rfl, hb⟩; refine ⟨_, rfl, ?_⟩; have n0_ := Aside0.mk (blk_below (g := gb375) (o := .cells #[.int .i64 0, .int .i64 0, .int .i64 0, .int .i64 0] 25 (0, 0)) (by (with_reducible repeat (first | refine blk_drewN ?_ _ | refine blk_drew ?_ | refine blk_alloc ?_ _)); exact BK375.out) hb); have n1_ := Aside0.mk (below_step (by repeat (first | (with_reducible first | exact HB.out | apply below_alloc | apply pw_below_drewN | apply below_drew1 | refine below_set ?_ GE375.out) | exact HB.out)) hb); clear BK375; clear HB; have BK375 := n0_; have HB := n1_; clear n0_ n1_; (try clear hb); (try clear hb2); (try clear hk); (try clear hi)) | ((with_reducible refine gate_callee (f := 14) rfl ?_); refine goesL_ (some 47) rfl rfl Try.func14 (by kernel_rfl) rfl #[.string (a0.extract (t376 : Int).toNat ((wrap64 (t376 + a2)) : Int).toNat)] rfl q1_ ?_; (with_reducible refine (skiffref1_Crc.calls kj4 (a0.extract (t376 : Int).toNat ((wrap64 (t376 + a2)) : Int).toNat) t382 _ A18.out).mono ?_); rintro e w' ⟨rfl, ⟨nd, rfl⟩⟩; refine ⟨_, rfl, ?_⟩; (try (rw [drewN_self w19]; generalize hq_ : World.drewN w19 _ = w19; have n0_ : Aside0 (w19.heap[gb375]? = some (.cells #[.int .i64 0, .int .i64 0, .int .i64 0, .int .i64 0] 25 (0, 0))) := ⟨by rw [← hq_]; exact (by (with_reducible repeat (first | refine blk_drewN ?_ _ | refine blk_drew ?_ | refine blk_alloc ?_ _)); exact BK375.out)⟩; have n1_ : Aside0 (Below w.heap.size w w19) := ⟨by rw [← hq_]; exact (by repeat (first | (with_reducible first | exact HB.out | apply below_alloc | apply pw_below_drewN | apply below_drew1 | refine below_set ?_ GE375.out) | exact HB.out))⟩; clear BK375 HB hq_; have BK375 := n0_; have HB := n1_; clear n0_ n1_)); have hcz20_0 : w19.cell? ⟨gb375, 0, none⟩ = some (.int .i64 0) := (blk_cell BK375.out 0).trans rfl; have hcz20_1 : w19.cell? ⟨gb375, 1, none⟩ = some (.int .i64 0) := (blk_cell BK375.out 1).trans rfl; have hcz20_2 : w19.cell? ⟨gb375, 2, none⟩ = some (.int .i64 0) := (blk_cell BK375.out 2).trans rfl; have hcz20_3 : w19.cell? ⟨gb375, 3, none⟩ = some (.int .i64 0) := (blk_cell BK375.out 3).trans rfl; have hfz20_0 := blk_frozen BK375.out 0; have hfz20_1 := blk_frozen BK375.out 1; have hfz20_2 := blk_frozen BK375.out 2; have hfz20_3 := blk_frozen BK375.out 3))
        refine bodyPost_ret (results_ct rfl _ _ gb375 25 #[.int .i64 t380, .int .i64 a1, .int .i64 a2, .int .i64 t382] (0, 0) _ rfl (by (with_reducible repeat (first | refine blk_drewN ?_ _ | refine blk_drew ?_ | refine blk_alloc ?_ _)); refine blk_put (cs := #[.int .i64 t380, .int .i64 a1, .int .i64 a2, .int .i64 0]) ?_ 3 _ rfl; (with_reducible repeat (first | refine blk_drewN ?_ _ | refine blk_drew ?_ | refine blk_alloc ?_ _)); refine blk_put (cs := #[.int .i64 t380, .int .i64 a1, .int .i64 0, .int .i64 0]) ?_ 2 _ rfl; (with_reducible repeat (first | refine blk_drewN ?_ _ | refine blk_drew ?_ | refine blk_alloc ?_ _)); refine blk_put (cs := #[.int .i64 t380, .int .i64 0, .int .i64 0, .int .i64 0]) ?_ 1 _ rfl; (with_reducible repeat (first | refine blk_drewN ?_ _ | refine blk_drew ?_ | refine blk_alloc ?_ _)); refine blk_put (cs := #[.int .i64 0, .int .i64 0, .int .i64 0, .int .i64 0]) ?_ 0 _ rfl; (with_reducible repeat (first | refine blk_drewN ?_ _ | refine blk_drew ?_ | refine blk_alloc ?_ _)); exact BK375.out) Try.underlying25 rfl (by kernel_rfl)) rfl ?_
        exact ⟨by first | rfl | (simp [errW_none, errW_some] <;> rfl) | (simp [*, errW_none, errW_some] <;> rfl), by repeat (first | (with_reducible first | exact HB.out | apply below_alloc | apply pw_below_drewN | apply below_drew1 | refine below_set ?_ GE375.out) | exact HB.out)⟩
       ·rw [if_neg c17] at H
        exact absurd H (by simp)
      ·rw [if_neg c16] at H
       exact absurd H (by simp)
     ·rw [if_neg c15] at H
      exact absurd H (by simp)
    ·rw [if_neg c14] at H
     have c14b0 : (t381 == 0) = false := beq_eq_false_iff_ne.mpr c14
     have c14b1 : (t381 != 0) = true := bne_iff_ne.mpr c14
     simp only [Option.some.injEq, Prod.mk.injEq] at H
     obtain ⟨rfl, rfl, rfl, rfl, rfl⟩ := H
     go_wp2_with (first | ((with_reducible refine gate_callee (f := 63) rfl ?_); refine goesL_ (some 31) rfl rfl Try.func63 (by kernel_rfl) rfl #[.string a0] rfl q1_ ?_; (with_reducible refine (skiffref1_NextSeq.calls kj4 a0 t380 t381 _ A13.out).mono ?_); rintro e w21 ⟨rfl, hb⟩; refine ⟨_, rfl, ?_⟩; have n0_ := Aside0.mk (blk_below (g := gb375) (o := .cells #[.int .i64 0, .int .i64 0, .int .i64 0, .int .i64 0] 25 (0, 0)) (by (with_reducible repeat (first | refine blk_drewN ?_ _ | refine blk_drew ?_ | refine blk_alloc ?_ _)); exact BK375.out) hb); have n1_ := Aside0.mk (below_step (by repeat (first | (with_reducible first | exact HB.out | apply below_alloc | apply pw_below_drewN | apply below_drew1 | refine below_set ?_ GE375.out) | exact HB.out)) hb); clear BK375; clear HB; have BK375 := n0_; have HB := n1_; clear n0_ n1_; (try clear hb); (try clear hb2); (try clear hk); (try clear hi); have hcz22_0 : w21.cell? ⟨gb375, 0, none⟩ = some (.int .i64 0) := (blk_cell BK375.out 0).trans rfl; have hcz22_1 : w21.cell? ⟨gb375, 1, none⟩ = some (.int .i64 0) := (blk_cell BK375.out 1).trans rfl; have hcz22_2 : w21.cell? ⟨gb375, 2, none⟩ = some (.int .i64 0) := (blk_cell BK375.out 2).trans rfl; have hcz22_3 : w21.cell? ⟨gb375, 3, none⟩ = some (.int .i64 0) := (blk_cell BK375.out 3).trans rfl; have hfz22_0 := blk_frozen BK375.out 0; have hfz22_1 := blk_frozen BK375.out 1; have hfz22_2 := blk_frozen BK375.out 2; have hfz22_3 := blk_frozen BK375.out 3))
     refine bodyPost_ret (results_ct rfl _ _ gb375 25 #[.int .i64 0, .int .i64 0, .int .i64 0, .int .i64 0] (0, 0) _ rfl (by (with_reducible repeat (first | refine blk_drewN ?_ _ | refine blk_drew ?_ | refine blk_alloc ?_ _)); refine blk_put (cs := #[.int .i64 0, .int .i64 0, .int .i64 0, .int .i64 0]) ?_ 3 _ rfl; (with_reducible repeat (first | refine blk_drewN ?_ _ | refine blk_drew ?_ | refine blk_alloc ?_ _)); refine blk_put (cs := #[.int .i64 0, .int .i64 0, .int .i64 0, .int .i64 0]) ?_ 2 _ rfl; (with_reducible repeat (first | refine blk_drewN ?_ _ | refine blk_drew ?_ | refine blk_alloc ?_ _)); refine blk_put (cs := #[.int .i64 0, .int .i64 0, .int .i64 0, .int .i64 0]) ?_ 1 _ rfl; (with_reducible repeat (first | refine blk_drewN ?_ _ | refine blk_drew ?_ | refine blk_alloc ?_ _)); refine blk_put (cs := #[.int .i64 0, .int .i64 0, .int .i64 0, .int .i64 0]) ?_ 0 _ rfl; (with_reducible repeat (first | refine blk_drewN ?_ _ | refine blk_drew ?_ | refine blk_alloc ?_ _)); exact BK375.out) Try.underlying25 rfl (by kernel_rfl)) rfl ?_
     exact ⟨by first | rfl | (simp [errW_none, errW_some] <;> rfl) | (simp [*, errW_none, errW_some] <;> rfl), by repeat (first | (with_reducible first | exact HB.out | apply below_alloc | apply pw_below_drewN | apply below_drew1 | refine below_set ?_ GE375.out) | exact HB.out)⟩
def skiffref1_ImageOf.f (a0 : ByteArray) (a1_0 : Int) (a1_1 : Int) (a1_2 : Int) (a1_3 : Int) : Option (ByteArray × Int) := (skiffref1_FlashMay.f a0).bind fun t384 => (if t384 = true then ((PBase.skiffref1_RecordMay.f a1_0 a1_1 a1_2 a1_3).bind fun t385 => (if t385 = true then ((skiffref1_Base.f a1_1).bind fun bt386 => (if 0 ≤ bt386.1 then (if bt386.1 ≤ (wrap64 (bt386.1 + a1_2)) then (if (wrap64 (bt386.1 + a1_2)) ≤ (a0.size : Int) then (some (a0.extract (bt386.1 : Int).toNat ((wrap64 (bt386.1 + a1_2)) : Int).toNat, 0)) else (none)) else (none)) else (none))) else (some ((⟨#[]⟩ : ByteArray), 600)))) else (some ((⟨#[]⟩ : ByteArray), 600)))
set_option maxHeartbeats 8000000 in
set_option maxRecDepth 100000 in
theorem skiffref1_ImageOf.calls (a0 : ByteArray) (a1_0 : Int) (a1_1 : Int) (a1_2 : Int) (a1_3 : Int) (r1 : ByteArray) (r2 : Int) (w : World) (h : skiffref1_ImageOf.f a0 a1_0 a1_1 a1_2 a1_3 = some (r1, r2)) :
  Calls Try.prog 85 #[.string a0, .agg #[.int .i64 a1_0, .int .i64 a1_1, .int .i64 a1_2, .int .i64 a1_3]] w fun e w' => e = .returned (.tuple #[.string r1, .int .i64 r2]) ∧ Below w.heap.size w w' := by
 have hu25 := Try.underlying25
 have HB := Aside0.mk (Below.refl w.heap.size w)
 have H : ((skiffref1_FlashMay.f a0).bind fun t384 => (if t384 = true then ((PBase.skiffref1_RecordMay.f a1_0 a1_1 a1_2 a1_3).bind fun t385 => (if t385 = true then ((skiffref1_Base.f a1_1).bind fun bt386 => (if 0 ≤ bt386.1 then (if bt386.1 ≤ (wrap64 (bt386.1 + a1_2)) then (if (wrap64 (bt386.1 + a1_2)) ≤ (a0.size : Int) then (some (a0.extract (bt386.1 : Int).toNat ((wrap64 (bt386.1 + a1_2)) : Int).toNat, 0)) else (none)) else (none)) else (none))) else (some ((⟨#[]⟩ : ByteArray), 600)))) else (some ((⟨#[]⟩ : ByteArray), 600)))) = some (r1, r2) := h
 clear h
 replace H := Option.bind_eq_some_iff.mp H
 obtain ⟨t384, A30, H⟩ := H
 replace H : (if t384 = true then ((PBase.skiffref1_RecordMay.f a1_0 a1_1 a1_2 a1_3).bind fun t385 => (if t385 = true then ((skiffref1_Base.f a1_1).bind fun bt386 => (if 0 ≤ bt386.1 then (if bt386.1 ≤ (wrap64 (bt386.1 + a1_2)) then (if (wrap64 (bt386.1 + a1_2)) ≤ (a0.size : Int) then (some (a0.extract (bt386.1 : Int).toNat ((wrap64 (bt386.1 + a1_2)) : Int).toNat, 0)) else (none)) else (none)) else (none))) else (some ((⟨#[]⟩ : ByteArray), 600)))) else (some ((⟨#[]⟩ : ByteArray), 600))) = some (r1, r2) := H
 have A3 := Aside0.mk A30
 clear A30
 by_cases c4 : t384 = true
 ·subst c4
  have H1 : ((PBase.skiffref1_RecordMay.f a1_0 a1_1 a1_2 a1_3).bind fun t385 => (if t385 = true then ((skiffref1_Base.f a1_1).bind fun bt386 => (if 0 ≤ bt386.1 then (if bt386.1 ≤ (wrap64 (bt386.1 + a1_2)) then (if (wrap64 (bt386.1 + a1_2)) ≤ (a0.size : Int) then (some (a0.extract (bt386.1 : Int).toNat ((wrap64 (bt386.1 + a1_2)) : Int).toNat, 0)) else (none)) else (none)) else (none))) else (some ((⟨#[]⟩ : ByteArray), 600)))) = some (r1, r2) := by rw [if_pos rfl] at H; exact H
  clear H
  have H := H1
  clear H1
  replace H := Option.bind_eq_some_iff.mp H
  obtain ⟨t385, A50, H⟩ := H
  replace H : (if t385 = true then ((skiffref1_Base.f a1_1).bind fun bt386 => (if 0 ≤ bt386.1 then (if bt386.1 ≤ (wrap64 (bt386.1 + a1_2)) then (if (wrap64 (bt386.1 + a1_2)) ≤ (a0.size : Int) then (some (a0.extract (bt386.1 : Int).toNat ((wrap64 (bt386.1 + a1_2)) : Int).toNat, 0)) else (none)) else (none)) else (none))) else (some ((⟨#[]⟩ : ByteArray), 600))) = some (r1, r2) := H
  have A5 := Aside0.mk A50
  clear A50
  by_cases c6 : t385 = true
  ·subst c6
   have H1 : ((skiffref1_Base.f a1_1).bind fun bt386 => (if 0 ≤ bt386.1 then (if bt386.1 ≤ (wrap64 (bt386.1 + a1_2)) then (if (wrap64 (bt386.1 + a1_2)) ≤ (a0.size : Int) then (some (a0.extract (bt386.1 : Int).toNat ((wrap64 (bt386.1 + a1_2)) : Int).toNat, 0)) else (none)) else (none)) else (none))) = some (r1, r2) := by rw [if_pos rfl] at H; exact H
   clear H
   have H := H1
   clear H1
   replace H := Option.bind_eq_some_iff.mp H
   obtain ⟨⟨t386, t387⟩, A70, H⟩ := H
   replace H : (if 0 ≤ t386 then (if t386 ≤ (wrap64 (t386 + a1_2)) then (if (wrap64 (t386 + a1_2)) ≤ (a0.size : Int) then (some (a0.extract (t386 : Int).toNat ((wrap64 (t386 + a1_2)) : Int).toNat, 0)) else (none)) else (none)) else (none)) = some (r1, r2) := H
   have A7 := Aside0.mk A70
   clear A70
   by_cases c8 : 0 ≤ t386
   ·rw [if_pos c8] at H
    have c8b0 := eq_true c8
    have c8b1 : decide (0 ≤ t386) = true := decide_eq_true c8
    clear c8
    by_cases c9 : t386 ≤ (wrap64 (t386 + a1_2))
    ·rw [if_pos c9] at H
     have c9b0 := eq_true c9
     have c9b1 : decide (t386 ≤ (wrap64 (t386 + a1_2))) = true := decide_eq_true c9
     by_cases c10 : (wrap64 (t386 + a1_2)) ≤ (a0.size : Int)
     ·rw [if_pos c10] at H
      have c10b0 := eq_true c10
      have c10b1 : decide ((wrap64 (t386 + a1_2)) ≤ (a0.size : Int)) = true := decide_eq_true c10
      simp only [Option.some.injEq, Prod.mk.injEq] at H
      obtain ⟨rfl, rfl⟩ := H
      go_enter Try.func85, Try.ntmps85
      go_wp2_with (first | ((with_reducible refine gate_dst (N := 3) rfl ?_); refine box_event ?hg (N := 3) ?hd (cs := #[.int .i64 a1_0, .int .i64 a1_1, .int .i64 a1_2, .int .i64 a1_3]) (t := 25) ?hr ?_; (case hd => rfl); (case hg => rfl); (case hr => first | (go_simp; done) | (go_simp; rfl)); intro gb383 hg w11 hbox hb; have n0_ := Aside0.mk (below_step q2_ hb); have n1_ := Aside0.mk (hbox); have n2_ := Aside0.mk ((by rw [hg]; exact (below_size q2_) : w.heap.size ≤ gb383)); have n3_ := Aside0.mk ((by rw [hg]; exact (below_size q2_) : w.heap.size ≤ gb383)); clear HB; have HB := n0_; have BK383 := n1_; have GW383 := n2_; have GE383 := n3_; clear n0_ n1_ n2_ n3_; clear hb hbox hg) | ((with_reducible refine gate_callee (f := 48) rfl ?_); refine goesL_ (some 9) rfl rfl Try.func48 (by kernel_rfl) rfl #[.string a0] rfl q1_ ?_; (with_reducible refine (skiffref1_FlashMay.calls a0 true _ A3.out).mono ?_); rintro e w' ⟨rfl, ⟨nd, rfl⟩⟩; refine ⟨_, rfl, ?_⟩; have hcz12_0 : w11.cell? ⟨gb383, 0, none⟩ = some (.int .i64 a1_0) := (blk_cell BK383.out 0).trans rfl; have hcz12_1 : w11.cell? ⟨gb383, 1, none⟩ = some (.int .i64 a1_1) := (blk_cell BK383.out 1).trans rfl; have hcz12_2 : w11.cell? ⟨gb383, 2, none⟩ = some (.int .i64 a1_2) := (blk_cell BK383.out 2).trans rfl; have hcz12_3 : w11.cell? ⟨gb383, 3, none⟩ = some (.int .i64 a1_3) := (blk_cell BK383.out 3).trans rfl; have hfz12_0 := blk_frozen BK383.out 0; have hfz12_1 := blk_frozen BK383.out 1; have hfz12_2 := blk_frozen BK383.out 2; have hfz12_3 := blk_frozen BK383.out 3) | (go_at_call 54; (with_reducible refine (PBase.skiffref1_RecordMay.calls a1_0 a1_1 a1_2 a1_3 true _ A5.out).mono ?_); rintro e w13 ⟨rfl, hb⟩; have n0_ := Aside0.mk (blk_below (g := gb383) (o := .cells #[.int .i64 a1_0, .int .i64 a1_1, .int .i64 a1_2, .int .i64 a1_3] 25 (0, 0)) (by (with_reducible repeat (first | refine blk_drewN ?_ _ | refine blk_drew ?_ | refine blk_alloc ?_ _)); exact BK383.out) hb); have n1_ := Aside0.mk (below_step (by repeat (first | (with_reducible first | exact HB.out | apply below_alloc | apply pw_below_drewN | apply below_drew1 | refine below_set ?_ GE383.out) | exact HB.out)) hb); clear BK383; clear HB; have BK383 := n0_; have HB := n1_; clear n0_ n1_; (try clear hb); (try clear hb2); (try clear hk); (try clear hi); have hcz14_0 : w13.cell? ⟨gb383, 0, none⟩ = some (.int .i64 a1_0) := (blk_cell BK383.out 0).trans rfl; have hcz14_1 : w13.cell? ⟨gb383, 1, none⟩ = some (.int .i64 a1_1) := (blk_cell BK383.out 1).trans rfl; have hcz14_2 : w13.cell? ⟨gb383, 2, none⟩ = some (.int .i64 a1_2) := (blk_cell BK383.out 2).trans rfl; have hcz14_3 : w13.cell? ⟨gb383, 3, none⟩ = some (.int .i64 a1_3) := (blk_cell BK383.out 3).trans rfl; have hfz14_0 := blk_frozen BK383.out 0; have hfz14_1 := blk_frozen BK383.out 1; have hfz14_2 := blk_frozen BK383.out 2; have hfz14_3 := blk_frozen BK383.out 3) | ((with_reducible refine gate_callee (f := 62) rfl ?_); refine goesL_ (some 19) rfl rfl Try.func62 (by kernel_rfl) rfl #[.int .i64 a1_1] rfl q1_ ?_; (with_reducible refine (skiffref1_Base.calls a1_1 t386 t387 _ A7.out).mono ?_); rintro e w' ⟨rfl, ⟨nd, rfl⟩⟩; refine ⟨_, rfl, ?_⟩))
      go_ret2
      exact ⟨by first | rfl | (simp [errW_none, errW_some] <;> rfl) | (simp [*, errW_none, errW_some] <;> rfl), by repeat (first | (with_reducible first | exact HB.out | apply below_alloc | apply pw_below_drewN | apply below_drew1 | refine below_set ?_ GE383.out) | exact HB.out)⟩
     ·rw [if_neg c10] at H
      exact absurd H (by simp)
    ·rw [if_neg c9] at H
     exact absurd H (by simp)
   ·rw [if_neg c8] at H
    exact absurd H (by simp)
  ·replace c6 := Bool.eq_false_iff.mpr c6
   subst c6
   have H1 : (some ((⟨#[]⟩ : ByteArray), 600)) = some (r1, r2) := by rw [if_neg (show ¬ (false = true) by decide)] at H; exact H
   clear H
   have H := H1
   clear H1
   simp only [Option.some.injEq, Prod.mk.injEq] at H
   obtain ⟨rfl, rfl⟩ := H
   go_enter Try.func85, Try.ntmps85
   go_wp2_with (first | ((with_reducible refine gate_dst (N := 3) rfl ?_); refine box_event ?hg (N := 3) ?hd (cs := #[.int .i64 a1_0, .int .i64 a1_1, .int .i64 a1_2, .int .i64 a1_3]) (t := 25) ?hr ?_; (case hd => rfl); (case hg => rfl); (case hr => first | (go_simp; done) | (go_simp; rfl)); intro gb383 hg w15 hbox hb; have n0_ := Aside0.mk (below_step q2_ hb); have n1_ := Aside0.mk (hbox); have n2_ := Aside0.mk ((by rw [hg]; exact (below_size q2_) : w.heap.size ≤ gb383)); have n3_ := Aside0.mk ((by rw [hg]; exact (below_size q2_) : w.heap.size ≤ gb383)); clear HB; have HB := n0_; have BK383 := n1_; have GW383 := n2_; have GE383 := n3_; clear n0_ n1_ n2_ n3_; clear hb hbox hg) | ((with_reducible refine gate_callee (f := 48) rfl ?_); refine goesL_ (some 9) rfl rfl Try.func48 (by kernel_rfl) rfl #[.string a0] rfl q1_ ?_; (with_reducible refine (skiffref1_FlashMay.calls a0 true _ A3.out).mono ?_); rintro e w' ⟨rfl, ⟨nd, rfl⟩⟩; refine ⟨_, rfl, ?_⟩; have hcz16_0 : w15.cell? ⟨gb383, 0, none⟩ = some (.int .i64 a1_0) := (blk_cell BK383.out 0).trans rfl; have hcz16_1 : w15.cell? ⟨gb383, 1, none⟩ = some (.int .i64 a1_1) := (blk_cell BK383.out 1).trans rfl; have hcz16_2 : w15.cell? ⟨gb383, 2, none⟩ = some (.int .i64 a1_2) := (blk_cell BK383.out 2).trans rfl; have hcz16_3 : w15.cell? ⟨gb383, 3, none⟩ = some (.int .i64 a1_3) := (blk_cell BK383.out 3).trans rfl; have hfz16_0 := blk_frozen BK383.out 0; have hfz16_1 := blk_frozen BK383.out 1; have hfz16_2 := blk_frozen BK383.out 2; have hfz16_3 := blk_frozen BK383.out 3) | (go_at_call 54; (with_reducible refine (PBase.skiffref1_RecordMay.calls a1_0 a1_1 a1_2 a1_3 false _ A5.out).mono ?_); rintro e w17 ⟨rfl, hb⟩; have n0_ := Aside0.mk (blk_below (g := gb383) (o := .cells #[.int .i64 a1_0, .int .i64 a1_1, .int .i64 a1_2, .int .i64 a1_3] 25 (0, 0)) (by (with_reducible repeat (first | refine blk_drewN ?_ _ | refine blk_drew ?_ | refine blk_alloc ?_ _)); exact BK383.out) hb); have n1_ := Aside0.mk (below_step (by repeat (first | (with_reducible first | exact HB.out | apply below_alloc | apply pw_below_drewN | apply below_drew1 | refine below_set ?_ GE383.out) | exact HB.out)) hb); clear BK383; clear HB; have BK383 := n0_; have HB := n1_; clear n0_ n1_; (try clear hb); (try clear hb2); (try clear hk); (try clear hi)))
   go_ret2
   exact ⟨by first | rfl | (simp [errW_none, errW_some] <;> rfl) | (simp [*, errW_none, errW_some] <;> rfl), by repeat (first | (with_reducible first | exact HB.out | apply below_alloc | apply pw_below_drewN | apply below_drew1 | refine below_set ?_ GE383.out) | exact HB.out)⟩
 ·replace c4 := Bool.eq_false_iff.mpr c4
  subst c4
  have H1 : (some ((⟨#[]⟩ : ByteArray), 600)) = some (r1, r2) := by rw [if_neg (show ¬ (false = true) by decide)] at H; exact H
  clear H
  have H := H1
  clear H1
  simp only [Option.some.injEq, Prod.mk.injEq] at H
  obtain ⟨rfl, rfl⟩ := H
  go_enter Try.func85, Try.ntmps85
  go_wp2_with (first | ((with_reducible refine gate_dst (N := 3) rfl ?_); refine box_event ?hg (N := 3) ?hd (cs := #[.int .i64 a1_0, .int .i64 a1_1, .int .i64 a1_2, .int .i64 a1_3]) (t := 25) ?hr ?_; (case hd => rfl); (case hg => rfl); (case hr => first | (go_simp; done) | (go_simp; rfl)); intro gb383 hg w18 hbox hb; have n0_ := Aside0.mk (below_step q2_ hb); have n1_ := Aside0.mk (hbox); have n2_ := Aside0.mk ((by rw [hg]; exact (below_size q2_) : w.heap.size ≤ gb383)); have n3_ := Aside0.mk ((by rw [hg]; exact (below_size q2_) : w.heap.size ≤ gb383)); clear HB; have HB := n0_; have BK383 := n1_; have GW383 := n2_; have GE383 := n3_; clear n0_ n1_ n2_ n3_; clear hb hbox hg) | ((with_reducible refine gate_callee (f := 48) rfl ?_); refine goesL_ (some 9) rfl rfl Try.func48 (by kernel_rfl) rfl #[.string a0] rfl q1_ ?_; (with_reducible refine (skiffref1_FlashMay.calls a0 false _ A3.out).mono ?_); rintro e w' ⟨rfl, ⟨nd, rfl⟩⟩; refine ⟨_, rfl, ?_⟩))
  go_ret2
  exact ⟨by first | rfl | (simp [errW_none, errW_some] <;> rfl) | (simp [*, errW_none, errW_some] <;> rfl), by repeat (first | (with_reducible first | exact HB.out | apply below_alloc | apply pw_below_drewN | apply below_drew1 | refine below_set ?_ GE383.out) | exact HB.out)⟩
def skiffref1_Good.f (k : Nat) (a0 : ByteArray) (a1_0 : Int) (a1_1 : Int) (a1_2 : Int) (a1_3 : Int) : Option (Bool × Int) := (skiffref1_ImageOf.f a0 a1_0 a1_1 a1_2 a1_3).bind fun bt389 => (if bt389.2 = 0 then ((skiffref1_Crc.f k bt389.1).bind fun t391 => (some ((t391 == a1_3), bt389.2))) else (some (false, bt389.2)))
set_option maxHeartbeats 8000000 in
set_option maxRecDepth 100000 in
theorem skiffref1_Good.calls (k : Nat) (a0 : ByteArray) (a1_0 : Int) (a1_1 : Int) (a1_2 : Int) (a1_3 : Int) (r1 : Bool) (r2 : Int) (w : World) (h : skiffref1_Good.f k a0 a1_0 a1_1 a1_2 a1_3 = some (r1, r2)) :
  Calls Try.prog 78 #[.string a0, .agg #[.int .i64 a1_0, .int .i64 a1_1, .int .i64 a1_2, .int .i64 a1_3]] w fun e w' => e = .returned (.tuple #[.bool r1, .int .i64 r2]) ∧ Below w.heap.size w w' := by
 have hu25 := Try.underlying25
 have HB := Aside0.mk (Below.refl w.heap.size w)
 have H : ((skiffref1_ImageOf.f a0 a1_0 a1_1 a1_2 a1_3).bind fun bt389 => (if bt389.2 = 0 then ((skiffref1_Crc.f k bt389.1).bind fun t391 => (some ((t391 == a1_3), bt389.2))) else (some (false, bt389.2)))) = some (r1, r2) := h
 clear h
 replace H := Option.bind_eq_some_iff.mp H
 obtain ⟨⟨t389, t390⟩, A30, H⟩ := H
 replace H : (if t390 = 0 then ((skiffref1_Crc.f k t389).bind fun t391 => (some ((t391 == a1_3), t390))) else (some (false, t390))) = some (r1, r2) := H
 have A3 := Aside0.mk A30
 clear A30
 by_cases c4 : t390 = 0
 ·rw [if_pos c4] at H
  have c4b0 : (t390 == 0) = true := beq_iff_eq.mpr c4
  have c4b1 : (t390 != 0) = false := bne_eq_false_iff_eq.mpr c4
  clear c4
  replace H := Option.bind_eq_some_iff.mp H
  obtain ⟨t391, A50, H⟩ := H
  replace H : (some ((t391 == a1_3), t390)) = some (r1, r2) := H
  have A5 := Aside0.mk A50
  clear A50
  simp only [Option.some.injEq, Prod.mk.injEq] at H
  obtain ⟨rfl, rfl⟩ := H
  go_enter Try.func78, Try.ntmps78
  go_wp2_with (first | ((with_reducible refine gate_dst (N := 3) rfl ?_); refine box_event ?hg (N := 3) ?hd (cs := #[.int .i64 a1_0, .int .i64 a1_1, .int .i64 a1_2, .int .i64 a1_3]) (t := 25) ?hr ?_; (case hd => rfl); (case hg => rfl); (case hr => first | (go_simp; done) | (go_simp; rfl)); intro gb388 hg w6 hbox hb; have n0_ := Aside0.mk (below_step q2_ hb); have n1_ := Aside0.mk (hbox); have n2_ := Aside0.mk ((by rw [hg]; exact (below_size q2_) : w.heap.size ≤ gb388)); have n3_ := Aside0.mk ((by rw [hg]; exact (below_size q2_) : w.heap.size ≤ gb388)); clear HB; have HB := n0_; have BK388 := n1_; have GW388 := n2_; have GE388 := n3_; clear n0_ n1_ n2_ n3_; clear hb hbox hg; have hcz7_0 : w6.cell? ⟨gb388, 0, none⟩ = some (.int .i64 a1_0) := (blk_cell BK388.out 0).trans rfl; have hcz7_1 : w6.cell? ⟨gb388, 1, none⟩ = some (.int .i64 a1_1) := (blk_cell BK388.out 1).trans rfl; have hcz7_2 : w6.cell? ⟨gb388, 2, none⟩ = some (.int .i64 a1_2) := (blk_cell BK388.out 2).trans rfl; have hcz7_3 : w6.cell? ⟨gb388, 3, none⟩ = some (.int .i64 a1_3) := (blk_cell BK388.out 3).trans rfl; have hfz7_0 := blk_frozen BK388.out 0; have hfz7_1 := blk_frozen BK388.out 1; have hfz7_2 := blk_frozen BK388.out 2; have hfz7_3 := blk_frozen BK388.out 3) | (go_at_call 85; (with_reducible refine (skiffref1_ImageOf.calls a0 a1_0 a1_1 a1_2 a1_3 t389 t390 _ A3.out).mono ?_); rintro e w8 ⟨rfl, hb⟩; have n0_ := Aside0.mk (blk_below (g := gb388) (o := .cells #[.int .i64 a1_0, .int .i64 a1_1, .int .i64 a1_2, .int .i64 a1_3] 25 (0, 0)) (by (with_reducible repeat (first | refine blk_drewN ?_ _ | refine blk_drew ?_ | refine blk_alloc ?_ _)); exact BK388.out) hb); have n1_ := Aside0.mk (below_step (by repeat (first | (with_reducible first | exact HB.out | apply below_alloc | apply pw_below_drewN | apply below_drew1 | refine below_set ?_ GE388.out) | exact HB.out)) hb); clear BK388; clear HB; have BK388 := n0_; have HB := n1_; clear n0_ n1_; (try clear hb); (try clear hb2); (try clear hk); (try clear hi)) | (go_at_call 14; (with_reducible refine (skiffref1_Crc.calls k t389 t391 _ A5.out).mono ?_); rintro e w' ⟨rfl, ⟨nd, rfl⟩⟩; (try first | exact ⟨rfl, _, World.drewN_drewN _ _ _⟩ | exact ⟨rfl, _, Eq.trans (World.drewN_drewN _ _ _) (congrArg (World.drewN _) (Nat.add_assoc _ _ _))⟩); have hcz9_0 : w8.cell? ⟨gb388, 0, none⟩ = some (.int .i64 a1_0) := (blk_cell BK388.out 0).trans rfl; have hcz9_1 : w8.cell? ⟨gb388, 1, none⟩ = some (.int .i64 a1_1) := (blk_cell BK388.out 1).trans rfl; have hcz9_2 : w8.cell? ⟨gb388, 2, none⟩ = some (.int .i64 a1_2) := (blk_cell BK388.out 2).trans rfl; have hcz9_3 : w8.cell? ⟨gb388, 3, none⟩ = some (.int .i64 a1_3) := (blk_cell BK388.out 3).trans rfl; have hfz9_0 := blk_frozen BK388.out 0; have hfz9_1 := blk_frozen BK388.out 1; have hfz9_2 := blk_frozen BK388.out 2; have hfz9_3 := blk_frozen BK388.out 3))
  repeat (go_quiet (first | ((with_reducible refine gate_dst (N := 3) rfl ?_); refine box_event ?hg (N := 3) ?hd (cs := #[.int .i64 a1_0, .int .i64 a1_1, .int .i64 a1_2, .int .i64 a1_3]) (t := 25) ?hr ?_; (case hd => rfl); (case hg => rfl); (case hr => first | (go_simp; done) | (go_simp; rfl)); intro gb388 hg w6 hbox hb; have n0_ := Aside0.mk (below_step q2_ hb); have n1_ := Aside0.mk (hbox); have n2_ := Aside0.mk ((by rw [hg]; exact (below_size q2_) : w.heap.size ≤ gb388)); have n3_ := Aside0.mk ((by rw [hg]; exact (below_size q2_) : w.heap.size ≤ gb388)); clear HB; have HB := n0_; have BK388 := n1_; have GW388 := n2_; have GE388 := n3_; clear n0_ n1_ n2_ n3_; clear hb hbox hg; have hcz7_0 : w6.cell? ⟨gb388, 0, none⟩ = some (.int .i64 a1_0) := (blk_cell BK388.out 0).trans rfl; have hcz7_1 : w6.cell? ⟨gb388, 1, none⟩ = some (.int .i64 a1_1) := (blk_cell BK388.out 1).trans rfl; have hcz7_2 : w6.cell? ⟨gb388, 2, none⟩ = some (.int .i64 a1_2) := (blk_cell BK388.out 2).trans rfl; have hcz7_3 : w6.cell? ⟨gb388, 3, none⟩ = some (.int .i64 a1_3) := (blk_cell BK388.out 3).trans rfl; have hfz7_0 := blk_frozen BK388.out 0; have hfz7_1 := blk_frozen BK388.out 1; have hfz7_2 := blk_frozen BK388.out 2; have hfz7_3 := blk_frozen BK388.out 3) | (go_at_call 85; (with_reducible refine (skiffref1_ImageOf.calls a0 a1_0 a1_1 a1_2 a1_3 t389 t390 _ A3.out).mono ?_); rintro e w8 ⟨rfl, hb⟩; have n0_ := Aside0.mk (blk_below (g := gb388) (o := .cells #[.int .i64 a1_0, .int .i64 a1_1, .int .i64 a1_2, .int .i64 a1_3] 25 (0, 0)) (by (with_reducible repeat (first | refine blk_drewN ?_ _ | refine blk_drew ?_ | refine blk_alloc ?_ _)); exact BK388.out) hb); have n1_ := Aside0.mk (below_step (by repeat (first | (with_reducible first | exact HB.out | apply below_alloc | apply pw_below_drewN | apply below_drew1 | refine below_set ?_ GE388.out) | exact HB.out)) hb); clear BK388; clear HB; have BK388 := n0_; have HB := n1_; clear n0_ n1_; (try clear hb); (try clear hb2); (try clear hk); (try clear hi)) | (go_at_call 14; (with_reducible refine (skiffref1_Crc.calls k t389 t391 _ A5.out).mono ?_); rintro e w' ⟨rfl, ⟨nd, rfl⟩⟩; (try first | exact ⟨rfl, _, World.drewN_drewN _ _ _⟩ | exact ⟨rfl, _, Eq.trans (World.drewN_drewN _ _ _) (congrArg (World.drewN _) (Nat.add_assoc _ _ _))⟩); have hcz9_0 : w8.cell? ⟨gb388, 0, none⟩ = some (.int .i64 a1_0) := (blk_cell BK388.out 0).trans rfl; have hcz9_1 : w8.cell? ⟨gb388, 1, none⟩ = some (.int .i64 a1_1) := (blk_cell BK388.out 1).trans rfl; have hcz9_2 : w8.cell? ⟨gb388, 2, none⟩ = some (.int .i64 a1_2) := (blk_cell BK388.out 2).trans rfl; have hcz9_3 : w8.cell? ⟨gb388, 3, none⟩ = some (.int .i64 a1_3) := (blk_cell BK388.out 3).trans rfl; have hfz9_0 := blk_frozen BK388.out 0; have hfz9_1 := blk_frozen BK388.out 1; have hfz9_2 := blk_frozen BK388.out 2; have hfz9_3 := blk_frozen BK388.out 3)); try go_wp2_with (first | ((with_reducible refine gate_dst (N := 3) rfl ?_); refine box_event ?hg (N := 3) ?hd (cs := #[.int .i64 a1_0, .int .i64 a1_1, .int .i64 a1_2, .int .i64 a1_3]) (t := 25) ?hr ?_; (case hd => rfl); (case hg => rfl); (case hr => first | (go_simp; done) | (go_simp; rfl)); intro gb388 hg w6 hbox hb; have n0_ := Aside0.mk (below_step q2_ hb); have n1_ := Aside0.mk (hbox); have n2_ := Aside0.mk ((by rw [hg]; exact (below_size q2_) : w.heap.size ≤ gb388)); have n3_ := Aside0.mk ((by rw [hg]; exact (below_size q2_) : w.heap.size ≤ gb388)); clear HB; have HB := n0_; have BK388 := n1_; have GW388 := n2_; have GE388 := n3_; clear n0_ n1_ n2_ n3_; clear hb hbox hg; have hcz7_0 : w6.cell? ⟨gb388, 0, none⟩ = some (.int .i64 a1_0) := (blk_cell BK388.out 0).trans rfl; have hcz7_1 : w6.cell? ⟨gb388, 1, none⟩ = some (.int .i64 a1_1) := (blk_cell BK388.out 1).trans rfl; have hcz7_2 : w6.cell? ⟨gb388, 2, none⟩ = some (.int .i64 a1_2) := (blk_cell BK388.out 2).trans rfl; have hcz7_3 : w6.cell? ⟨gb388, 3, none⟩ = some (.int .i64 a1_3) := (blk_cell BK388.out 3).trans rfl; have hfz7_0 := blk_frozen BK388.out 0; have hfz7_1 := blk_frozen BK388.out 1; have hfz7_2 := blk_frozen BK388.out 2; have hfz7_3 := blk_frozen BK388.out 3) | (go_at_call 85; (with_reducible refine (skiffref1_ImageOf.calls a0 a1_0 a1_1 a1_2 a1_3 t389 t390 _ A3.out).mono ?_); rintro e w8 ⟨rfl, hb⟩; have n0_ := Aside0.mk (blk_below (g := gb388) (o := .cells #[.int .i64 a1_0, .int .i64 a1_1, .int .i64 a1_2, .int .i64 a1_3] 25 (0, 0)) (by (with_reducible repeat (first | refine blk_drewN ?_ _ | refine blk_drew ?_ | refine blk_alloc ?_ _)); exact BK388.out) hb); have n1_ := Aside0.mk (below_step (by repeat (first | (with_reducible first | exact HB.out | apply below_alloc | apply pw_below_drewN | apply below_drew1 | refine below_set ?_ GE388.out) | exact HB.out)) hb); clear BK388; clear HB; have BK388 := n0_; have HB := n1_; clear n0_ n1_; (try clear hb); (try clear hb2); (try clear hk); (try clear hi)) | (go_at_call 14; (with_reducible refine (skiffref1_Crc.calls k t389 t391 _ A5.out).mono ?_); rintro e w' ⟨rfl, ⟨nd, rfl⟩⟩; (try first | exact ⟨rfl, _, World.drewN_drewN _ _ _⟩ | exact ⟨rfl, _, Eq.trans (World.drewN_drewN _ _ _) (congrArg (World.drewN _) (Nat.add_assoc _ _ _))⟩); have hcz9_0 : w8.cell? ⟨gb388, 0, none⟩ = some (.int .i64 a1_0) := (blk_cell BK388.out 0).trans rfl; have hcz9_1 : w8.cell? ⟨gb388, 1, none⟩ = some (.int .i64 a1_1) := (blk_cell BK388.out 1).trans rfl; have hcz9_2 : w8.cell? ⟨gb388, 2, none⟩ = some (.int .i64 a1_2) := (blk_cell BK388.out 2).trans rfl; have hcz9_3 : w8.cell? ⟨gb388, 3, none⟩ = some (.int .i64 a1_3) := (blk_cell BK388.out 3).trans rfl; have hfz9_0 := blk_frozen BK388.out 0; have hfz9_1 := blk_frozen BK388.out 1; have hfz9_2 := blk_frozen BK388.out 2; have hfz9_3 := blk_frozen BK388.out 3)))
  go_ret2
  exact ⟨by first | rfl | (simp [errW_none, errW_some] <;> rfl) | (simp [*, errW_none, errW_some] <;> rfl), by repeat (first | (with_reducible first | exact HB.out | apply below_alloc | apply pw_below_drewN | apply below_drew1 | refine below_set ?_ GE388.out) | exact HB.out)⟩
 ·rw [if_neg c4] at H
  have c4b0 : (t390 == 0) = false := beq_eq_false_iff_ne.mpr c4
  have c4b1 : (t390 != 0) = true := bne_iff_ne.mpr c4
  simp only [Option.some.injEq, Prod.mk.injEq] at H
  obtain ⟨rfl, rfl⟩ := H
  go_enter Try.func78, Try.ntmps78
  go_wp2_with (first | ((with_reducible refine gate_dst (N := 3) rfl ?_); refine box_event ?hg (N := 3) ?hd (cs := #[.int .i64 a1_0, .int .i64 a1_1, .int .i64 a1_2, .int .i64 a1_3]) (t := 25) ?hr ?_; (case hd => rfl); (case hg => rfl); (case hr => first | (go_simp; done) | (go_simp; rfl)); intro gb388 hg w10 hbox hb; have n0_ := Aside0.mk (below_step q2_ hb); have n1_ := Aside0.mk (hbox); have n2_ := Aside0.mk ((by rw [hg]; exact (below_size q2_) : w.heap.size ≤ gb388)); have n3_ := Aside0.mk ((by rw [hg]; exact (below_size q2_) : w.heap.size ≤ gb388)); clear HB; have HB := n0_; have BK388 := n1_; have GW388 := n2_; have GE388 := n3_; clear n0_ n1_ n2_ n3_; clear hb hbox hg; have hcz11_0 : w10.cell? ⟨gb388, 0, none⟩ = some (.int .i64 a1_0) := (blk_cell BK388.out 0).trans rfl; have hcz11_1 : w10.cell? ⟨gb388, 1, none⟩ = some (.int .i64 a1_1) := (blk_cell BK388.out 1).trans rfl; have hcz11_2 : w10.cell? ⟨gb388, 2, none⟩ = some (.int .i64 a1_2) := (blk_cell BK388.out 2).trans rfl; have hcz11_3 : w10.cell? ⟨gb388, 3, none⟩ = some (.int .i64 a1_3) := (blk_cell BK388.out 3).trans rfl; have hfz11_0 := blk_frozen BK388.out 0; have hfz11_1 := blk_frozen BK388.out 1; have hfz11_2 := blk_frozen BK388.out 2; have hfz11_3 := blk_frozen BK388.out 3) | (go_at_call 85; (with_reducible refine (skiffref1_ImageOf.calls a0 a1_0 a1_1 a1_2 a1_3 t389 t390 _ A3.out).mono ?_); rintro e w12 ⟨rfl, hb⟩; have n0_ := Aside0.mk (blk_below (g := gb388) (o := .cells #[.int .i64 a1_0, .int .i64 a1_1, .int .i64 a1_2, .int .i64 a1_3] 25 (0, 0)) (by (with_reducible repeat (first | refine blk_drewN ?_ _ | refine blk_drew ?_ | refine blk_alloc ?_ _)); exact BK388.out) hb); have n1_ := Aside0.mk (below_step (by repeat (first | (with_reducible first | exact HB.out | apply below_alloc | apply pw_below_drewN | apply below_drew1 | refine below_set ?_ GE388.out) | exact HB.out)) hb); clear BK388; clear HB; have BK388 := n0_; have HB := n1_; clear n0_ n1_; (try clear hb); (try clear hb2); (try clear hk); (try clear hi)))
  repeat (go_quiet (first | ((with_reducible refine gate_dst (N := 3) rfl ?_); refine box_event ?hg (N := 3) ?hd (cs := #[.int .i64 a1_0, .int .i64 a1_1, .int .i64 a1_2, .int .i64 a1_3]) (t := 25) ?hr ?_; (case hd => rfl); (case hg => rfl); (case hr => first | (go_simp; done) | (go_simp; rfl)); intro gb388 hg w10 hbox hb; have n0_ := Aside0.mk (below_step q2_ hb); have n1_ := Aside0.mk (hbox); have n2_ := Aside0.mk ((by rw [hg]; exact (below_size q2_) : w.heap.size ≤ gb388)); have n3_ := Aside0.mk ((by rw [hg]; exact (below_size q2_) : w.heap.size ≤ gb388)); clear HB; have HB := n0_; have BK388 := n1_; have GW388 := n2_; have GE388 := n3_; clear n0_ n1_ n2_ n3_; clear hb hbox hg; have hcz11_0 : w10.cell? ⟨gb388, 0, none⟩ = some (.int .i64 a1_0) := (blk_cell BK388.out 0).trans rfl; have hcz11_1 : w10.cell? ⟨gb388, 1, none⟩ = some (.int .i64 a1_1) := (blk_cell BK388.out 1).trans rfl; have hcz11_2 : w10.cell? ⟨gb388, 2, none⟩ = some (.int .i64 a1_2) := (blk_cell BK388.out 2).trans rfl; have hcz11_3 : w10.cell? ⟨gb388, 3, none⟩ = some (.int .i64 a1_3) := (blk_cell BK388.out 3).trans rfl; have hfz11_0 := blk_frozen BK388.out 0; have hfz11_1 := blk_frozen BK388.out 1; have hfz11_2 := blk_frozen BK388.out 2; have hfz11_3 := blk_frozen BK388.out 3) | (go_at_call 85; (with_reducible refine (skiffref1_ImageOf.calls a0 a1_0 a1_1 a1_2 a1_3 t389 t390 _ A3.out).mono ?_); rintro e w12 ⟨rfl, hb⟩; have n0_ := Aside0.mk (blk_below (g := gb388) (o := .cells #[.int .i64 a1_0, .int .i64 a1_1, .int .i64 a1_2, .int .i64 a1_3] 25 (0, 0)) (by (with_reducible repeat (first | refine blk_drewN ?_ _ | refine blk_drew ?_ | refine blk_alloc ?_ _)); exact BK388.out) hb); have n1_ := Aside0.mk (below_step (by repeat (first | (with_reducible first | exact HB.out | apply below_alloc | apply pw_below_drewN | apply below_drew1 | refine below_set ?_ GE388.out) | exact HB.out)) hb); clear BK388; clear HB; have BK388 := n0_; have HB := n1_; clear n0_ n1_; (try clear hb); (try clear hb2); (try clear hk); (try clear hi))); try go_wp2_with (first | ((with_reducible refine gate_dst (N := 3) rfl ?_); refine box_event ?hg (N := 3) ?hd (cs := #[.int .i64 a1_0, .int .i64 a1_1, .int .i64 a1_2, .int .i64 a1_3]) (t := 25) ?hr ?_; (case hd => rfl); (case hg => rfl); (case hr => first | (go_simp; done) | (go_simp; rfl)); intro gb388 hg w10 hbox hb; have n0_ := Aside0.mk (below_step q2_ hb); have n1_ := Aside0.mk (hbox); have n2_ := Aside0.mk ((by rw [hg]; exact (below_size q2_) : w.heap.size ≤ gb388)); have n3_ := Aside0.mk ((by rw [hg]; exact (below_size q2_) : w.heap.size ≤ gb388)); clear HB; have HB := n0_; have BK388 := n1_; have GW388 := n2_; have GE388 := n3_; clear n0_ n1_ n2_ n3_; clear hb hbox hg; have hcz11_0 : w10.cell? ⟨gb388, 0, none⟩ = some (.int .i64 a1_0) := (blk_cell BK388.out 0).trans rfl; have hcz11_1 : w10.cell? ⟨gb388, 1, none⟩ = some (.int .i64 a1_1) := (blk_cell BK388.out 1).trans rfl; have hcz11_2 : w10.cell? ⟨gb388, 2, none⟩ = some (.int .i64 a1_2) := (blk_cell BK388.out 2).trans rfl; have hcz11_3 : w10.cell? ⟨gb388, 3, none⟩ = some (.int .i64 a1_3) := (blk_cell BK388.out 3).trans rfl; have hfz11_0 := blk_frozen BK388.out 0; have hfz11_1 := blk_frozen BK388.out 1; have hfz11_2 := blk_frozen BK388.out 2; have hfz11_3 := blk_frozen BK388.out 3) | (go_at_call 85; (with_reducible refine (skiffref1_ImageOf.calls a0 a1_0 a1_1 a1_2 a1_3 t389 t390 _ A3.out).mono ?_); rintro e w12 ⟨rfl, hb⟩; have n0_ := Aside0.mk (blk_below (g := gb388) (o := .cells #[.int .i64 a1_0, .int .i64 a1_1, .int .i64 a1_2, .int .i64 a1_3] 25 (0, 0)) (by (with_reducible repeat (first | refine blk_drewN ?_ _ | refine blk_drew ?_ | refine blk_alloc ?_ _)); exact BK388.out) hb); have n1_ := Aside0.mk (below_step (by repeat (first | (with_reducible first | exact HB.out | apply below_alloc | apply pw_below_drewN | apply below_drew1 | refine below_set ?_ GE388.out) | exact HB.out)) hb); clear BK388; clear HB; have BK388 := n0_; have HB := n1_; clear n0_ n1_; (try clear hb); (try clear hb2); (try clear hk); (try clear hi))))
  go_ret2
  exact ⟨by first | rfl | (simp [errW_none, errW_some] <;> rfl) | (simp [*, errW_none, errW_some] <;> rfl), by repeat (first | (with_reducible first | exact HB.out | apply below_alloc | apply pw_below_drewN | apply below_drew1 | refine below_set ?_ GE388.out) | exact HB.out)⟩
end Go.Proofs.Ytjihlabmddfjhaa.PAll

