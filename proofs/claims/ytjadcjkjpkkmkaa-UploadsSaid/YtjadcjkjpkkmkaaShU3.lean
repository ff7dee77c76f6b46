import Derived.Test.YtjadcjkjpkkmkaaShU2
-- Laid together from this session's own texts by its program wip/tools/shake.py.
namespace Go.Proofs.Ytjadcjkjpkkmkaa.PSc
open Go.RowKit Go.Proofs.YtjadcjkjpkkmkaaW.PrintWords Go.Proofs.YtjadcjkjpkkmkaaW.PrintLast Go.Proofs.YtjadcjkjpkkmkaaW.PrintMore
attribute [local go_sem] max2_int min2_int max_two min_two max_three min_three max_four min_four   -- for this text's walks alone
set_option linter.unusedVariables false
set_option linter.unusedSimpArgs false
def choose_queue_Less.f (l0 : List (S25)) (a1 : Int) (a2 : Int) : Option (Bool) := if 0 ≤ a1 then (if a1 < (l0.length : Int) then (if 0 ≤ a2 then (if a2 < (l0.length : Int) then (if ((rd_T25 l0 a1).f1.f0) = ((rd_T25 l0 a2).f1.f0) then (some (decide (((rd_T25 l0 a1).f0) > ((rd_T25 l0 a2).f0)))) else (some (decide (((rd_T25 l0 a1).f1.f0) > ((rd_T25 l0 a2).f1.f0))))) else (none)) else (none)) else (none)) else (none)
def choose_queue_Less.T1 : Bool × List (List Nat × List Nat) := (true, [([], []), ([], []), ([0, 1], [0, 1]), ([2], [2]), ([], []), ([], []), ([4, 5], [4, 5]), ([6], [6]), ([], []), ([], []), ([8, 3, 0, 1, 2, 3, 8, 9], [3, 8]), ([9, 7, 10, 0, 1, 2, 3, 4, 5, 6, 7, 8, 9, 10], [7, 9])])
def choose_queue_Less.B1 : List Nat := [0, 0, 3, 7, 0, 0, 48, 112, 0, 0, 783, 2047]
theorem choose_queue_Less.tab1 : rtab .any (opsOf Try.f111 1) = choose_queue_Less.T1 := by kernel_rfl
theorem choose_queue_Less.bits1 : waitsOk choose_queue_Less.T1.2 choose_queue_Less.B1 = true := by kernel_rfl
set_option maxHeartbeats 8000000 in
set_option maxRecDepth 100000 in
theorem choose_queue_Less.calls (A0 : Option Addr) (c0 : Nat) (l0 : List (S25)) (a1 : Int) (a2 : Int) (r : Bool) (w : World) (hr0 : Kd.C k25 w A0 l0.length l0) (hc0 : l0.length ≤ c0) (h : choose_queue_Less.f l0 a1 a2 = some r) :
  Calls Try.prog 111 #[.slice A0 l0.length c0, .int .i64 a1, .int .i64 a2] w fun e w' => e = .returned (.bool r) ∧ Below w.heap.size w w' := by
 have hu25 := Try.underlying25
 have HR0 := Aside0.mk hr0
 have HC0 := Aside0.mk hc0
 clear hr0 hc0
 have HB := Aside0.mk (Below.refl w.heap.size w)
 have H : (if 0 ≤ a1 then (if a1 < (l0.length : Int) then (if 0 ≤ a2 then (if a2 < (l0.length : Int) then (if ((rd_T25 l0 a1).f1.f0) = ((rd_T25 l0 a2).f1.f0) then (some (decide (((rd_T25 l0 a1).f0) > ((rd_T25 l0 a2).f0)))) else (some (decide (((rd_T25 l0 a1).f1.f0) > ((rd_T25 l0 a2).f1.f0))))) else (none)) else (none)) else (none)) else (none)) = some r := h
 clear h
 by_cases c4 : 0 ≤ a1
 ·rw [if_pos c4] at H
  have c4b0 : decide (0 ≤ a1) = true := decide_eq_true c4
  clear c4
  by_cases c5 : a1 < (l0.length : Int)
  ·rw [if_pos c5] at H
   have c5b0 : decide (a1 < (l0.length : Int)) = true := decide_eq_true c5
   clear c5
   by_cases c6 : 0 ≤ a2
   ·rw [if_pos c6] at H
    have c6b0 : decide (0 ≤ a2) = true := decide_eq_true c6
    clear c6
    by_cases c7 : a2 < (l0.length : Int)
    ·rw [if_pos c7] at H
     have c7b0 : decide (a2 < (l0.length : Int)) = true := decide_eq_true c7
     clear c7
     by_cases c8 : ((rd_T25 l0 a1).f1.f0) = ((rd_T25 l0 a2).f1.f0)
     ·rw [if_pos c8] at H
      have c8b0 : (((rd_T25 l0 a1).f1.f0) == ((rd_T25 l0 a2).f1.f0)) = true := beq_iff_eq.mpr c8
      have c8b1 : (((rd_T25 l0 a1).f1.f0) != ((rd_T25 l0 a2).f1.f0)) = false := bne_eq_false_iff_eq.mpr c8
      clear c8
      obtain rfl := Option.some.inj H
      go_enter Try.func111, Try.ntmps111
      try go_wp2
      have n0_ := Aside0.mk (below_drew1 HB.out)
      clear HB
      have HB := n0_
      clear n0_
      have p139 : 0 ≤ (a1 : Int) := of_decide_eq_true q16_
      have q139 : a1 < (l0.length : Int) := of_decide_eq_true q16_
      obtain ⟨ad139, e139, hx139_0, hx139_1, hx139_2, hx139_3, hx139_4⟩ := at_T25 HR0.out a1 p139 q139
      have hw139_4 := hx139_4
      have hw139_3 := hx139_3
      have hw139_2 := hx139_2
      have hw139_1 := hx139_1
      have hw139_0 := hx139_0
      cases e139
      replace hx139_0 := (HB.out.cell (World.block_lt_of_cell? w _ hx139_0)).trans hx139_0
      replace hx139_1 := (HB.out.cell (World.block_lt_of_cell? w _ hx139_1)).trans hx139_1
      replace hx139_2 := (HB.out.cell (World.block_lt_of_cell? w _ hx139_2)).trans hx139_2
      replace hx139_3 := (HB.out.cell (World.block_lt_of_cell? w _ hx139_3)).trans hx139_3
      replace hx139_4 := (HB.out.cell (World.block_lt_of_cell? w _ hx139_4)).trans hx139_4
      replace p139 := eq_true p139
      replace q139 := eq_true q139
      have p140 : 0 ≤ (a2 : Int) := of_decide_eq_true q16_
      have q140 : a2 < (l0.length : Int) := of_decide_eq_true q16_
      obtain ⟨ad140, e140, hx140_0, hx140_1, hx140_2, hx140_3, hx140_4⟩ := at_T25 HR0.out a2 p140 q140
      have hw140_4 := hx140_4
      have hw140_3 := hx140_3
      have hw140_2 := hx140_2
      have hw140_1 := hx140_1
      have hw140_0 := hx140_0
      obtain rfl : ad139 = ad140 := (by injection e140)
      replace hx140_0 := (HB.out.cell (World.block_lt_of_cell? w _ hx140_0)).trans hx140_0
      replace hx140_1 := (HB.out.cell (World.block_lt_of_cell? w _ hx140_1)).trans hx140_1
      replace hx140_2 := (HB.out.cell (World.block_lt_of_cell? w _ hx140_2)).trans hx140_2
      replace hx140_3 := (HB.out.cell (World.block_lt_of_cell? w _ hx140_3)).trans hx140_3
      replace hx140_4 := (HB.out.cell (World.block_lt_of_cell? w _ hx140_4)).trans hx140_4
      replace p140 := eq_true p140
      replace q140 := eq_true q140
      refine start_ (n := 12) (S := fun w' => w'.cell? (ad139.add ((a1).toNat * 5)) = some (.int .i64 ((rd_T25 l0 a1).f0)) ∧ w'.cell? ⟨(ad139.add ((a1).toNat * 5)).block, (ad139.add ((a1).toNat * 5)).off + 1, none⟩ = some (.int .i64 ((rd_T25 l0 a1).f1.f0)) ∧ w'.cell? ⟨(ad139.add ((a1).toNat * 5)).block, (ad139.add ((a1).toNat * 5)).off + 2, none⟩ = some (.int .i64 ((rd_T25 l0 a1).f1.f1)) ∧ w'.cell? ⟨(ad139.add ((a1).toNat * 5)).block, (ad139.add ((a1).toNat * 5)).off + 3, none⟩ = some (.int .i64 ((rd_T25 l0 a1).f1.f2)) ∧ w'.cell? ⟨(ad139.add ((a1).toNat * 5)).block, (ad139.add ((a1).toNat * 5)).off + 4, none⟩ = some (.int .i64 ((rd_T25 l0 a1).f1.f3)) ∧ w'.cell? (ad139.add ((a2).toNat * 5)) = some (.int .i64 ((rd_T25 l0 a2).f0)) ∧ w'.cell? ⟨(ad139.add ((a2).toNat * 5)).block, (ad139.add ((a2).toNat * 5)).off + 1, none⟩ = some (.int .i64 ((rd_T25 l0 a2).f1.f0)) ∧ w'.cell? ⟨(ad139.add ((a2).toNat * 5)).block, (ad139.add ((a2).toNat * 5)).off + 2, none⟩ = some (.int .i64 ((rd_T25 l0 a2).f1.f1)) ∧ w'.cell? ⟨(ad139.add ((a2).toNat * 5)).block, (ad139.add ((a2).toNat * 5)).off + 3, none⟩ = some (.int .i64 ((rd_T25 l0 a2).f1.f2)) ∧ w'.cell? ⟨(ad139.add ((a2).toNat * 5)).block, (ad139.add ((a2).toNat * 5)).off + 4, none⟩ = some (.int .i64 ((rd_T25 l0 a2).f1.f3))) (ds := []) #[false, false, false, false, false, false, false, false, false, false, false, false] (by kernel_rfl) rfl rfl ⟨((HB.out.cell (World.block_lt_of_cell? w _ hw139_0)).trans hw139_0), ((HB.out.cell (World.block_lt_of_cell? w _ hw139_1)).trans hw139_1), ((HB.out.cell (World.block_lt_of_cell? w _ hw139_2)).trans hw139_2), ((HB.out.cell (World.block_lt_of_cell? w _ hw139_3)).trans hw139_3), ((HB.out.cell (World.block_lt_of_cell? w _ hw139_4)).trans hw139_4), ((HB.out.cell (World.block_lt_of_cell? w _ hw140_0)).trans hw140_0), ((HB.out.cell (World.block_lt_of_cell? w _ hw140_1)).trans hw140_1), ((HB.out.cell (World.block_lt_of_cell? w _ hw140_2)).trans hw140_2), ((HB.out.cell (World.block_lt_of_cell? w _ hw140_3)).trans hw140_3), ((HB.out.cell (World.block_lt_of_cell? w _ hw140_4)).trans hw140_4)⟩ (fun hHeld => ?_); refine with_tabW choose_queue_Less.tab1 choose_queue_Less.bits1 (fun HT_ HW_ => ?_)
      generalize w.drew = w9 at HB hx139_0 hx139_1 hx139_2 hx139_3 hx139_4 hx140_0 hx140_1 hx140_2 hx140_3 hx140_4 hHeld ⊢
      refine pure_ (i := 0) (N := some 9) (v := ?_) (a' := ?_) #[true, false, false, false, false, false, false, false, false, false, false, false] rfl rfl (any_of HT_.out (by kernel_rfl)) (fun _ _ _ h => h) (Or.inl ⟨by rfl, ?_⟩) ?_ ?_
      rotate_left
      ·intro w'
       go_simp
       with_reducible rfl
      rotate_left
      ·simp only [Act.put, List.setIfInBounds_toArray, List.set_cons_zero, List.set_cons_succ, i64_w, i32_w]
       rfl
      refine pure_ (i := 1) (N := some 10) (v := ?_) (a' := ?_) #[true, true, false, false, false, false, false, false, false, false, false, false] rfl rfl (any_of HT_.out (by kernel_rfl)) (fun _ _ _ h => h) (Or.inl ⟨by rfl, ?_⟩) ?_ ?_
      rotate_left
      ·intro w'
       go_simp
       with_reducible rfl
      rotate_left
      ·simp only [Act.put, List.setIfInBounds_toArray, List.set_cons_zero, List.set_cons_succ, i64_w, i32_w]
       rfl
      refine pure_ (i := 2) (N := some 11) (v := ?_) (a' := ?_) #[true, true, true, false, false, false, false, false, false, false, false, false] rfl rfl (any_of HT_.out (by kernel_rfl)) (fun _ _ _ h => h) (Or.inl ⟨by rfl, ?_⟩) ?_ ?_
      rotate_left
      ·intro w'
       go_simp
       with_reducible rfl
      rotate_left
      ·simp only [Act.put, List.setIfInBounds_toArray, List.set_cons_zero, List.set_cons_succ, i64_w, i32_w]
       rfl
      refine pure_ (i := 4) (N := some 13) (v := ?_) (a' := ?_) #[true, true, true, false, true, false, false, false, false, false, false, false] rfl rfl (any_of HT_.out (by kernel_rfl)) (fun _ _ _ h => h) (Or.inl ⟨by rfl, ?_⟩) ?_ ?_
      rotate_left
      ·intro w'
       go_simp
       with_reducible rfl
      rotate_left
      ·simp only [Act.put, List.setIfInBounds_toArray, List.set_cons_zero, List.set_cons_succ, i64_w, i32_w]
       rfl
      refine pure_ (i := 5) (N := some 14) (v := ?_) (a' := ?_) #[true, true, true, false, true, true, false, false, false, false, false, false] rfl rfl (any_of HT_.out (by kernel_rfl)) (fun _ _ _ h => h) (Or.inl ⟨by rfl, ?_⟩) ?_ ?_
      rotate_left
      ·intro w'
       go_simp
       with_reducible rfl
      rotate_left
      ·simp only [Act.put, List.setIfInBounds_toArray, List.set_cons_zero, List.set_cons_succ, i64_w, i32_w]
       rfl
      refine pure_ (i := 6) (N := some 15) (v := ?_) (a' := ?_) #[true, true, true, false, true, true, true, false, false, false, false, false] rfl rfl (any_of HT_.out (by kernel_rfl)) (fun _ _ _ h => h) (Or.inl ⟨by rfl, ?_⟩) ?_ ?_
      rotate_left
      ·intro w'
       go_simp
       with_reducible rfl
      rotate_left
      ·simp only [Act.put, List.setIfInBounds_toArray, List.set_cons_zero, List.set_cons_succ, i64_w, i32_w]
       rfl
      refine take_ (i := 3) (N := some 12) (v := ?_) (a' := ?_) #[true, true, true, true, true, true, true, false, false, false, false, false] rfl rfl (take_ofW HT_.out HW_.out (by kernel_rfl)) (fun _ _ _ h => h) (Or.inl ⟨by rfl, ?_⟩) hHeld ?_ ?_
      rotate_left
      ·rintro w' ⟨s0, s1, s2, s3, s4, s5, s6, s7, s8, s9⟩
       go_simp
       with_reducible rfl
      rotate_left
      ·simp only [Act.put, List.setIfInBounds_toArray, List.set_cons_zero, List.set_cons_succ, i64_w, i32_w]
       rfl
      refine take_ (i := 7) (N := some 16) (v := ?_) (a' := ?_) #[true, true, true, true, true, true, true, true, false, false, false, false] rfl rfl (take_ofW HT_.out HW_.out (by kernel_rfl)) (fun _ _ _ h => h) (Or.inl ⟨by rfl, ?_⟩) hHeld ?_ ?_
      rotate_left
      ·rintro w' ⟨s0, s1, s2, s3, s4, s5, s6, s7, s8, s9⟩
       go_simp
       with_reducible rfl
      rotate_left
      ·simp only [Act.put, List.setIfInBounds_toArray, List.set_cons_zero, List.set_cons_succ, i64_w, i32_w]
       rfl
      refine join_ (σ := Nat × Nat) 2 #[true, true, true, true, true, true, true, true, true, true, false, false] (fun s_ => [(7, .pointer (some ⟨s_.1, 0, none⟩)), (8, .pointer (some ⟨s_.2, 0, none⟩))]) (fun s_ w' => (w'.cell? (ad139.add ((a1).toNat * 5)) = some (.int .i64 ((rd_T25 l0 a1).f0)) ∧ w'.cell? ⟨(ad139.add ((a1).toNat * 5)).block, (ad139.add ((a1).toNat * 5)).off + 1, none⟩ = some (.int .i64 ((rd_T25 l0 a1).f1.f0)) ∧ w'.cell? ⟨(ad139.add ((a1).toNat * 5)).block, (ad139.add ((a1).toNat * 5)).off + 2, none⟩ = some (.int .i64 ((rd_T25 l0 a1).f1.f1)) ∧ w'.cell? ⟨(ad139.add ((a1).toNat * 5)).block, (ad139.add ((a1).toNat * 5)).off + 3, none⟩ = some (.int .i64 ((rd_T25 l0 a1).f1.f2)) ∧ w'.cell? ⟨(ad139.add ((a1).toNat * 5)).block, (ad139.add ((a1).toNat * 5)).off + 4, none⟩ = some (.int .i64 ((rd_T25 l0 a1).f1.f3)) ∧ w'.cell? (ad139.add ((a2).toNat * 5)) = some (.int .i64 ((rd_T25 l0 a2).f0)) ∧ w'.cell? ⟨(ad139.add ((a2).toNat * 5)).block, (ad139.add ((a2).toNat * 5)).off + 1, none⟩ = some (.int .i64 ((rd_T25 l0 a2).f1.f0)) ∧ w'.cell? ⟨(ad139.add ((a2).toNat * 5)).block, (ad139.add ((a2).toNat * 5)).off + 2, none⟩ = some (.int .i64 ((rd_T25 l0 a2).f1.f1)) ∧ w'.cell? ⟨(ad139.add ((a2).toNat * 5)).block, (ad139.add ((a2).toNat * 5)).off + 3, none⟩ = some (.int .i64 ((rd_T25 l0 a2).f1.f2)) ∧ w'.cell? ⟨(ad139.add ((a2).toNat * 5)).block, (ad139.add ((a2).toNat * 5)).off + 4, none⟩ = some (.int .i64 ((rd_T25 l0 a2).f1.f3))) ∧ (w'.heap[s_.1]? = some (.cells #[.int .i64 0, .int .i64 0, .int .i64 0, .int .i64 0, .int .i64 0] 25 (0, 0))) ∧ (w'.heap[s_.2]? = some (.cells #[.int .i64 0, .int .i64 0, .int .i64 0, .int .i64 0, .int .i64 0] 25 (0, 0))) ∧ (w.heap.size ≤ s_.1) ∧ (w.heap.size ≤ s_.1) ∧ (s_.2 ≠ s_.1) ∧ (s_.1 ≠ s_.2) ∧ (w.heap.size ≤ s_.2) ∧ (w.heap.size ≤ s_.2) ∧ (Below w.heap.size w w')) ?_ ?_
      rotate_left
      ·intro hCont
       refine two_ (i := 8) (j := 9) (Ni := some 7) (Nj := some 8) #[true, true, true, true, true, true, true, true, true, false, false, false] #[true, true, true, true, true, true, true, true, false, true, false, false] rfl rfl rfl rfl (two_of HT_.out (by kernel_rfl)) (by decide) (by decide) (fun K hK => ?_) (fun K hK => ?_)
       ·skip
        refine box_step ?hg (N := 7) ?hd (cs := #[.int .i64 0, .int .i64 0, .int .i64 0, .int .i64 0, .int .i64 0]) (t := 25) ?hr ?_; (case hd => rfl); (case hg => rfl); (case hr => first | (go_simp; done) | (go_simp; rfl))
        intro gb141 hg w10 hbox hb
        have n0_ := Aside0.mk (below_step q2_ hb)
        have n1_ := Aside0.mk (hbox)
        have n2_ := Aside0.mk ((by rw [hg]; exact (below_size q2_) : w.heap.size ≤ gb141))
        have n3_ := Aside0.mk ((by rw [hg]; exact (below_size q2_) : w.heap.size ≤ gb141))
        clear HB
        have HB := n0_
        have BK141 := n1_
        have GW141 := n2_
        have GE141 := n3_
        clear n0_ n1_ n2_ n3_
        clear hb hbox hg
        refine hK.out _ _ ⟨((HB.out.cell (World.block_lt_of_cell? w _ hw139_0)).trans hw139_0), ((HB.out.cell (World.block_lt_of_cell? w _ hw139_1)).trans hw139_1), ((HB.out.cell (World.block_lt_of_cell? w _ hw139_2)).trans hw139_2), ((HB.out.cell (World.block_lt_of_cell? w _ hw139_3)).trans hw139_3), ((HB.out.cell (World.block_lt_of_cell? w _ hw139_4)).trans hw139_4), ((HB.out.cell (World.block_lt_of_cell? w _ hw140_0)).trans hw140_0), ((HB.out.cell (World.block_lt_of_cell? w _ hw140_1)).trans hw140_1), ((HB.out.cell (World.block_lt_of_cell? w _ hw140_2)).trans hw140_2), ((HB.out.cell (World.block_lt_of_cell? w _ hw140_3)).trans hw140_3), ((HB.out.cell (World.block_lt_of_cell? w _ hw140_4)).trans hw140_4)⟩ (fun hHeld => ?_)
        clear hK K
        refine norm_ (a' := ?_) ?_ ?_
        rotate_left
        ·show Act.put _ (some 7) _ = _
         simp only [Act.put, List.setIfInBounds_toArray, List.set_cons_zero, List.set_cons_succ, i64_w, i32_w]
         rfl
        refine one_ (i := 9) (N := some 8) #[true, true, true, true, true, true, true, true, true, true, false, false] rfl rfl (one_of HT_.out (by kernel_rfl)) (by decide) (fun K hK => ?_)
        refine box_step ?hg (N := 8) ?hd (cs := #[.int .i64 0, .int .i64 0, .int .i64 0, .int .i64 0, .int .i64 0]) (t := 25) ?hr ?_; (case hd => rfl); (case hg => rfl); (case hr => first | (go_simp; done) | (go_simp; rfl))
        intro gb142 hg w11 hbox hb
        have n0_ := Aside0.mk (blk_below (g := gb141) (o := .cells #[.int .i64 0, .int .i64 0, .int .i64 0, .int .i64 0, .int .i64 0] 25 (0, 0)) q37_ hb)
        have n1_ := Aside0.mk (below_step q40_ hb)
        have n2_ := Aside0.mk (hbox)
        have n3_ := Aside0.mk ((by rw [hg]; exact (below_size q40_) : w.heap.size ≤ gb142))
        have n4_ := Aside0.mk ((by rw [hg]; exact (below_size q40_) : w.heap.size ≤ gb142))
        have n5_ := Aside0.mk ((by rw [hg]; exact Nat.ne_of_lt (blk_lt (g := gb141) (o := .cells #[.int .i64 0, .int .i64 0, .int .i64 0, .int .i64 0, .int .i64 0] 25 (0, 0)) q37_) : gb141 ≠ gb142))
        have n6_ := Aside0.mk ((by rw [hg]; exact Nat.ne_of_gt (blk_lt (g := gb141) (o := .cells #[.int .i64 0, .int .i64 0, .int .i64 0, .int .i64 0, .int .i64 0] 25 (0, 0)) q37_) : gb142 ≠ gb141))
        clear BK141
        clear HB
        have BK141 := n0_
        have HB := n1_
        have BK142 := n2_
        have GW142 := n3_
        have GE142 := n4_
        have NB141_142 := n5_
        have NB142_141 := n6_
        clear n0_ n1_ n2_ n3_ n4_ n5_ n6_
        clear hb hbox hg
        refine hK.out _ _ ⟨((HB.out.cell (World.block_lt_of_cell? w _ hw139_0)).trans hw139_0), ((HB.out.cell (World.block_lt_of_cell? w _ hw139_1)).trans hw139_1), ((HB.out.cell (World.block_lt_of_cell? w _ hw139_2)).trans hw139_2), ((HB.out.cell (World.block_lt_of_cell? w _ hw139_3)).trans hw139_3), ((HB.out.cell (World.block_lt_of_cell? w _ hw139_4)).trans hw139_4), ((HB.out.cell (World.block_lt_of_cell? w _ hw140_0)).trans hw140_0), ((HB.out.cell (World.block_lt_of_cell? w _ hw140_1)).trans hw140_1), ((HB.out.cell (World.block_lt_of_cell? w _ hw140_2)).trans hw140_2), ((HB.out.cell (World.block_lt_of_cell? w _ hw140_3)).trans hw140_3), ((HB.out.cell (World.block_lt_of_cell? w _ hw140_4)).trans hw140_4)⟩ (fun hHeld => ?_)
        clear hK K
        refine norm_ (a' := ?_) ?_ ?_
        rotate_left
        ·show Act.put _ (some 8) _ = _
         simp only [Act.put, List.setIfInBounds_toArray, List.set_cons_zero, List.set_cons_succ, i64_w, i32_w]
         rfl
        exact norm_ q85_ (hCont (gb141, gb142) _ ⟨hHeld, q37_, q66_, GW141.out, GE141.out, NB142_141.out, NB141_142.out, GW142.out, GE142.out, q98_⟩)
       ·skip
        refine box_step ?hg (N := 8) ?hd (cs := #[.int .i64 0, .int .i64 0, .int .i64 0, .int .i64 0, .int .i64 0]) (t := 25) ?hr ?_; (case hd => rfl); (case hg => rfl); (case hr => first | (go_simp; done) | (go_simp; rfl))
        intro gb142 hg w10 hbox hb
        have n0_ := Aside0.mk (below_step q2_ hb)
        have n1_ := Aside0.mk (hbox)
        have n2_ := Aside0.mk ((by rw [hg]; exact (below_size q2_) : w.heap.size ≤ gb142))
        have n3_ := Aside0.mk ((by rw [hg]; exact (below_size q2_) : w.heap.size ≤ gb142))
        clear HB
        have HB := n0_
        have BK142 := n1_
        have GW142 := n2_
        have GE142 := n3_
        clear n0_ n1_ n2_ n3_
        clear hb hbox hg
        refine hK.out _ _ ⟨((HB.out.cell (World.block_lt_of_cell? w _ hw139_0)).trans hw139_0), ((HB.out.cell (World.block_lt_of_cell? w _ hw139_1)).trans hw139_1), ((HB.out.cell (World.block_lt_of_cell? w _ hw139_2)).trans hw139_2), ((HB.out.cell (World.block_lt_of_cell? w _ hw139_3)).trans hw139_3), ((HB.out.cell (World.block_lt_of_cell? w _ hw139_4)).trans hw139_4), ((HB.out.cell (World.block_lt_of_cell? w _ hw140_0)).trans hw140_0), ((HB.out.cell (World.block_lt_of_cell? w _ hw140_1)).trans hw140_1), ((HB.out.cell (World.block_lt_of_cell? w _ hw140_2)).trans hw140_2), ((HB.out.cell (World.block_lt_of_cell? w _ hw140_3)).trans hw140_3), ((HB.out.cell (World.block_lt_of_cell? w _ hw140_4)).trans hw140_4)⟩ (fun hHeld => ?_)
        clear hK K
        refine norm_ (a' := ?_) ?_ ?_
        rotate_left
        ·show Act.put _ (some 8) _ = _
         simp only [Act.put, List.setIfInBounds_toArray, List.set_cons_zero, List.set_cons_succ, i64_w, i32_w]
         rfl
        refine one_ (i := 8) (N := some 7) #[true, true, true, true, true, true, true, true, true, true, false, false] rfl rfl (one_of HT_.out (by kernel_rfl)) (by decide) (fun K hK => ?_)
        refine box_step ?hg (N := 7) ?hd (cs := #[.int .i64 0, .int .i64 0, .int .i64 0, .int .i64 0, .int .i64 0]) (t := 25) ?hr ?_; (case hd => rfl); (case hg => rfl); (case hr => first | (go_simp; done) | (go_simp; rfl))
        intro gb141 hg w11 hbox hb
        have n0_ := Aside0.mk (blk_below (g := gb142) (o := .cells #[.int .i64 0, .int .i64 0, .int .i64 0, .int .i64 0, .int .i64 0] 25 (0, 0)) q66_ hb)
        have n1_ := Aside0.mk (below_step q80_ hb)
        have n2_ := Aside0.mk (hbox)
        have n3_ := Aside0.mk ((by rw [hg]; exact (below_size q80_) : w.heap.size ≤ gb141))
        have n4_ := Aside0.mk ((by rw [hg]; exact (below_size q80_) : w.heap.size ≤ gb141))
        have n5_ := Aside0.mk ((by rw [hg]; exact Nat.ne_of_lt (blk_lt (g := gb142) (o := .cells #[.int .i64 0, .int .i64 0, .int .i64 0, .int .i64 0, .int .i64 0] 25 (0, 0)) q66_) : gb142 ≠ gb141))
        have n6_ := Aside0.mk ((by rw [hg]; exact Nat.ne_of_gt (blk_lt (g := gb142) (o := .cells #[.int .i64 0, .int .i64 0, .int .i64 0, .int .i64 0, .int .i64 0] 25 (0, 0)) q66_) : gb141 ≠ gb142))
        clear BK142
        clear HB
        have BK142 := n0_
        have HB := n1_
        have BK141 := n2_
        have GW141 := n3_
        have GE141 := n4_
        have NB142_141 := n5_
        have NB141_142 := n6_
        clear n0_ n1_ n2_ n3_ n4_ n5_ n6_
        clear hb hbox hg
        refine hK.out _ _ ⟨((HB.out.cell (World.block_lt_of_cell? w _ hw139_0)).trans hw139_0), ((HB.out.cell (World.block_lt_of_cell? w _ hw139_1)).trans hw139_1), ((HB.out.cell (World.block_lt_of_cell? w _ hw139_2)).trans hw139_2), ((HB.out.cell (World.block_lt_of_cell? w _ hw139_3)).trans hw139_3), ((HB.out.cell (World.block_lt_of_cell? w _ hw139_4)).trans hw139_4), ((HB.out.cell (World.block_lt_of_cell? w _ hw140_0)).trans hw140_0), ((HB.out.cell (World.block_lt_of_cell? w _ hw140_1)).trans hw140_1), ((HB.out.cell (World.block_lt_of_cell? w _ hw140_2)).trans hw140_2), ((HB.out.cell (World.block_lt_of_cell? w _ hw140_3)).trans hw140_3), ((HB.out.cell (World.block_lt_of_cell? w _ hw140_4)).trans hw140_4)⟩ (fun hHeld => ?_)
        clear hK K
        refine norm_ (a' := ?_) ?_ ?_
        rotate_left
        ·show Act.put _ (some 7) _ = _
         simp only [Act.put, List.setIfInBounds_toArray, List.set_cons_zero, List.set_cons_succ, i64_w, i32_w]
         rfl
        exact norm_ q85_ (hCont (gb141, gb142) _ ⟨hHeld, q37_, q66_, GW141.out, GE141.out, NB142_141.out, NB141_142.out, GW142.out, GE142.out, (by repeat (first | (with_reducible first | exact HB.out | apply below_alloc | apply pw_below_drewN | apply below_drew1 | refine below_set ?_ GE142.out | refine below_set ?_ GE141.out) | exact HB.out))⟩)
      rintro ⟨gb141, gb142⟩ w12 ⟨hS_, h0_, h1_, h2_, h3_, h4_, h5_, h6_, h7_, h8_⟩
      have n0_ : Aside0 (w12.heap[gb141]? = some (.cells #[.int .i64 0, .int .i64 0, .int .i64 0, .int .i64 0, .int .i64 0] 25 (0, 0))) := ⟨h0_⟩
      have n1_ : Aside0 (w12.heap[gb142]? = some (.cells #[.int .i64 0, .int .i64 0, .int .i64 0, .int .i64 0, .int .i64 0] 25 (0, 0))) := ⟨h1_⟩
      have n2_ : Aside0 (w.heap.size ≤ gb141) := ⟨h2_⟩
      have n3_ : Aside0 (w.heap.size ≤ gb141) := ⟨h3_⟩
      have n4_ : Aside0 (gb142 ≠ gb141) := ⟨h4_⟩
      have n5_ : Aside0 (gb141 ≠ gb142) := ⟨h5_⟩
      have n6_ : Aside0 (w.heap.size ≤ gb142) := ⟨h6_⟩
      have n7_ : Aside0 (w.heap.size ≤ gb142) := ⟨h7_⟩
      have n8_ : Aside0 (Below w.heap.size w w12) := ⟨h8_⟩
      clear HB
      clear h0_ h1_ h2_ h3_ h4_ h5_ h6_ h7_ h8_
      have BK141 := n0_
      have BK142 := n1_
      have GW141 := n2_
      have GE141 := n3_
      have NB142_141 := n4_
      have NB141_142 := n5_
      have GW142 := n6_
      have GE142 := n7_
      have HB := n8_
      clear n0_ n1_ n2_ n3_ n4_ n5_ n6_ n7_ n8_
      have hHeld : w12.cell? (ad139.add ((a1).toNat * 5)) = some (.int .i64 ((rd_T25 l0 a1).f0)) ∧ w12.cell? ⟨(ad139.add ((a1).toNat * 5)).block, (ad139.add ((a1).toNat * 5)).off + 1, none⟩ = some (.int .i64 ((rd_T25 l0 a1).f1.f0)) ∧ w12.cell? ⟨(ad139.add ((a1).toNat * 5)).block, (ad139.add ((a1).toNat * 5)).off + 2, none⟩ = some (.int .i64 ((rd_T25 l0 a1).f1.f1)) ∧ w12.cell? ⟨(ad139.add ((a1).toNat * 5)).block, (ad139.add ((a1).toNat * 5)).off + 3, none⟩ = some (.int .i64 ((rd_T25 l0 a1).f1.f2)) ∧ w12.cell? ⟨(ad139.add ((a1).toNat * 5)).block, (ad139.add ((a1).toNat * 5)).off + 4, none⟩ = some (.int .i64 ((rd_T25 l0 a1).f1.f3)) ∧ w12.cell? (ad139.add ((a2).toNat * 5)) = some (.int .i64 ((rd_T25 l0 a2).f0)) ∧ w12.cell? ⟨(ad139.add ((a2).toNat * 5)).block, (ad139.add ((a2).toNat * 5)).off + 1, none⟩ = some (.int .i64 ((rd_T25 l0 a2).f1.f0)) ∧ w12.cell? ⟨(ad139.add ((a2).toNat * 5)).block, (ad139.add ((a2).toNat * 5)).off + 2, none⟩ = some (.int .i64 ((rd_T25 l0 a2).f1.f1)) ∧ w12.cell? ⟨(ad139.add ((a2).toNat * 5)).block, (ad139.add ((a2).toNat * 5)).off + 3, none⟩ = some (.int .i64 ((rd_T25 l0 a2).f1.f2)) ∧ w12.cell? ⟨(ad139.add ((a2).toNat * 5)).block, (ad139.add ((a2).toNat * 5)).off + 4, none⟩ = some (.int .i64 ((rd_T25 l0 a2).f1.f3)) := hS_
      refine norm_ (a' := ?_) ?_ ?_
      rotate_left
      ·simp only [putAll, Act.put, List.setIfInBounds_toArray, List.set_cons_zero, List.set_cons_succ]
       rfl
      refine one_ (i := 10) (N := none) #[true, true, true, true, true, true, true, true, true, true, true, false] rfl rfl (one_of HT_.out (by kernel_rfl)) (by decide) (fun K hK => ?_)
      have hs13 : w12.cell? ⟨gb141, 0, none⟩ = some (.int .i64 0) := (blk_cell BK141.out 0).trans rfl
      have hfs13 := blk_frozen BK141.out 0
      have hns13_1 := NB142_141.out
      have hms13_1 := NB141_142.out
      have hs14 : w12.cell? ⟨gb141, 1, none⟩ = some (.int .i64 0) := (blk_cell BK141.out 1).trans rfl
      have hfs14 := blk_frozen BK141.out 1
      have hns14_1 := NB142_141.out
      have hms14_1 := NB141_142.out
      have hs15 : w12.cell? ⟨gb141, 2, none⟩ = some (.int .i64 0) := (blk_cell BK141.out 2).trans rfl
      have hfs15 := blk_frozen BK141.out 2
      have hns15_1 := NB142_141.out
      have hms15_1 := NB141_142.out
      have hs16 : w12.cell? ⟨gb141, 3, none⟩ = some (.int .i64 0) := (blk_cell BK141.out 3).trans rfl
      have hfs16 := blk_frozen BK141.out 3
      have hns16_1 := NB142_141.out
      have hms16_1 := NB141_142.out
      have hs17 : w12.cell? ⟨gb141, 4, none⟩ = some (.int .i64 0) := (blk_cell BK141.out 4).trans rfl
      have hfs17 := blk_frozen BK141.out 4
      have hns17_1 := NB142_141.out
      have hms17_1 := NB141_142.out
      refine skip_ (w1 := ?_) (by rfl) rfl ?_ ?_
      rotate_left
      ·go_simp
       rfl
      refine hK.out _ _ ⟨((cell_far (p := ⟨gb141, _, none⟩) q43_ _).trans (((cell_far (p := ⟨gb141, _, none⟩) q43_ _).trans (((cell_far (p := ⟨gb141, _, none⟩) q43_ _).trans (((cell_far (p := ⟨gb141, _, none⟩) q43_ _).trans (((cell_far (p := ⟨gb141, _, none⟩) q43_ _).trans (hHeld.1)))))))))), ((cell_far (p := ⟨gb141, _, none⟩) q45_ _).trans (((cell_far (p := ⟨gb141, _, none⟩) q45_ _).trans (((cell_far (p := ⟨gb141, _, none⟩) q45_ _).trans (((cell_far (p := ⟨gb141, _, none⟩) q45_ _).trans (((cell_far (p := ⟨gb141, _, none⟩) q45_ _).trans (hHeld.2.1)))))))))), ((cell_far (p := ⟨gb141, _, none⟩) q47_ _).trans (((cell_far (p := ⟨gb141, _, none⟩) q47_ _).trans (((cell_far (p := ⟨gb141, _, none⟩) q47_ _).trans (((cell_far (p := ⟨gb141, _, none⟩) q47_ _).trans (((cell_far (p := ⟨gb141, _, none⟩) q47_ _).trans (hHeld.2.2.1)))))))))), ((cell_far (p := ⟨gb141, _, none⟩) q49_ _).trans (((cell_far (p := ⟨gb141, _, none⟩) q49_ _).trans (((cell_far (p := ⟨gb141, _, none⟩) q49_ _).trans (((cell_far (p := ⟨gb141, _, none⟩) q49_ _).trans (((cell_far (p := ⟨gb141, _, none⟩) q49_ _).trans (hHeld.2.2.2.1)))))))))), ((cell_far (p := ⟨gb141, _, none⟩) q51_ _).trans (((cell_far (p := ⟨gb141, _, none⟩) q51_ _).trans (((cell_far (p := ⟨gb141, _, none⟩) q51_ _).trans (((cell_far (p := ⟨gb141, _, none⟩) q51_ _).trans (((cell_far (p := ⟨gb141, _, none⟩) q51_ _).trans (hHeld.2.2.2.2.1)))))))))), ((cell_far (p := ⟨gb141, _, none⟩) q53_ _).trans (((cell_far (p := ⟨gb141, _, none⟩) q53_ _).trans (((cell_far (p := ⟨gb141, _, none⟩) q53_ _).trans (((cell_far (p := ⟨gb141, _, none⟩) q53_ _).trans (((cell_far (p := ⟨gb141, _, none⟩) q53_ _).trans (hHeld.2.2.2.2.2.1)))))))))), ((cell_far (p := ⟨gb141, _, none⟩) q55_ _).trans (((cell_far (p := ⟨gb141, _, none⟩) q55_ _).trans (((cell_far (p := ⟨gb141, _, none⟩) q55_ _).trans (((cell_far (p := ⟨gb141, _, none⟩) q55_ _).trans (((cell_far (p := ⟨gb141, _, none⟩) q55_ _).trans (hHeld.2.2.2.2.2.2.1)))))))))), ((cell_far (p := ⟨gb141, _, none⟩) q57_ _).trans (((cell_far (p := ⟨gb141, _, none⟩) q57_ _).trans (((cell_far (p := ⟨gb141, _, none⟩) q57_ _).trans (((cell_far (p := ⟨gb141, _, none⟩) q57_ _).trans (((cell_far (p := ⟨gb141, _, none⟩) q57_ _).trans (hHeld.2.2.2.2.2.2.2.1)))))))))), ((cell_far (p := ⟨gb141, _, none⟩) q59_ _).trans (((cell_far (p := ⟨gb141, _, none⟩) q59_ _).trans (((cell_far (p := ⟨gb141, _, none⟩) q59_ _).trans (((cell_far (p := ⟨gb141, _, none⟩) q59_ _).trans (((cell_far (p := ⟨gb141, _, none⟩) q59_ _).trans (hHeld.2.2.2.2.2.2.2.2.1)))))))))), ((cell_far (p := ⟨gb141, _, none⟩) q61_ _).trans (((cell_far (p := ⟨gb141, _, none⟩) q61_ _).trans (((cell_far (p := ⟨gb141, _, none⟩) q61_ _).trans (((cell_far (p := ⟨gb141, _, none⟩) q61_ _).trans (((cell_far (p := ⟨gb141, _, none⟩) q61_ _).trans (hHeld.2.2.2.2.2.2.2.2.2))))))))))⟩ (fun hHeld => ?_)
      clear hK K
      refine one_ (i := 11) (N := none) #[true, true, true, true, true, true, true, true, true, true, true, true] rfl rfl (one_of HT_.out (by kernel_rfl)) (by decide) (fun K hK => ?_)
      have hs18 : w12.cell? ⟨gb142, 0, none⟩ = some (.int .i64 0) := (blk_cell BK142.out 0).trans rfl
      have hfs18 := blk_frozen BK142.out 0
      have hns18_0 := NB141_142.out
      have hms18_0 := NB142_141.out
      have hs19 : w12.cell? ⟨gb142, 1, none⟩ = some (.int .i64 0) := (blk_cell BK142.out 1).trans rfl
      have hfs19 := blk_frozen BK142.out 1
      have hns19_0 := NB141_142.out
      have hms19_0 := NB142_141.out
      have hs20 : w12.cell? ⟨gb142, 2, none⟩ = some (.int .i64 0) := (blk_cell BK142.out 2).trans rfl
      have hfs20 := blk_frozen BK142.out 2
      have hns20_0 := NB141_142.out
      have hms20_0 := NB142_141.out
      have hs21 : w12.cell? ⟨gb142, 3, none⟩ = some (.int .i64 0) := (blk_cell BK142.out 3).trans rfl
      have hfs21 := blk_frozen BK142.out 3
      have hns21_0 := NB141_142.out
      have hms21_0 := NB142_141.out
      have hs22 : w12.cell? ⟨gb142, 4, none⟩ = some (.int .i64 0) := (blk_cell BK142.out 4).trans rfl
      have hfs22 := blk_frozen BK142.out 4
      have hns22_0 := NB141_142.out
      have hms22_0 := NB142_141.out
      refine skip_ (w1 := ?_) (by rfl) rfl ?_ ?_
      rotate_left
      ·go_simp
       rfl
      refine hK.out _ _ ⟨((cell_far (p := ⟨gb142, _, none⟩) q42_ _).trans (((cell_far (p := ⟨gb142, _, none⟩) q42_ _).trans (((cell_far (p := ⟨gb142, _, none⟩) q42_ _).trans (((cell_far (p := ⟨gb142, _, none⟩) q42_ _).trans (((cell_far (p := ⟨gb142, _, none⟩) q42_ _).trans (hHeld.1)))))))))), ((cell_far (p := ⟨gb142, _, none⟩) q44_ _).trans (((cell_far (p := ⟨gb142, _, none⟩) q44_ _).trans (((cell_far (p := ⟨gb142, _, none⟩) q44_ _).trans (((cell_far (p := ⟨gb142, _, none⟩) q44_ _).trans (((cell_far (p := ⟨gb142, _, none⟩) q44_ _).trans (hHeld.2.1)))))))))), ((cell_far (p := ⟨gb142, _, none⟩) q46_ _).trans (((cell_far (p := ⟨gb142, _, none⟩) q46_ _).trans (((cell_far (p := ⟨gb142, _, none⟩) q46_ _).trans (((cell_far (p := ⟨gb142, _, none⟩) q46_ _).trans (((cell_far (p := ⟨gb142, _, none⟩) q46_ _).trans (hHeld.2.2.1)))))))))), ((cell_far (p := ⟨gb142, _, none⟩) q48_ _).trans (((cell_far (p := ⟨gb142, _, none⟩) q48_ _).trans (((cell_far (p := ⟨gb142, _, none⟩) q48_ _).trans (((cell_far (p := ⟨gb142, _, none⟩) q48_ _).trans (((cell_far (p := ⟨gb142, _, none⟩) q48_ _).trans (hHeld.2.2.2.1)))))))))), ((cell_far (p := ⟨gb142, _, none⟩) q50_ _).trans (((cell_far (p := ⟨gb142, _, none⟩) q50_ _).trans (((cell_far (p := ⟨gb142, _, none⟩) q50_ _).trans (((cell_far (p := ⟨gb142, _, none⟩) q50_ _).trans (((cell_far (p := ⟨gb142, _, none⟩) q50_ _).trans (hHeld.2.2.2.2.1)))))))))), ((cell_far (p := ⟨gb142, _, none⟩) q52_ _).trans (((cell_far (p := ⟨gb142, _, none⟩) q52_ _).trans (((cell_far (p := ⟨gb142, _, none⟩) q52_ _).trans (((cell_far (p := ⟨gb142, _, none⟩) q52_ _).trans (((cell_far (p := ⟨gb142, _, none⟩) q52_ _).trans (hHeld.2.2.2.2.2.1)))))))))), ((cell_far (p := ⟨gb142, _, none⟩) q54_ _).trans (((cell_far (p := ⟨gb142, _, none⟩) q54_ _).trans (((cell_far (p := ⟨gb142, _, none⟩) q54_ _).trans (((cell_far (p := ⟨gb142, _, none⟩) q54_ _).trans (((cell_far (p := ⟨gb142, _, none⟩) q54_ _).trans (hHeld.2.2.2.2.2.2.1)))))))))), ((cell_far (p := ⟨gb142, _, none⟩) q56_ _).trans (((cell_far (p := ⟨gb142, _, none⟩) q56_ _).trans (((cell_far (p := ⟨gb142, _, none⟩) q56_ _).trans (((cell_far (p := ⟨gb142, _, none⟩) q56_ _).trans (((cell_far (p := ⟨gb142, _, none⟩) q56_ _).trans (hHeld.2.2.2.2.2.2.2.1)))))))))), ((cell_far (p := ⟨gb142, _, none⟩) q58_ _).trans (((cell_far (p := ⟨gb142, _, none⟩) q58_ _).trans (((cell_far (p := ⟨gb142, _, none⟩) q58_ _).trans (((cell_far (p := ⟨gb142, _, none⟩) q58_ _).trans (((cell_far (p := ⟨gb142, _, none⟩) q58_ _).trans (hHeld.2.2.2.2.2.2.2.2.1)))))))))), ((cell_far (p := ⟨gb142, _, none⟩) q60_ _).trans (((cell_far (p := ⟨gb142, _, none⟩) q60_ _).trans (((cell_far (p := ⟨gb142, _, none⟩) q60_ _).trans (((cell_far (p := ⟨gb142, _, none⟩) q60_ _).trans (((cell_far (p := ⟨gb142, _, none⟩) q60_ _).trans (hHeld.2.2.2.2.2.2.2.2.2))))))))))⟩ (fun hHeld => ?_)
      clear hK K
      refine done_ (done_of HT_.out (by kernel_rfl)) ?_
      have hnb23 := NB141_142.out
      have hnc23 := NB142_141.out
      have hcz24_0 : w12.cell? ⟨gb141, 0, none⟩ = some (.int .i64 0) := (blk_cell BK141.out 0).trans rfl
      have hcz24_1 : w12.cell? ⟨gb141, 1, none⟩ = some (.int .i64 0) := (blk_cell BK141.out 1).trans rfl
      have hcz24_2 : w12.cell? ⟨gb141, 2, none⟩ = some (.int .i64 0) := (blk_cell BK141.out 2).trans rfl
      have hcz24_3 : w12.cell? ⟨gb141, 3, none⟩ = some (.int .i64 0) := (blk_cell BK141.out 3).trans rfl
      have hcz24_4 : w12.cell? ⟨gb141, 4, none⟩ = some (.int .i64 0) := (blk_cell BK141.out 4).trans rfl
      have hfz24_0 := blk_frozen BK141.out 0
      have hfz24_1 := blk_frozen BK141.out 1
      have hfz24_2 := blk_frozen BK141.out 2
      have hfz24_3 := blk_frozen BK141.out 3
      have hfz24_4 := blk_frozen BK141.out 4
      have hcz25_0 : w12.cell? ⟨gb142, 0, none⟩ = some (.int .i64 0) := (blk_cell BK142.out 0).trans rfl
      have hcz25_1 : w12.cell? ⟨gb142, 1, none⟩ = some (.int .i64 0) := (blk_cell BK142.out 1).trans rfl
      have hcz25_2 : w12.cell? ⟨gb142, 2, none⟩ = some (.int .i64 0) := (blk_cell BK142.out 2).trans rfl
      have hcz25_3 : w12.cell? ⟨gb142, 3, none⟩ = some (.int .i64 0) := (blk_cell BK142.out 3).trans rfl
      have hcz25_4 : w12.cell? ⟨gb142, 4, none⟩ = some (.int .i64 0) := (blk_cell BK142.out 4).trans rfl
      have hfz25_0 := blk_frozen BK142.out 0
      have hfz25_1 := blk_frozen BK142.out 1
      have hfz25_2 := blk_frozen BK142.out 2
      have hfz25_3 := blk_frozen BK142.out 3
      have hfz25_4 := blk_frozen BK142.out 4
      try go_wp2
      go_ret
      exact ⟨by first | rfl | (simp [errW_none, errW_some] <;> rfl) | (simp [*, errW_none, errW_some] <;> rfl), by repeat (first | (with_reducible first | exact HB.out | apply below_alloc | apply pw_below_drewN | apply below_drew1 | refine below_set ?_ GE141.out | refine below_set ?_ GE142.out) | exact HB.out)⟩
     ·rw [if_neg c8] at H
      have c8b0 : (((rd_T25 l0 a1).f1.f0) == ((rd_T25 l0 a2).f1.f0)) = false := beq_eq_false_iff_ne.mpr c8
      have c8b1 : (((rd_T25 l0 a1).f1.f0) != ((rd_T25 l0 a2).f1.f0)) = true := bne_iff_ne.mpr c8
      obtain rfl := Option.some.inj H
      go_enter Try.func111, Try.ntmps111
      try go_wp2
      have n0_ := Aside0.mk (below_drew1 HB.out)
      clear HB
      have HB := n0_
      clear n0_
      have p139 : 0 ≤ (a1 : Int) := of_decide_eq_true q16_
      have q139 : a1 < (l0.length : Int) := of_decide_eq_true q16_
      obtain ⟨ad139, e139, hx139_0, hx139_1, hx139_2, hx139_3, hx139_4⟩ := at_T25 HR0.out a1 p139 q139
      have hw139_4 := hx139_4
      have hw139_3 := hx139_3
      have hw139_2 := hx139_2
      have hw139_1 := hx139_1
      have hw139_0 := hx139_0
      cases e139
      replace hx139_0 := (HB.out.cell (World.block_lt_of_cell? w _ hx139_0)).trans hx139_0
      replace hx139_1 := (HB.out.cell (World.block_lt_of_cell? w _ hx139_1)).trans hx139_1
      replace hx139_2 := (HB.out.cell (World.block_lt_of_cell? w _ hx139_2)).trans hx139_2
      replace hx139_3 := (HB.out.cell (World.block_lt_of_cell? w _ hx139_3)).trans hx139_3
      replace hx139_4 := (HB.out.cell (World.block_lt_of_cell? w _ hx139_4)).trans hx139_4
      replace p139 := eq_true p139
      replace q139 := eq_true q139
      have p140 : 0 ≤ (a2 : Int) := of_decide_eq_true q16_
      have q140 : a2 < (l0.length : Int) := of_decide_eq_true q16_
      obtain ⟨ad140, e140, hx140_0, hx140_1, hx140_2, hx140_3, hx140_4⟩ := at_T25 HR0.out a2 p140 q140
      have hw140_4 := hx140_4
      have hw140_3 := hx140_3
      have hw140_2 := hx140_2
      have hw140_1 := hx140_1
      have hw140_0 := hx140_0
      obtain rfl : ad139 = ad140 := (by injection e140)
      replace hx140_0 := (HB.out.cell (World.block_lt_of_cell? w _ hx140_0)).trans hx140_0
      replace hx140_1 := (HB.out.cell (World.block_lt_of_cell? w _ hx140_1)).trans hx140_1
      replace hx140_2 := (HB.out.cell (World.block_lt_of_cell? w _ hx140_2)).trans hx140_2
      replace hx140_3 := (HB.out.cell (World.block_lt_of_cell? w _ hx140_3)).trans hx140_3
      replace hx140_4 := (HB.out.cell (World.block_lt_of_cell? w _ hx140_4)).trans hx140_4
      replace p140 := eq_true p140
      replace q140 := eq_true q140
      refine start_ (n := 12) (S := fun w' => w'.cell? (ad139.add ((a1).toNat * 5)) = some (.int .i64 ((rd_T25 l0 a1).f0)) ∧ w'.cell? ⟨(ad139.add ((a1).toNat * 5)).block, (ad139.add ((a1).toNat * 5)).off + 1, none⟩ = some (.int .i64 ((rd_T25 l0 a1).f1.f0)) ∧ w'.cell? ⟨(ad139.add ((a1).toNat * 5)).block, (ad139.add ((a1).toNat * 5)).off + 2, none⟩ = some (.int .i64 ((rd_T25 l0 a1).f1.f1)) ∧ w'.cell? ⟨(ad139.add ((a1).toNat * 5)).block, (ad139.add ((a1).toNat * 5)).off + 3, none⟩ = some (.int .i64 ((rd_T25 l0 a1).f1.f2)) ∧ w'.cell? ⟨(ad139.add ((a1).toNat * 5)).block, (ad139.add ((a1).toNat * 5)).off + 4, none⟩ = some (.int .i64 ((rd_T25 l0 a1).f1.f3)) ∧ w'.cell? (ad139.add ((a2).toNat * 5)) = some (.int .i64 ((rd_T25 l0 a2).f0)) ∧ w'.cell? ⟨(ad139.add ((a2).toNat * 5)).block, (ad139.add ((a2).toNat * 5)).off + 1, none⟩ = some (.int .i64 ((rd_T25 l0 a2).f1.f0)) ∧ w'.cell? ⟨(ad139.add ((a2).toNat * 5)).block, (ad139.add ((a2).toNat * 5)).off + 2, none⟩ = some (.int .i64 ((rd_T25 l0 a2).f1.f1)) ∧ w'.cell? ⟨(ad139.add ((a2).toNat * 5)).block, (ad139.add ((a2).toNat * 5)).off + 3, none⟩ = some (.int .i64 ((rd_T25 l0 a2).f1.f2)) ∧ w'.cell? ⟨(ad139.add ((a2).toNat * 5)).block, (ad139.add ((a2).toNat * 5)).off + 4, none⟩ = some (.int .i64 ((rd_T25 l0 a2).f1.f3))) (ds := []) #[false, false, false, false, false, false, false, false, false, false, false, false] (by kernel_rfl) rfl rfl ⟨((HB.out.cell (World.block_lt_of_cell? w _ hw139_0)).trans hw139_0), ((HB.out.cell (World.block_lt_of_cell? w _ hw139_1)).trans hw139_1), ((HB.out.cell (World.block_lt_of_cell? w _ hw139_2)).trans hw139_2), ((HB.out.cell (World.block_lt_of_cell? w _ hw139_3)).trans hw139_3), ((HB.out.cell (World.block_lt_of_cell? w _ hw139_4)).trans hw139_4), ((HB.out.cell (World.block_lt_of_cell? w _ hw140_0)).trans hw140_0), ((HB.out.cell (World.block_lt_of_cell? w _ hw140_1)).trans hw140_1), ((HB.out.cell (World.block_lt_of_cell? w _ hw140_2)).trans hw140_2), ((HB.out.cell (World.block_lt_of_cell? w _ hw140_3)).trans hw140_3), ((HB.out.cell (World.block_lt_of_cell? w _ hw140_4)).trans hw140_4)⟩ (fun hHeld => ?_); refine with_tabW choose_queue_Less.tab1 choose_queue_Less.bits1 (fun HT_ HW_ => ?_)
      generalize w.drew = w26 at HB hx139_0 hx139_1 hx139_2 hx139_3 hx139_4 hx140_0 hx140_1 hx140_2 hx140_3 hx140_4 hHeld ⊢
      refine pure_ (i := 0) (N := some 9) (v := ?_) (a' := ?_) #[true, false, false, false, false, false, false, false, false, false, false, false] rfl rfl (any_of HT_.out (by kernel_rfl)) (fun _ _ _ h => h) (Or.inl ⟨by rfl, ?_⟩) ?_ ?_
      rotate_left
      ·intro w'
       go_simp
       with_reducible rfl
      rotate_left
      ·simp only [Act.put, List.setIfInBounds_toArray, List.set_cons_zero, List.set_cons_succ, i64_w, i32_w]
       rfl
      refine pure_ (i := 1) (N := some 10) (v := ?_) (a' := ?_) #[true, true, false, false, false, false, false, false, false, false, false, false] rfl rfl (any_of HT_.out (by kernel_rfl)) (fun _ _ _ h => h) (Or.inl ⟨by rfl, ?_⟩) ?_ ?_
      rotate_left
      ·intro w'
       go_simp
       with_reducible rfl
      rotate_left
      ·simp only [Act.put, List.setIfInBounds_toArray, List.set_cons_zero, List.set_cons_succ, i64_w, i32_w]
       rfl
      refine pure_ (i := 2) (N := some 11) (v := ?_) (a' := ?_) #[true, true, true, false, false, false, false, false, false, false, false, false] rfl rfl (any_of HT_.out (by kernel_rfl)) (fun _ _ _ h => h) (Or.inl ⟨by rfl, ?_⟩) ?_ ?_
      rotate_left
      ·intro w'
       go_simp
       with_reducible rfl
      rotate_left
      ·simp only [Act.put, List.setIfInBounds_toArray, List.set_cons_zero, List.set_cons_succ, i64_w, i32_w]
       rfl
      refine pure_ (i := 4) (N := some 13) (v := ?_) (a' := ?_) #[true, true, true, false, true, false, false, false, false, false, false, false] rfl rfl (any_of HT_.out (by kernel_rfl)) (fun _ _ _ h => h) (Or.inl ⟨by rfl, ?_⟩) ?_ ?_
      rotate_left
      ·intro w'
       go_simp
       with_reducible rfl
      rotate_left
      ·simp only [Act.put, List.setIfInBounds_toArray, List.set_cons_zero, List.set_cons_succ, i64_w, i32_w]
       rfl
      refine pure_ (i := 5) (N := some 14) (v := ?_) (a' := ?_) #[true, true, true, false, true, true, false, false, false, false, false, false] rfl rfl (any_of HT_.out (by kernel_rfl)) (fun _ _ _ h => h) (Or.inl ⟨by rfl, ?_⟩) ?_ ?_
      rotate_left
      ·intro w'
       go_simp
       with_reducible rfl
      rotate_left
      ·simp only [Act.put, List.setIfInBounds_toArray, List.set_cons_zero, List.set_cons_succ, i64_w, i32_w]
       rfl
      refine pure_ (i := 6) (N := some 15) (v := ?_) (a' := ?_) #[true, true, true, false, true, true, true, false, false, false, false, false] rfl rfl (any_of HT_.out (by kernel_rfl)) (fun _ _ _ h => h) (Or.inl ⟨by rfl, ?_⟩) ?_ ?_
      rotate_left
      ·intro w'
       go_simp
       with_reducible rfl
      rotate_left
      ·simp only [Act.put, List.setIfInBounds_toArray, List.set_cons_zero, List.set_cons_succ, i64_w, i32_w]
       rfl
      refine take_ (i := 3) (N := some 12) (v := ?_) (a' := ?_) #[true, true, true, true, true, true, true, false, false, false, false, false] rfl rfl (take_ofW HT_.out HW_.out (by kernel_rfl)) (fun _ _ _ h => h) (Or.inl ⟨by rfl, ?_⟩) hHeld ?_ ?_
      rotate_left
      ·rintro w' ⟨s0, s1, s2, s3, s4, s5, s6, s7, s8, s9⟩
       go_simp
       with_reducible rfl
      rotate_left
      ·simp only [Act.put, List.setIfInBounds_toArray, List.set_cons_zero, List.set_cons_succ, i64_w, i32_w]
       rfl
      refine take_ (i := 7) (N := some 16) (v := ?_) (a' := ?_) #[true, true, true, true, true, true, true, true, false, false, false, false] rfl rfl (take_ofW HT_.out HW_.out (by kernel_rfl)) (fun _ _ _ h => h) (Or.inl ⟨by rfl, ?_⟩) hHeld ?_ ?_
      rotate_left
      ·rintro w' ⟨s0, s1, s2, s3, s4, s5, s6, s7, s8, s9⟩
       go_simp
       with_reducible rfl
      rotate_left
      ·simp only [Act.put, List.setIfInBounds_toArray, List.set_cons_zero, List.set_cons_succ, i64_w, i32_w]
       rfl
      refine join_ (σ := Nat × Nat) 2 #[true, true, true, true, true, true, true, true, true, true, false, false] (fun s_ => [(7, .pointer (some ⟨s_.1, 0, none⟩)), (8, .pointer (some ⟨s_.2, 0, none⟩))]) (fun s_ w' => (w'.cell? (ad139.add ((a1).toNat * 5)) = some (.int .i64 ((rd_T25 l0 a1).f0)) ∧ w'.cell? ⟨(ad139.add ((a1).toNat * 5)).block, (ad139.add ((a1).toNat * 5)).off + 1, none⟩ = some (.int .i64 ((rd_T25 l0 a1).f1.f0)) ∧ w'.cell? ⟨(ad139.add ((a1).toNat * 5)).block, (ad139.add ((a1).toNat * 5)).off + 2, none⟩ = some (.int .i64 ((rd_T25 l0 a1).f1.f1)) ∧ w'.cell? ⟨(ad139.add ((a1).toNat * 5)).block, (ad139.add ((a1).toNat * 5)).off + 3, none⟩ = some (.int .i64 ((rd_T25 l0 a1).f1.f2)) ∧ w'.cell? ⟨(ad139.add ((a1).toNat * 5)).block, (ad139.add ((a1).toNat * 5)).off + 4, none⟩ = some (.int .i64 ((rd_T25 l0 a1).f1.f3)) ∧ w'.cell? (ad139.add ((a2).toNat * 5)) = some (.int .i64 ((rd_T25 l0 a2).f0)) ∧ w'.cell? ⟨(ad139.add ((a2).toNat * 5)).block, (ad139.add ((a2).toNat * 5)).off + 1, none⟩ = some (.int .i64 ((rd_T25 l0 a2).f1.f0)) ∧ w'.cell? ⟨(ad139.add ((a2).toNat * 5)).block, (ad139.add ((a2).toNat * 5)).off + 2, none⟩ = some (.int .i64 ((rd_T25 l0 a2).f1.f1)) ∧ w'.cell? ⟨(ad139.add ((a2).toNat * 5)).block, (ad139.add ((a2).toNat * 5)).off + 3, none⟩ = some (.int .i64 ((rd_T25 l0 a2).f1.f2)) ∧ w'.cell? ⟨(ad139.add ((a2).toNat * 5)).block, (ad139.add ((a2).toNat * 5)).off + 4, none⟩ = some (.int .i64 ((rd_T25 l0 a2).f1.f3))) ∧ (w'.heap[s_.1]? = some (.cells #[.int .i64 0, .int .i64 0, .int .i64 0, .int .i64 0, .int .i64 0] 25 (0, 0))) ∧ (w'.heap[s_.2]? = some (.cells #[.int .i64 0, .int .i64 0, .int .i64 0, .int .i64 0, .int .i64 0] 25 (0, 0))) ∧ (w.heap.size ≤ s_.1) ∧ (w.heap.size ≤ s_.1) ∧ (s_.2 ≠ s_.1) ∧ (s_.1 ≠ s_.2) ∧ (w.heap.size ≤ s_.2) ∧ (w.heap.size ≤ s_.2) ∧ (Below w.heap.size w w')) ?_ ?_
      rotate_left
      ·intro hCont
       refine two_ (i := 8) (j := 9) (Ni := some 7) (Nj := some 8) #[true, true, true, true, true, true, true, true, true, false, false, false] #[true, true, true, true, true, true, true, true, false, true, false, false] rfl rfl rfl rfl (two_of HT_.out (by kernel_rfl)) (by decide) (by decide) (fun K hK => ?_) (fun K hK => ?_)
       ·skip
        refine box_step ?hg (N := 7) ?hd (cs := #[.int .i64 0, .int .i64 0, .int .i64 0, .int .i64 0, .int .i64 0]) (t := 25) ?hr ?_; (case hd => rfl); (case hg => rfl); (case hr => first | (go_simp; done) | (go_simp; rfl))
        intro gb141 hg w27 hbox hb
        have n0_ := Aside0.mk (below_step q2_ hb)
        have n1_ := Aside0.mk (hbox)
        have n2_ := Aside0.mk ((by rw [hg]; exact (below_size q2_) : w.heap.size ≤ gb141))
        have n3_ := Aside0.mk ((by rw [hg]; exact (below_size q2_) : w.heap.size ≤ gb141))
        clear HB
        have HB := n0_
        have BK141 := n1_
        have GW141 := n2_
        have GE141 := n3_
        clear n0_ n1_ n2_ n3_
        clear hb hbox hg
        refine hK.out _ _ ⟨((HB.out.cell (World.block_lt_of_cell? w _ hw139_0)).trans hw139_0), ((HB.out.cell (World.block_lt_of_cell? w _ hw139_1)).trans hw139_1), ((HB.out.cell (World.block_lt_of_cell? w _ hw139_2)).trans hw139_2), ((HB.out.cell (World.block_lt_of_cell? w _ hw139_3)).trans hw139_3), ((HB.out.cell (World.block_lt_of_cell? w _ hw139_4)).trans hw139_4), ((HB.out.cell (World.block_lt_of_cell? w _ hw140_0)).trans hw140_0), ((HB.out.cell (World.block_lt_of_cell? w _ hw140_1)).trans hw140_1), ((HB.out.cell (World.block_lt_of_cell? w _ hw140_2)).trans hw140_2), ((HB.out.cell (World.block_lt_of_cell? w _ hw140_3)).trans hw140_3), ((HB.out.cell (World.block_lt_of_cell? w _ hw140_4)).trans hw140_4)⟩ (fun hHeld => ?_)
        clear hK K
        refine norm_ (a' := ?_) ?_ ?_
        rotate_left
        ·show Act.put _ (some 7) _ = _
         simp only [Act.put, List.setIfInBounds_toArray, List.set_cons_zero, List.set_cons_succ, i64_w, i32_w]
         rfl
        refine one_ (i := 9) (N := some 8) #[true, true, true, true, true, true, true, true, true, true, false, false] rfl rfl (one_of HT_.out (by kernel_rfl)) (by decide) (fun K hK => ?_)
        refine box_step ?hg (N := 8) ?hd (cs := #[.int .i64 0, .int .i64 0, .int .i64 0, .int .i64 0, .int .i64 0]) (t := 25) ?hr ?_; (case hd => rfl); (case hg => rfl); (case hr => first | (go_simp; done) | (go_simp; rfl))
        intro gb142 hg w28 hbox hb
        have n0_ := Aside0.mk (blk_below (g := gb141) (o := .cells #[.int .i64 0, .int .i64 0, .int .i64 0, .int .i64 0, .int .i64 0] 25 (0, 0)) q37_ hb)
        have n1_ := Aside0.mk (below_step q40_ hb)
        have n2_ := Aside0.mk (hbox)
        have n3_ := Aside0.mk ((by rw [hg]; exact (below_size q40_) : w.heap.size ≤ gb142))
        have n4_ := Aside0.mk ((by rw [hg]; exact (below_size q40_) : w.heap.size ≤ gb142))
        have n5_ := Aside0.mk ((by rw [hg]; exact Nat.ne_of_lt (blk_lt (g := gb141) (o := .cells #[.int .i64 0, .int .i64 0, .int .i64 0, .int .i64 0, .int .i64 0] 25 (0, 0)) q37_) : gb141 ≠ gb142))
        have n6_ := Aside0.mk ((by rw [hg]; exact Nat.ne_of_gt (blk_lt (g := gb141) (o := .cells #[.int .i64 0, .int .i64 0, .int .i64 0, .int .i64 0, .int .i64 0] 25 (0, 0)) q37_) : gb142 ≠ gb141))
        clear BK141
        clear HB
        have BK141 := n0_
        have HB := n1_
        have BK142 := n2_
        have GW142 := n3_
        have GE142 := n4_
        have NB141_142 := n5_
        have NB142_141 := n6_
        clear n0_ n1_ n2_ n3_ n4_ n5_ n6_
        clear hb hbox hg
        refine hK.out _ _ ⟨((HB.out.cell (World.block_lt_of_cell? w _ hw139_0)).trans hw139_0), ((HB.out.cell (World.block_lt_of_cell? w _ hw139_1)).trans hw139_1), ((HB.out.cell (World.block_lt_of_cell? w _ hw139_2)).trans hw139_2), ((HB.out.cell (World.block_lt_of_cell? w _ hw139_3)).trans hw139_3), ((HB.out.cell (World.block_lt_of_cell? w _ hw139_4)).trans hw139_4), ((HB.out.cell (World.block_lt_of_cell? w _ hw140_0)).trans hw140_0), ((HB.out.cell (World.block_lt_of_cell? w _ hw140_1)).trans hw140_1), ((HB.out.cell (World.block_lt_of_cell? w _ hw140_2)).trans hw140_2), ((HB.out.cell (World.block_lt_of_cell? w _ hw140_3)).trans hw140_3), ((HB.out.cell (World.block_lt_of_cell? w _ hw140_4)).trans hw140_4)⟩ (fun hHeld => ?_)
        clear hK K
        refine norm_ (a' := ?_) ?_ ?_
        rotate_left
        ·show Act.put _ (some 8) _ = _
         simp only [Act.put, List.setIfInBounds_toArray, List.set_cons_zero, List.set_cons_succ, i64_w, i32_w]
         rfl
        exact norm_ q85_ (hCont (gb141, gb142) _ ⟨hHeld, q37_, q66_, GW141.out, GE141.out, NB142_141.out, NB141_142.out, GW142.out, GE142.out, q98_⟩)
       ·skip
        refine box_step ?hg (N := 8) ?hd (cs := #[.int .i64 0, .int .i64 0, .int .i64 0, .int .i64 0, .int .i64 0]) (t := 25) ?hr ?_; (case hd => rfl); (case hg => rfl); (case hr => first | (go_simp; done) | (go_simp; rfl))
        intro gb142 hg w27 hbox hb
        have n0_ := Aside0.mk (below_step q2_ hb)
        have n1_ := Aside0.mk (hbox)
        have n2_ := Aside0.mk ((by rw [hg]; exact (below_size q2_) : w.heap.size ≤ gb142))
        have n3_ := Aside0.mk ((by rw [hg]; exact (below_size q2_) : w.heap.size ≤ gb142))
        clear HB
        have HB := n0_
        have BK142 := n1_
        have GW142 := n2_
        have GE142 := n3_
        clear n0_ n1_ n2_ n3_
        clear hb hbox hg
        refine hK.out _ _ ⟨((HB.out.cell (World.block_lt_of_cell? w _ hw139_0)).trans hw139_0), ((HB.out.cell (World.block_lt_of_cell? w _ hw139_1)).trans hw139_1), ((HB.out.cell (World.block_lt_of_cell? w _ hw139_2)).trans hw139_2), ((HB.out.cell (World.block_lt_of_cell? w _ hw139_3)).trans hw139_3), ((HB.out.cell (World.block_lt_of_cell? w _ hw139_4)).trans hw139_4), ((HB.out.cell (World.block_lt_of_cell? w _ hw140_0)).trans hw140_0), ((HB.out.cell (World.block_lt_of_cell? w _ hw140_1)).trans hw140_1), ((HB.out.cell (World.block_lt_of_cell? w _ hw140_2)).trans hw140_2), ((HB.out.cell (World.block_lt_of_cell? w _ hw140_3)).trans hw140_3), ((HB.out.cell (World.block_lt_of_cell? w _ hw140_4)).trans hw140_4)⟩ (fun hHeld => ?_)
        clear hK K
        refine norm_ (a' := ?_) ?_ ?_
        rotate_left
        ·show Act.put _ (some 8) _ = _
         simp only [Act.put, List.setIfInBounds_toArray, List.set_cons_zero, List.set_cons_succ, i64_w, i32_w]
         rfl
        refine one_ (i := 8) (N := some 7) #[true, true, true, true, true, true, true, true, true, true, false, false] rfl rfl (one_of HT_.out (by kernel_rfl)) (by decide) (fun K hK => ?_)
        refine box_step ?hg (N := 7) ?hd (cs := #[.int .i64 0, .int .i64 0, .int .i64 0, .int .i64 0, .int .i64 0]) (t := 25) ?hr ?_; (case hd => rfl); (case hg => rfl); (case hr => first | (go_simp; done) | (go_simp; rfl))
        intro gb141 hg w28 hbox hb
        have n0_ := Aside0.mk (blk_below (g := gb142) (o := .cells #[.int .i64 0, .int .i64 0, .int .i64 0, .int .i64 0, .int .i64 0] 25 (0, 0)) q66_ hb)
        have n1_ := Aside0.mk (below_step q80_ hb)
        have n2_ := Aside0.mk (hbox)
        have n3_ := Aside0.mk ((by rw [hg]; exact (below_size q80_) : w.heap.size ≤ gb141))
        have n4_ := Aside0.mk ((by rw [hg]; exact (below_size q80_) : w.heap.size ≤ gb141))
        have n5_ := Aside0.mk ((by rw [hg]; exact Nat.ne_of_lt (blk_lt (g := gb142) (o := .cells #[.int .i64 0, .int .i64 0, .int .i64 0, .int .i64 0, .int .i64 0] 25 (0, 0)) q66_) : gb142 ≠ gb141))
        have n6_ := Aside0.mk ((by rw [hg]; exact Nat.ne_of_gt (blk_lt (g := gb142) (o := .cells #[.int .i64 0, .int .i64 0, .int .i64 0, .int .i64 0, .int .i64 0] 25 (0, 0)) q66_) : gb141 ≠ gb142))
        clear BK142
        clear HB
        have BK142 := n0_
        have HB := n1_
        have BK141 := n2_
        have GW141 := n3_
        have GE141 := n4_
        have NB142_141 := n5_
        have NB141_142 := n6_
        clear n0_ n1_ n2_ n3_ n4_ n5_ n6_
        clear hb hbox hg
        refine hK.out _ _ ⟨((HB.out.cell (World.block_lt_of_cell? w _ hw139_0)).trans hw139_0), ((HB.out.cell (World.block_lt_of_cell? w _ hw139_1)).trans hw139_1), ((HB.out.cell (World.block_lt_of_cell? w _ hw139_2)).trans hw139_2), ((HB.out.cell (World.block_lt_of_cell? w _ hw139_3)).trans hw139_3), ((HB.out.cell (World.block_lt_of_cell? w _ hw139_4)).trans hw139_4), ((HB.out.cell (World.block_lt_of_cell? w _ hw140_0)).trans hw140_0), ((HB.out.cell (World.block_lt_of_cell? w _ hw140_1)).trans hw140_1), ((HB.out.cell (World.block_lt_of_cell? w _ hw140_2)).trans hw140_2), ((HB.out.cell (World.block_lt_of_cell? w _ hw140_3)).trans hw140_3), ((HB.out.cell (World.block_lt_of_cell? w _ hw140_4)).trans hw140_4)⟩ (fun hHeld => ?_)
        clear hK K
        refine norm_ (a' := ?_) ?_ ?_
        rotate_left
        ·show Act.put _ (some 7) _ = _
         simp only [Act.put, List.setIfInBounds_toArray, List.set_cons_zero, List.set_cons_succ, i64_w, i32_w]
         rfl
        exact norm_ q85_ (hCont (gb141, gb142) _ ⟨hHeld, q37_, q66_, GW141.out, GE141.out, NB142_141.out, NB141_142.out, GW142.out, GE142.out, (by repeat (first | (with_reducible first | exact HB.out | apply below_alloc | apply pw_below_drewN | apply below_drew1 | refine below_set ?_ GE142.out | refine below_set ?_ GE141.out) | exact HB.out))⟩)
      rintro ⟨gb141, gb142⟩ w29 ⟨hS_, h0_, h1_, h2_, h3_, h4_, h5_, h6_, h7_, h8_⟩
      have n0_ : Aside0 (w29.heap[gb141]? = some (.cells #[.int .i64 0, .int .i64 0, .int .i64 0, .int .i64 0, .int .i64 0] 25 (0, 0))) := ⟨h0_⟩
      have n1_ : Aside0 (w29.heap[gb142]? = some (.cells #[.int .i64 0, .int .i64 0, .int .i64 0, .int .i64 0, .int .i64 0] 25 (0, 0))) := ⟨h1_⟩
      have n2_ : Aside0 (w.heap.size ≤ gb141) := ⟨h2_⟩
      have n3_ : Aside0 (w.heap.size ≤ gb141) := ⟨h3_⟩
      have n4_ : Aside0 (gb142 ≠ gb141) := ⟨h4_⟩
      have n5_ : Aside0 (gb141 ≠ gb142) := ⟨h5_⟩
      have n6_ : Aside0 (w.heap.size ≤ gb142) := ⟨h6_⟩
      have n7_ : Aside0 (w.heap.size ≤ gb142) := ⟨h7_⟩
      have n8_ : Aside0 (Below w.heap.size w w29) := ⟨h8_⟩
      clear HB
      clear h0_ h1_ h2_ h3_ h4_ h5_ h6_ h7_ h8_
      have BK141 := n0_
      have BK142 := n1_
      have GW141 := n2_
      have GE141 := n3_
      have NB142_141 := n4_
      have NB141_142 := n5_
      have GW142 := n6_
      have GE142 := n7_
      have HB := n8_
      clear n0_ n1_ n2_ n3_ n4_ n5_ n6_ n7_ n8_
      have hHeld : w29.cell? (ad139.add ((a1).toNat * 5)) = some (.int .i64 ((rd_T25 l0 a1).f0)) ∧ w29.cell? ⟨(ad139.add ((a1).toNat * 5)).block, (ad139.add ((a1).toNat * 5)).off + 1, none⟩ = some (.int .i64 ((rd_T25 l0 a1).f1.f0)) ∧ w29.cell? ⟨(ad139.add ((a1).toNat * 5)).block, (ad139.add ((a1).toNat * 5)).off + 2, none⟩ = some (.int .i64 ((rd_T25 l0 a1).f1.f1)) ∧ w29.cell? ⟨(ad139.add ((a1).toNat * 5)).block, (ad139.add ((a1).toNat * 5)).off + 3, none⟩ = some (.int .i64 ((rd_T25 l0 a1).f1.f2)) ∧ w29.cell? ⟨(ad139.add ((a1).toNat * 5)).block, (ad139.add ((a1).toNat * 5)).off + 4, none⟩ = some (.int .i64 ((rd_T25 l0 a1).f1.f3)) ∧ w29.cell? (ad139.add ((a2).toNat * 5)) = some (.int .i64 ((rd_T25 l0 a2).f0)) ∧ w29.cell? ⟨(ad139.add ((a2).toNat * 5)).block, (ad139.add ((a2).toNat * 5)).off + 1, none⟩ = some (.int .i64 ((rd_T25 l0 a2).f1.f0)) ∧ w29.cell? ⟨(ad139.add ((a2).toNat * 5)).block, (ad139.add ((a2).toNat * 5)).off + 2, none⟩ = some (.int .i64 ((rd_T25 l0 a2).f1.f1)) ∧ w29.cell? ⟨(ad139.add ((a2).toNat * 5)).block, (ad139.add ((a2).toNat * 5)).off + 3, none⟩ = some (.int .i64 ((rd_T25 l0 a2).f1.f2)) ∧ w29.cell? ⟨(ad139.add ((a2).toNat * 5)).block, (ad139.add ((a2).toNat * 5)).off + 4, none⟩ = some (.int .i64 ((rd_T25 l0 a2).f1.f3)) := hS_
      refine norm_ (a' := ?_) ?_ ?_
      rotate_left
      ·simp only [putAll, Act.put, List.setIfInBounds_toArray, List.set_cons_zero, List.set_cons_succ]
       rfl
      refine one_ (i := 10) (N := none) #[true, true, true, true, true, true, true, true, true, true, true, false] rfl rfl (one_of HT_.out (by kernel_rfl)) (by decide) (fun K hK => ?_)
      have hs30 : w29.cell? ⟨gb141, 0, none⟩ = some (.int .i64 0) := (blk_cell BK141.out 0).trans rfl
      have hfs30 := blk_frozen BK141.out 0
      have hns30_1 := NB142_141.out
      have hms30_1 := NB141_142.out
      have hs31 : w29.cell? ⟨gb141, 1, none⟩ = some (.int .i64 0) := (blk_cell BK141.out 1).trans rfl
      have hfs31 := blk_frozen BK141.out 1
      have hns31_1 := NB142_141.out
      have hms31_1 := NB141_142.out
      have hs32 : w29.cell? ⟨gb141, 2, none⟩ = some (.int .i64 0) := (blk_cell BK141.out 2).trans rfl
      have hfs32 := blk_frozen BK141.out 2
      have hns32_1 := NB142_141.out
      have hms32_1 := NB141_142.out
      have hs33 : w29.cell? ⟨gb141, 3, none⟩ = some (.int .i64 0) := (blk_cell BK141.out 3).trans rfl
      have hfs33 := blk_frozen BK141.out 3
      have hns33_1 := NB142_141.out
      have hms33_1 := NB141_142.out
      have hs34 : w29.cell? ⟨gb141, 4, none⟩ = some (.int .i64 0) := (blk_cell BK141.out 4).trans rfl
      have hfs34 := blk_frozen BK141.out 4
      have hns34_1 := NB142_141.out
      have hms34_1 := NB141_142.out
      refine skip_ (w1 := ?_) (by rfl) rfl ?_ ?_
      rotate_left
      ·go_simp
       rfl
      refine hK.out _ _ ⟨((cell_far (p := ⟨gb141, _, none⟩) q43_ _).trans (((cell_far (p := ⟨gb141, _, none⟩) q43_ _).trans (((cell_far (p := ⟨gb141, _, none⟩) q43_ _).trans (((cell_far (p := ⟨gb141, _, none⟩) q43_ _).trans (((cell_far (p := ⟨gb141, _, none⟩) q43_ _).trans (hHeld.1)))))))))), ((cell_far (p := ⟨gb141, _, none⟩) q45_ _).trans (((cell_far (p := ⟨gb141, _, none⟩) q45_ _).trans (((cell_far (p := ⟨gb141, _, none⟩) q45_ _).trans (((cell_far (p := ⟨gb141, _, none⟩) q45_ _).trans (((cell_far (p := ⟨gb141, _, none⟩) q45_ _).trans (hHeld.2.1)))))))))), ((cell_far (p := ⟨gb141, _, none⟩) q47_ _).trans (((cell_far (p := ⟨gb141, _, none⟩) q47_ _).trans (((cell_far (p := ⟨gb141, _, none⟩) q47_ _).trans (((cell_far (p := ⟨gb141, _, none⟩) q47_ _).trans (((cell_far (p := ⟨gb141, _, none⟩) q47_ _).trans (hHeld.2.2.1)))))))))), ((cell_far (p := ⟨gb141, _, none⟩) q49_ _).trans (((cell_far (p := ⟨gb141, _, none⟩) q49_ _).trans (((cell_far (p := ⟨gb141, _, none⟩) q49_ _).trans (((cell_far (p := ⟨gb141, _, none⟩) q49_ _).trans (((cell_far (p := ⟨gb141, _, none⟩) q49_ _).trans (hHeld.2.2.2.1)))))))))), ((cell_far (p := ⟨gb141, _, none⟩) q51_ _).trans (((cell_far (p := ⟨gb141, _, none⟩) q51_ _).trans (((cell_far (p := ⟨gb141, _, none⟩) q51_ _).trans (((cell_far (p := ⟨gb141, _, none⟩) q51_ _).trans (((cell_far (p := ⟨gb141, _, none⟩) q51_ _).trans (hHeld.2.2.2.2.1)))))))))), ((cell_far (p := ⟨gb141, _, none⟩) q53_ _).trans (((cell_far (p := ⟨gb141, _, none⟩) q53_ _).trans (((cell_far (p := ⟨gb141, _, none⟩) q53_ _).trans (((cell_far (p := ⟨gb141, _, none⟩) q53_ _).trans (((cell_far (p := ⟨gb141, _, none⟩) q53_ _).trans (hHeld.2.2.2.2.2.1)))))))))), ((cell_far (p := ⟨gb141, _, none⟩) q55_ _).trans (((cell_far (p := ⟨gb141, _, none⟩) q55_ _).trans (((cell_far (p := ⟨gb141, _, none⟩) q55_ _).trans (((cell_far (p := ⟨gb141, _, none⟩) q55_ _).trans (((cell_far (p := ⟨gb141, _, none⟩) q55_ _).trans (hHeld.2.2.2.2.2.2.1)))))))))), ((cell_far (p := ⟨gb141, _, none⟩) q57_ _).trans (((cell_far (p := ⟨gb141, _, none⟩) q57_ _).trans (((cell_far (p := ⟨gb141, _, none⟩) q57_ _).trans (((cell_far (p := ⟨gb141, _, none⟩) q57_ _).trans (((cell_far (p := ⟨gb141, _, none⟩) q57_ _).trans (hHeld.2.2.2.2.2.2.2.1)))))))))), ((cell_far (p := ⟨gb141, _, none⟩) q59_ _).trans (((cell_far (p := ⟨gb141, _, none⟩) q59_ _).trans (((cell_far (p := ⟨gb141, _, none⟩) q59_ _).trans (((cell_far (p := ⟨gb141, _, none⟩) q59_ _).trans (((cell_far (p := ⟨gb141, _, none⟩) q59_ _).trans (hHeld.2.2.2.2.2.2.2.2.1)))))))))), ((cell_far (p := ⟨gb141, _, none⟩) q61_ _).trans (((cell_far (p := ⟨gb141, _, none⟩) q61_ _).trans (((cell_far (p := ⟨gb141, _, none⟩) q61_ _).trans (((cell_far (p := ⟨gb141, _, none⟩) q61_ _).trans (((cell_far (p := ⟨gb141, _, none⟩) q61_ _).trans (hHeld.2.2.2.2.2.2.2.2.2))))))))))⟩ (fun hHeld => ?_)
      clear hK K
      refine one_ (i := 11) (N := none) #[true, true, true, true, true, true, true, true, true, true, true, true] rfl rfl (one_of HT_.out (by kernel_rfl)) (by decide) (fun K hK => ?_)
      have hs35 : w29.cell? ⟨gb142, 0, none⟩ = some (.int .i64 0) := (blk_cell BK142.out 0).trans rfl
      have hfs35 := blk_frozen BK142.out 0
      have hns35_0 := NB141_142.out
      have hms35_0 := NB142_141.out
      have hs36 : w29.cell? ⟨gb142, 1, none⟩ = some (.int .i64 0) := (blk_cell BK142.out 1).trans rfl
      have hfs36 := blk_frozen BK142.out 1
      have hns36_0 := NB141_142.out
      have hms36_0 := NB142_141.out
      have hs37 : w29.cell? ⟨gb142, 2, none⟩ = some (.int .i64 0) := (blk_cell BK142.out 2).trans rfl
      have hfs37 := blk_frozen BK142.out 2
      have hns37_0 := NB141_142.out
      have hms37_0 := NB142_141.out
      have hs38 : w29.cell? ⟨gb142, 3, none⟩ = some (.int .i64 0) := (blk_cell BK142.out 3).trans rfl
      have hfs38 := blk_frozen BK142.out 3
      have hns38_0 := NB141_142.out
      have hms38_0 := NB142_141.out
      have hs39 : w29.cell? ⟨gb142, 4, none⟩ = some (.int .i64 0) := (blk_cell BK142.out 4).trans rfl
      have hfs39 := blk_frozen BK142.out 4
      have hns39_0 := NB141_142.out
      have hms39_0 := NB142_141.out
      refine skip_ (w1 := ?_) (by rfl) rfl ?_ ?_
      rotate_left
      ·go_simp
       rfl
      refine hK.out _ _ ⟨((cell_far (p := ⟨gb142, _, none⟩) q42_ _).trans (((cell_far (p := ⟨gb142, _, none⟩) q42_ _).trans (((cell_far (p := ⟨gb142, _, none⟩) q42_ _).trans (((cell_far (p := ⟨gb142, _, none⟩) q42_ _).trans (((cell_far (p := ⟨gb142, _, none⟩) q42_ _).trans (hHeld.1)))))))))), ((cell_far (p := ⟨gb142, _, none⟩) q44_ _).trans (((cell_far (p := ⟨gb142, _, none⟩) q44_ _).trans (((cell_far (p := ⟨gb142, _, none⟩) q44_ _).trans (((cell_far (p := ⟨gb142, _, none⟩) q44_ _).trans (((cell_far (p := ⟨gb142, _, none⟩) q44_ _).trans (hHeld.2.1)))))))))), ((cell_far (p := ⟨gb142, _, none⟩) q46_ _).trans (((cell_far (p := ⟨gb142, _, none⟩) q46_ _).trans (((cell_far (p := ⟨gb142, _, none⟩) q46_ _).trans (((cell_far (p := ⟨gb142, _, none⟩) q46_ _).trans (((cell_far (p := ⟨gb142, _, none⟩) q46_ _).trans (hHeld.2.2.1)))))))))), ((cell_far (p := ⟨gb142, _, none⟩) q48_ _).trans (((cell_far (p := ⟨gb142, _, none⟩) q48_ _).trans (((cell_far (p := ⟨gb142, _, none⟩) q48_ _).trans (((cell_far (p := ⟨gb142, _, none⟩) q48_ _).trans (((cell_far (p := ⟨gb142, _, none⟩) q48_ _).trans (hHeld.2.2.2.1)))))))))), ((cell_far (p := ⟨gb142, _, none⟩) q50_ _).trans (((cell_far (p := ⟨gb142, _, none⟩) q50_ _).trans (((cell_far (p := ⟨gb142, _, none⟩) q50_ _).trans (((cell_far (p := ⟨gb142, _, none⟩) q50_ _).trans (((cell_far (p := ⟨gb142, _, none⟩) q50_ _).trans (hHeld.2.2.2.2.1)))))))))), ((cell_far (p := ⟨gb142, _, none⟩) q52_ _).trans (((cell_far (p := ⟨gb142, _, none⟩) q52_ _).trans (((cell_far (p := ⟨gb142, _, none⟩) q52_ _).trans (((cell_far (p := ⟨gb142, _, none⟩) q52_ _).trans (((cell_far (p := ⟨gb142, _, none⟩) q52_ _).trans (hHeld.2.2.2.2.2.1)))))))))), ((cell_far (p := ⟨gb142, _, none⟩) q54_ _).trans (((cell_far (p := ⟨gb142, _, none⟩) q54_ _).trans (((cell_far (p := ⟨gb142, _, none⟩) q54_ _).trans (((cell_far (p := ⟨gb142, _, none⟩) q54_ _).trans (((cell_far (p := ⟨gb142, _, none⟩) q54_ _).trans (hHeld.2.2.2.2.2.2.1)))))))))), ((cell_far (p := ⟨gb142, _, none⟩) q56_ _).trans (((cell_far (p := ⟨gb142, _, none⟩) q56_ _).trans (((cell_far (p := ⟨gb142, _, none⟩) q56_ _).trans (((cell_far (p := ⟨gb142, _, none⟩) q56_ _).trans (((cell_far (p := ⟨gb142, _, none⟩) q56_ _).trans (hHeld.2.2.2.2.2.2.2.1)))))))))), ((cell_far (p := ⟨gb142, _, none⟩) q58_ _).trans (((cell_far (p := ⟨gb142, _, none⟩) q58_ _).trans (((cell_far (p := ⟨gb142, _, none⟩) q58_ _).trans (((cell_far (p := ⟨gb142, _, none⟩) q58_ _).trans (((cell_far (p := ⟨gb142, _, none⟩) q58_ _).trans (hHeld.2.2.2.2.2.2.2.2.1)))))))))), ((cell_far (p := ⟨gb142, _, none⟩) q60_ _).trans (((cell_far (p := ⟨gb142, _, none⟩) q60_ _).trans (((cell_far (p := ⟨gb142, _, none⟩) q60_ _).trans (((cell_far (p := ⟨gb142, _, none⟩) q60_ _).trans (((cell_far (p := ⟨gb142, _, none⟩) q60_ _).trans (hHeld.2.2.2.2.2.2.2.2.2))))))))))⟩ (fun hHeld => ?_)
      clear hK K
      refine done_ (done_of HT_.out (by kernel_rfl)) ?_
      have hnb40 := NB141_142.out
      have hnc40 := NB142_141.out
      have hcz41_0 : w29.cell? ⟨gb141, 0, none⟩ = some (.int .i64 0) := (blk_cell BK141.out 0).trans rfl
      have hcz41_1 : w29.cell? ⟨gb141, 1, none⟩ = some (.int .i64 0) := (blk_cell BK141.out 1).trans rfl
      have hcz41_2 : w29.cell? ⟨gb141, 2, none⟩ = some (.int .i64 0) := (blk_cell BK141.out 2).trans rfl
      have hcz41_3 : w29.cell? ⟨gb141, 3, none⟩ = some (.int .i64 0) := (blk_cell BK141.out 3).trans rfl
      have hcz41_4 : w29.cell? ⟨gb141, 4, none⟩ = some (.int .i64 0) := (blk_cell BK141.out 4).trans rfl
      have hfz41_0 := blk_frozen BK141.out 0
      have hfz41_1 := blk_frozen BK141.out 1
      have hfz41_2 := blk_frozen BK141.out 2
      have hfz41_3 := blk_frozen BK141.out 3
      have hfz41_4 := blk_frozen BK141.out 4
      have hcz42_0 : w29.cell? ⟨gb142, 0, none⟩ = some (.int .i64 0) := (blk_cell BK142.out 0).trans rfl
      have hcz42_1 : w29.cell? ⟨gb142, 1, none⟩ = some (.int .i64 0) := (blk_cell BK142.out 1).trans rfl
      have hcz42_2 : w29.cell? ⟨gb142, 2, none⟩ = some (.int .i64 0) := (blk_cell BK142.out 2).trans rfl
      have hcz42_3 : w29.cell? ⟨gb142, 3, none⟩ = some (.int .i64 0) := (blk_cell BK142.out 3).trans rfl
      have hcz42_4 : w29.cell? ⟨gb142, 4, none⟩ = some (.int .i64 0) := (blk_cell BK142.out 4).trans rfl
      have hfz42_0 := blk_frozen BK142.out 0
      have hfz42_1 := blk_frozen BK142.out 1
      have hfz42_2 := blk_frozen BK142.out 2
      have hfz42_3 := blk_frozen BK142.out 3
      have hfz42_4 := blk_frozen BK142.out 4
      try go_wp2
      go_ret
      exact ⟨by first | rfl | (simp [errW_none, errW_some] <;> rfl) | (simp [*, errW_none, errW_some] <;> rfl), by repeat (first | (with_reducible first | exact HB.out | apply below_alloc | apply pw_below_drewN | apply below_drew1 | refine below_set ?_ GE141.out | refine below_set ?_ GE142.out) | exact HB.out)⟩
    ·rw [if_neg c7] at H
     exact absurd H (by simp)
   ·rw [if_neg c6] at H
    exact absurd H (by simp)
  ·rw [if_neg c5] at H
   exact absurd H (by simp)
 ·rw [if_neg c4] at H
  exact absurd H (by simp)
def choose_queue_Swap.f (l0 : List (S25)) (a1 : Int) (a2 : Int) : Option ((List (S25))) := if 0 ≤ a2 then (if a2 < (l0.length : Int) then (if 0 ≤ a1 then (if a1 < (l0.length : Int) then (some ((l0.set (a1 : Int).toNat (⟨(rd_T25 l0 a2).f0, (⟨(rd_T25 l0 a2).f1.f0, (rd_T25 l0 a2).f1.f1, (rd_T25 l0 a2).f1.f2, (rd_T25 l0 a2).f1.f3⟩ : S23)⟩ : S25)).set (a2 : Int).toNat (⟨(rd_T25 l0 a1).f0, (⟨(rd_T25 l0 a1).f1.f0, (rd_T25 l0 a1).f1.f1, (rd_T25 l0 a1).f1.f2, (rd_T25 l0 a1).f1.f3⟩ : S23)⟩ : S25))) else (none)) else (none)) else (none)) else (none)
def choose_queue_Swap.T0 : Bool × List (List Nat × List Nat) := (true, [([], []), ([], []), ([], []), ([], []), ([], []), ([], []), ([4, 5], [4, 5]), ([6], [6]), ([], []), ([], []), ([8, 9], [8, 9]), ([10], [10]), ([0, 1, 0, 1, 4, 5, 6, 7, 11], [0, 1]), ([12, 7, 0, 1, 4, 5, 6, 7, 11], [7, 12]), ([2, 3, 0, 1, 2, 3, 4, 5, 6, 7, 8, 9, 10, 11, 12, 13], [2, 3]), ([14, 11, 13, 0, 1, 2, 3, 4, 5, 6, 7, 8, 9, 10, 11, 12, 13], [11, 14])])
def choose_queue_Swap.B0 : List Nat := [0, 0, 0, 0, 0, 0, 48, 112, 0, 0, 768, 1792, 4083, 8179, 16383, 32767]
theorem choose_queue_Swap.tab0 : rtab .any (opsOf Try.f112 0) = choose_queue_Swap.T0 := by kernel_rfl
theorem choose_queue_Swap.bits0 : waitsOk choose_queue_Swap.T0.2 choose_queue_Swap.B0 = true := by kernel_rfl
set_option maxHeartbeats 8000000 in
set_option maxRecDepth 100000 in
theorem choose_queue_Swap.calls (P0_ : Nat → Prop) (u9000_ : Value) (l0 : List (S25)) (a1 : Int) (a2 : Int) (r : List (S25)) (w0 w : World) (hB : Below w0.heap.size w0 w) (ho0 : Kd.R k25 25 w w0.heap.size P0_ u9000_ l0) (h : choose_queue_Swap.f l0 a1 a2 = some r) :
  Calls Try.prog 112 #[u9000_, .int .i64 a1, .int .i64 a2] w fun e w' => e = .returned (.tuple #[]) ∧ Kd.R k25 25 w' w0.heap.size (fun k_ => (P0_ k_ ∨ w.heap.size ≤ k_)) u9000_ r ∧ Below w0.heap.size w0 w' ∧ Kept w w' (fun k_ => P0_ k_) := by
 have hu25 := Try.underlying25
 have HO0 := Aside0.mk (show Kd.R k25 25 w w0.heap.size (fun k_ => (P0_ k_ ∨ w.heap.size ≤ k_)) u9000_ l0 from Kd.R_mono ho0 (fun k_ hk => (.inl hk)))
 have HK := Aside0.mk (Kept.refl w (fun k_ => P0_ k_))
 have HW0 := Aside0.mk hB.size
 have HB := Aside0.mk hB
 clear hB
 have H : (if 0 ≤ a2 then (if a2 < (l0.length : Int) then (if 0 ≤ a1 then (if a1 < (l0.length : Int) then (some ((l0.set (a1 : Int).toNat (⟨(rd_T25 l0 a2).f0, (⟨(rd_T25 l0 a2).f1.f0, (rd_T25 l0 a2).f1.f1, (rd_T25 l0 a2).f1.f2, (rd_T25 l0 a2).f1.f3⟩ : S23)⟩ : S25)).set (a2 : Int).toNat (⟨(rd_T25 l0 a1).f0, (⟨(rd_T25 l0 a1).f1.f0, (rd_T25 l0 a1).f1.f1, (rd_T25 l0 a1).f1.f2, (rd_T25 l0 a1).f1.f3⟩ : S23)⟩ : S25))) else (none)) else (none)) else (none)) else (none)) = some r := h
 clear h
 by_cases c4 : 0 ≤ a2
 ·rw [if_pos c4] at H
  have c4b0 : decide (0 ≤ a2) = true := decide_eq_true c4
  clear c4
  by_cases c5 : a2 < (l0.length : Int)
  ·rw [if_pos c5] at H
   have c5b0 : decide (a2 < (l0.length : Int)) = true := decide_eq_true c5
   clear c5
   by_cases c6 : 0 ≤ a1
   ·rw [if_pos c6] at H
    have c6b0 : decide (0 ≤ a1) = true := decide_eq_true c6
    clear c6
    by_cases c7 : a1 < (l0.length : Int)
    ·rw [if_pos c7] at H
     have c7b0 : decide (a1 < (l0.length : Int)) = true := decide_eq_true c7
     clear c7
     obtain ⟨y145, hy145⟩ : ∃ y_ : List (S25), y_ = (l0.set (a1 : Int).toNat (⟨(rd_T25 l0 a2).f0, (⟨(rd_T25 l0 a2).f1.f0, (rd_T25 l0 a2).f1.f1, (rd_T25 l0 a2).f1.f2, (rd_T25 l0 a2).f1.f3⟩ : S23)⟩ : S25)) := ⟨_, rfl⟩
     replace H : (some (y145.set (a2 : Int).toNat (⟨(rd_T25 l0 a1).f0, (⟨(rd_T25 l0 a1).f1.f0, (rd_T25 l0 a1).f1.f1, (rd_T25 l0 a1).f1.f2, (rd_T25 l0 a1).f1.f3⟩ : S23)⟩ : S25))) = some r := by first | (rw [hy145]; with_reducible exact H) | (have H2_ := (Option.bind_some _ _).symm.trans H; rw [hy145]; with_reducible exact H2_) | (have H2_ := (Option.bind_some _ _).symm.trans H; with_reducible exact H2_) | with_reducible exact H | (rw [hy145]; exact H) | exact H
     have Ny145 := Aside0.mk hy145
     clear hy145
     obtain ⟨y146, hy146⟩ : ∃ y_ : List (S25), y_ = (y145.set (a2 : Int).toNat (⟨(rd_T25 l0 a1).f0, (⟨(rd_T25 l0 a1).f1.f0, (rd_T25 l0 a1).f1.f1, (rd_T25 l0 a1).f1.f2, (rd_T25 l0 a1).f1.f3⟩ : S23)⟩ : S25)) := ⟨_, rfl⟩
     replace H : (some y146) = some r := by first | (rw [hy146]; with_reducible exact H) | (have H2_ := (Option.bind_some _ _).symm.trans H; rw [hy146]; with_reducible exact H2_) | (have H2_ := (Option.bind_some _ _).symm.trans H; with_reducible exact H2_) | with_reducible exact H | (rw [hy146]; exact H) | exact H
     have Ny146 := Aside0.mk hy146
     clear hy146
     obtain rfl := Option.some.inj H
     go_enter Try.func112, Try.ntmps112
     try go_wp2
     have n0_ := Aside0.mk (Kd.R_drew HO0.out)
     have n1_ := Aside0.mk (Kept.drew HK.out)
     have n2_ := Aside0.mk (below_drew1 HB.out)
     clear HO0
     clear HK
     clear HB
     have HO0 := n0_
     have HK := n1_
     have HB := n2_
     clear n0_ n1_ n2_
     obtain ⟨Ao11, co11, eo11⟩ := Kd.R_slice HO0.out
     (first | subst eo11 | (injection eo11 with f1_ f2_ f3_; have f4_ := f1_.symm; have f5_ := f3_.symm; clear f1_ f2_ f3_; subst f4_; subst f5_))
     have p143 : 0 ≤ (a2 : Int) := of_decide_eq_true q16_
     have q143 : a2 < (l0.length : Int) := of_decide_eq_true q16_
     obtain ⟨ad143, e143, hx143_0, hx143_1, hx143_2, hx143_3, hx143_4⟩ := at_T25 (Kd.R_reads' HO0.out).2.2 a2 p143 q143
     cases e143
     replace p143 := eq_true p143
     replace q143 := eq_true q143
     have p144 : 0 ≤ (a1 : Int) := of_decide_eq_true q16_
     have q144 : a1 < (l0.length : Int) := of_decide_eq_true q16_
     obtain ⟨ad144, e144, hx144_0, hx144_1, hx144_2, hx144_3, hx144_4⟩ := at_T25 (Kd.R_reads' HO0.out).2.2 a1 p144 q144
     obtain rfl : ad143 = ad144 := (by injection e144)
     replace p144 := eq_true p144
     replace q144 := eq_true q144
     have p8 : 0 ≤ (a1 : Int) := of_decide_eq_true q16_
     have q8 : (a1 : Int) < ((l0.length : Int) : Int) := of_decide_eq_true q16_
     obtain ⟨go8, co8, eo8, gb8, gl8, cl8, HG8⟩ := Kd.R_form HO0.out (by omega)
     (first | cases eo8 | (injection eo8 with ea_ en_ ec_; (first | subst ea_ | (injection ea_ with ea_; subst ea_)); subst ec_; clear en_))
     have GB8 := Aside0.mk gb8
     have GG8 := Aside0.mk HG8
     clear gb8 gl8 HG8
     have HMgo8 := Aside0.mk (show (P0_ go8 ∨ w.heap.size ≤ go8) from (HO0.out.1 _ rfl))
     (first | simp only [add_plain] at hx143_0 | skip)
     (first | simp only [add_plain] at hx143_1 | skip)
     (first | simp only [add_plain] at hx143_2 | skip)
     (first | simp only [add_plain] at hx143_3 | skip)
     (first | simp only [add_plain] at hx143_4 | skip)
     (first | simp only [add_plain] at hx144_0 | skip)
     (first | simp only [add_plain] at hx144_1 | skip)
     (first | simp only [add_plain] at hx144_2 | skip)
     (first | simp only [add_plain] at hx144_3 | skip)
     (first | simp only [add_plain] at hx144_4 | skip)
     obtain ⟨ce8, hcl8, hM8, hcc8, hfr8⟩ := Kd.R_elem HO0.out z25 (a1 : Int) p8 q8
     obtain rfl := k25_openM hM8
     have hx8_0 : World.cell? _ ⟨go8, (a1 : Int).toNat * 5, none⟩ = some (.int .i64 ((rd_T25 l0 a1).f0)) := hcc8 0 _ rfl
     have hx8_1 : World.cell? _ ⟨go8, (a1 : Int).toNat * 5 + 1, none⟩ = some (.int .i64 ((rd_T25 l0 a1).f1.f0)) := hcc8 1 _ rfl
     have hx8_2 : World.cell? _ ⟨go8, (a1 : Int).toNat * 5 + 2, none⟩ = some (.int .i64 ((rd_T25 l0 a1).f1.f1)) := hcc8 2 _ rfl
     have hx8_3 : World.cell? _ ⟨go8, (a1 : Int).toNat * 5 + 3, none⟩ = some (.int .i64 ((rd_T25 l0 a1).f1.f2)) := hcc8 3 _ rfl
     have hx8_4 : World.cell? _ ⟨go8, (a1 : Int).toNat * 5 + 4, none⟩ = some (.int .i64 ((rd_T25 l0 a1).f1.f3)) := hcc8 4 _ rfl
     have hf8_0 : World.frozen? _ ⟨go8, (a1 : Int).toNat * 5, none⟩ = false := hfr8 0
     have hf8_1 : World.frozen? _ ⟨go8, (a1 : Int).toNat * 5 + 1, none⟩ = false := hfr8 1
     have hf8_2 : World.frozen? _ ⟨go8, (a1 : Int).toNat * 5 + 2, none⟩ = false := hfr8 2
     have hf8_3 : World.frozen? _ ⟨go8, (a1 : Int).toNat * 5 + 3, none⟩ = false := hfr8 3
     have hf8_4 : World.frozen? _ ⟨go8, (a1 : Int).toNat * 5 + 4, none⟩ = false := hfr8 4
     clear hcl8 hcc8 hfr8 hM8
     replace p8 := eq_true p8
     replace q8 := eq_true q8
     obtain ⟨ce12, hcl12, hM12, hcc12, hfr12⟩ := Kd.R_elem HO0.out z25 (a1 : Int) (of_decide_eq_true q16_) (by have h_ : (a1 : Int) < ((l0.length : Int) : Int) := of_decide_eq_true q16_; first | exact h_ | (have e_ := (Kd.R_reads' HO0.out).1; omega) | simpa using h_)
     obtain rfl := k25_openM hM12
     have HP12 := (Kd.R_seg HO0.out (a1 : Int) (of_decide_eq_true q16_) (by have h_ : (a1 : Int) < ((l0.length : Int) : Int) := of_decide_eq_true q16_; first | exact h_ | (have e_ := (Kd.R_reads' HO0.out).1; omega) | simpa using h_) (seg := [.int .i64 ((rd_T25 l0 a2).f0), .int .i64 ((rd_T25 l0 a2).f1.f0), .int .i64 ((rd_T25 l0 a2).f1.f1), .int .i64 ((rd_T25 l0 a2).f1.f2), .int .i64 ((rd_T25 l0 a2).f1.f3)]) (j := 0) hcl12 hcc12 (show 5 ≤ 5 from by decide) (x' := (⟨(rd_T25 l0 a2).f0, (⟨(rd_T25 l0 a2).f1.f0, (rd_T25 l0 a2).f1.f1, (rd_T25 l0 a2).f1.f2, (rd_T25 l0 a2).f1.f3⟩ : S23)⟩ : S25)) (k25_mkM _ _ _ (⟨(rd_T25 l0 a2).f0, (⟨(rd_T25 l0 a2).f1.f0, (rd_T25 l0 a2).f1.f1, (rd_T25 l0 a2).f1.f2, (rd_T25 l0 a2).f1.f3⟩ : S23)⟩ : S25) ) (fun _ hk => hk)).1
     rw [← Ny145.out] at HP12
     have HQ12 := Aside0.mk HP12
     clear hcl12 hcc12 hfr12 hM12 HP12
     have p9 : 0 ≤ (a2 : Int) := of_decide_eq_true q16_
     have q9 : (a2 : Int) < ((l0.length : Int) : Int) := of_decide_eq_true q16_
     obtain ⟨ce9, hcl9, hM9, hcc9, hfr9⟩ := Kd.R_elem HQ12.out z25 (a2 : Int) p9 q9
     obtain rfl := k25_openM hM9
     have hx9_0 : World.cell? _ ⟨go8, (a2 : Int).toNat * 5, none⟩ = some (.int .i64 ((rd_T25 y145 a2).f0)) := hcc9 0 _ rfl
     have hx9_1 : World.cell? _ ⟨go8, (a2 : Int).toNat * 5 + 1, none⟩ = some (.int .i64 ((rd_T25 y145 a2).f1.f0)) := hcc9 1 _ rfl
     have hx9_2 : World.cell? _ ⟨go8, (a2 : Int).toNat * 5 + 2, none⟩ = some (.int .i64 ((rd_T25 y145 a2).f1.f1)) := hcc9 2 _ rfl
     have hx9_3 : World.cell? _ ⟨go8, (a2 : Int).toNat * 5 + 3, none⟩ = some (.int .i64 ((rd_T25 y145 a2).f1.f2)) := hcc9 3 _ rfl
     have hx9_4 : World.cell? _ ⟨go8, (a2 : Int).toNat * 5 + 4, none⟩ = some (.int .i64 ((rd_T25 y145 a2).f1.f3)) := hcc9 4 _ rfl
     have hf9_0 : World.frozen? _ ⟨go8, (a2 : Int).toNat * 5, none⟩ = false := hfr9 0
     have hf9_1 : World.frozen? _ ⟨go8, (a2 : Int).toNat * 5 + 1, none⟩ = false := hfr9 1
     have hf9_2 : World.frozen? _ ⟨go8, (a2 : Int).toNat * 5 + 2, none⟩ = false := hfr9 2
     have hf9_3 : World.frozen? _ ⟨go8, (a2 : Int).toNat * 5 + 3, none⟩ = false := hfr9 3
     have hf9_4 : World.frozen? _ ⟨go8, (a2 : Int).toNat * 5 + 4, none⟩ = false := hfr9 4
     clear hcl9 hcc9 hfr9 hM9
     replace p9 := eq_true p9
     replace q9 := eq_true q9
     obtain ⟨ce13, hcl13, hM13, hcc13, hfr13⟩ := Kd.R_elem HQ12.out z25 (a2 : Int) (of_decide_eq_true q16_) (by have h_ : (a2 : Int) < ((l0.length : Int) : Int) := of_decide_eq_true q16_; first | exact h_ | (have e_ := (Kd.R_reads' HO0.out).1; omega) | simpa using h_)
     obtain rfl := k25_openM hM13
     have HP13 := (Kd.R_seg HQ12.out (a2 : Int) (of_decide_eq_true q16_) (by have h_ : (a2 : Int) < ((l0.length : Int) : Int) := of_decide_eq_true q16_; first | exact h_ | (have e_ := (Kd.R_reads' HO0.out).1; omega) | simpa using h_) (seg := [.int .i64 ((rd_T25 l0 a1).f0), .int .i64 ((rd_T25 l0 a1).f1.f0), .int .i64 ((rd_T25 l0 a1).f1.f1), .int .i64 ((rd_T25 l0 a1).f1.f2), .int .i64 ((rd_T25 l0 a1).f1.f3)]) (j := 0) hcl13 hcc13 (show 5 ≤ 5 from by decide) (x' := (⟨(rd_T25 l0 a1).f0, (⟨(rd_T25 l0 a1).f1.f0, (rd_T25 l0 a1).f1.f1, (rd_T25 l0 a1).f1.f2, (rd_T25 l0 a1).f1.f3⟩ : S23)⟩ : S25)) (k25_mkM _ _ _ (⟨(rd_T25 l0 a1).f0, (⟨(rd_T25 l0 a1).f1.f0, (rd_T25 l0 a1).f1.f1, (rd_T25 l0 a1).f1.f2, (rd_T25 l0 a1).f1.f3⟩ : S23)⟩ : S25) ) (fun _ hk => hk)).1
     rw [← Ny146.out] at HP13
     have HQ13 := Aside0.mk HP13
     clear hcl13 hcc13 hfr13 hM13 HP13
     refine start_ (n := 16) (S := fun w' => w'.cell? ⟨go8, ((a2).toNat * 5), none⟩ = some (.int .i64 ((rd_T25 l0 a2).f0)) ∧ w'.cell? ⟨go8, ((a2).toNat * 5) + 1, none⟩ = some (.int .i64 ((rd_T25 l0 a2).f1.f0)) ∧ w'.cell? ⟨go8, ((a2).toNat * 5) + 2, none⟩ = some (.int .i64 ((rd_T25 l0 a2).f1.f1)) ∧ w'.cell? ⟨go8, ((a2).toNat * 5) + 3, none⟩ = some (.int .i64 ((rd_T25 l0 a2).f1.f2)) ∧ w'.cell? ⟨go8, ((a2).toNat * 5) + 4, none⟩ = some (.int .i64 ((rd_T25 l0 a2).f1.f3)) ∧ w'.cell? ⟨go8, ((a1).toNat * 5), none⟩ = some (.int .i64 ((rd_T25 l0 a1).f0)) ∧ w'.cell? ⟨go8, ((a1).toNat * 5) + 1, none⟩ = some (.int .i64 ((rd_T25 l0 a1).f1.f0)) ∧ w'.cell? ⟨go8, ((a1).toNat * 5) + 2, none⟩ = some (.int .i64 ((rd_T25 l0 a1).f1.f1)) ∧ w'.cell? ⟨go8, ((a1).toNat * 5) + 3, none⟩ = some (.int .i64 ((rd_T25 l0 a1).f1.f2)) ∧ w'.cell? ⟨go8, ((a1).toNat * 5) + 4, none⟩ = some (.int .i64 ((rd_T25 l0 a1).f1.f3))) (ds := [13, 15]) #[false, false, false, false, false, false, false, false, false, false, false, false, false, false, false, false] (by kernel_rfl) rfl rfl ⟨hx143_0, hx143_1, hx143_2, hx143_3, hx143_4, hx144_0, hx144_1, hx144_2, hx144_3, hx144_4⟩ (fun hHeld => ?_); refine with_tabW choose_queue_Swap.tab0 choose_queue_Swap.bits0 (fun HT_ HW_ => ?_)
     generalize w.drew = w10 at HO0 HK HB GG8 HQ12 HQ13 hf8_0 hf8_1 hf8_2 hf8_3 hf8_4 hf9_0 hf9_1 hf9_2 hf9_3 hf9_4 hx143_0 hx143_1 hx143_2 hx143_3 hx143_4 hx144_0 hx144_1 hx144_2 hx144_3 hx144_4 hx8_0 hx8_1 hx8_2 hx8_3 hx8_4 hx9_0 hx9_1 hx9_2 hx9_3 hx9_4 hHeld ⊢
     refine pure_ (i := 0) (N := some 6) (v := ?_) (a' := ?_) #[true, false, false, false, false, false, false, false, false, false, false, false, false, false, false, false] rfl rfl (any_of HT_.out (by kernel_rfl)) (fun _ _ _ h => h) (Or.inl ⟨by rfl, ?_⟩) ?_ ?_
     rotate_left
     ·intro w'
      go_simp
      with_reducible rfl
     rotate_left
     ·simp only [Act.put, List.setIfInBounds_toArray, List.set_cons_zero, List.set_cons_succ, i64_w, i32_w]
      rfl
     refine pure_ (i := 1) (N := some 7) (v := ?_) (a' := ?_) #[true, true, false, false, false, false, false, false, false, false, false, false, false, false, false, false] rfl rfl (any_of HT_.out (by kernel_rfl)) (fun _ _ _ h => h) (Or.inl ⟨by rfl, ?_⟩) ?_ ?_
     rotate_left
     ·intro w'
      go_simp
      with_reducible rfl
     rotate_left
     ·simp only [Act.put, List.setIfInBounds_toArray, List.set_cons_zero, List.set_cons_succ, i64_w, i32_w]
      rfl
     refine pure_ (i := 2) (N := some 8) (v := ?_) (a' := ?_) #[true, true, true, false, false, false, false, false, false, false, false, false, false, false, false, false] rfl rfl (any_of HT_.out (by kernel_rfl)) (fun _ _ _ h => h) (Or.inl ⟨by rfl, ?_⟩) ?_ ?_
     rotate_left
     ·intro w'
      go_simp
      with_reducible rfl
     rotate_left
     ·simp only [Act.put, List.setIfInBounds_toArray, List.set_cons_zero, List.set_cons_succ, i64_w, i32_w]
      rfl
     refine pure_ (i := 3) (N := some 9) (v := ?_) (a' := ?_) #[true, true, true, true, false, false, false, false, false, false, false, false, false, false, false, false] rfl rfl (any_of HT_.out (by kernel_rfl)) (fun _ _ _ h => h) (Or.inl ⟨by rfl, ?_⟩) ?_ ?_
     rotate_left
     ·intro w'
      go_simp
      with_reducible rfl
     rotate_left
     ·simp only [Act.put, List.setIfInBounds_toArray, List.set_cons_zero, List.set_cons_succ, i64_w, i32_w]
      rfl
     refine pure_ (i := 4) (N := some 10) (v := ?_) (a' := ?_) #[true, true, true, true, true, false, false, false, false, false, false, false, false, false, false, false] rfl rfl (any_of HT_.out (by kernel_rfl)) (fun _ _ _ h => h) (Or.inl ⟨by rfl, ?_⟩) ?_ ?_
     rotate_left
     ·intro w'
      go_simp
      with_reducible rfl
     rotate_left
     ·simp only [Act.put, List.setIfInBounds_toArray, List.set_cons_zero, List.set_cons_succ, i64_w, i32_w]
      rfl
     refine pure_ (i := 5) (N := some 11) (v := ?_) (a' := ?_) #[true, true, true, true, true, true, false, false, false, false, false, false, false, false, false, false] rfl rfl (any_of HT_.out (by kernel_rfl)) (fun _ _ _ h => h) (Or.inl ⟨by rfl, ?_⟩) ?_ ?_
     rotate_left
     ·intro w'
      go_simp
      with_reducible rfl
     rotate_left
     ·simp only [Act.put, List.setIfInBounds_toArray, List.set_cons_zero, List.set_cons_succ, i64_w, i32_w]
      rfl
     refine pure_ (i := 6) (N := some 12) (v := ?_) (a' := ?_) #[true, true, true, true, true, true, true, false, false, false, false, false, false, false, false, false] rfl rfl (any_of HT_.out (by kernel_rfl)) (fun _ _ _ h => h) (Or.inl ⟨by rfl, ?_⟩) ?_ ?_
     rotate_left
     ·intro w'
      go_simp
      with_reducible rfl
     rotate_left
     ·simp only [Act.put, List.setIfInBounds_toArray, List.set_cons_zero, List.set_cons_succ, i64_w, i32_w]
      rfl
     refine pure_ (i := 8) (N := some 14) (v := ?_) (a' := ?_) #[true, true, true, true, true, true, true, false, true, false, false, false, false, false, false, false] rfl rfl (any_of HT_.out (by kernel_rfl)) (fun _ _ _ h => h) (Or.inl ⟨by rfl, ?_⟩) ?_ ?_
     rotate_left
     ·intro w'
      go_simp
      with_reducible rfl
     rotate_left
     ·simp only [Act.put, List.setIfInBounds_toArray, List.set_cons_zero, List.set_cons_succ, i64_w, i32_w]
      rfl
     refine pure_ (i := 9) (N := some 15) (v := ?_) (a' := ?_) #[true, true, true, true, true, true, true, false, true, true, false, false, false, false, false, false] rfl rfl (any_of HT_.out (by kernel_rfl)) (fun _ _ _ h => h) (Or.inl ⟨by rfl, ?_⟩) ?_ ?_
     rotate_left
     ·intro w'
      go_simp
      with_reducible rfl
     rotate_left
     ·simp only [Act.put, List.setIfInBounds_toArray, List.set_cons_zero, List.set_cons_succ, i64_w, i32_w]
      rfl
     refine pure_ (i := 10) (N := some 16) (v := ?_) (a' := ?_) #[true, true, true, true, true, true, true, false, true, true, true, false, false, false, false, false] rfl rfl (any_of HT_.out (by kernel_rfl)) (fun _ _ _ h => h) (Or.inl ⟨by rfl, ?_⟩) ?_ ?_
     rotate_left
     ·intro w'
      go_simp
      with_reducible rfl
     rotate_left
     ·simp only [Act.put, List.setIfInBounds_toArray, List.set_cons_zero, List.set_cons_succ, i64_w, i32_w]
      rfl
     refine take_ (i := 7) (N := some 13) (v := ?_) (a' := ?_) #[true, true, true, true, true, true, true, true, true, true, true, false, false, false, false, false] rfl rfl (take_ofW HT_.out HW_.out (by kernel_rfl)) (fun _ _ _ h => h) (Or.inl ⟨by rfl, ?_⟩) hHeld ?_ ?_
     rotate_left
     ·rintro w' ⟨s0, s1, s2, s3, s4, s5, s6, s7, s8, s9⟩
      go_simp
      with_reducible rfl
     rotate_left
     ·simp only [Act.put, List.setIfInBounds_toArray, List.set_cons_zero, List.set_cons_succ, i64_w, i32_w]
      rfl
     refine take_ (i := 11) (N := some 17) (v := ?_) (a' := ?_) #[true, true, true, true, true, true, true, true, true, true, true, true, false, false, false, false] rfl rfl (take_ofW HT_.out HW_.out (by kernel_rfl)) (fun _ _ _ h => h) (Or.inl ⟨by rfl, ?_⟩) hHeld ?_ ?_
     rotate_left
     ·rintro w' ⟨s0, s1, s2, s3, s4, s5, s6, s7, s8, s9⟩
      go_simp
      with_reducible rfl
     rotate_left
     ·simp only [Act.put, List.setIfInBounds_toArray, List.set_cons_zero, List.set_cons_succ, i64_w, i32_w]
      rfl
     refine pure_ (i := 12) (N := some 18) (v := ?_) (a' := ?_) #[true, true, true, true, true, true, true, true, true, true, true, true, true, false, false, false] rfl rfl (any_of HT_.out (by kernel_rfl)) (fun _ _ _ h => h) (Or.inl ⟨by rfl, ?_⟩) ?_ ?_
     rotate_left
     ·intro w'
      go_simp
      with_reducible rfl
     rotate_left
     ·simp only [Act.put, List.setIfInBounds_toArray, List.set_cons_zero, List.set_cons_succ, i64_w, i32_w]
      rfl
     refine last_ (i := 13) (N := none) #[true, true, true, true, true, true, true, true, true, true, true, true, true, true, false, false] rfl rfl (one_of HT_.out (by kernel_rfl)) (by decide) (fun K hK => ?_)
     refine skip_ (w1 := ?_) (by rfl) rfl ?_ ?_
     rotate_left
     ·go_simp
      rfl
     refine hK.out _ _ ?_
     clear hK K
     obtain ⟨wS, hwS⟩ : ∃ wS : World, wS = (((((w10).setCell ⟨go8, a1.toNat * 5, none⟩ (.int .i64 ((rd_T25 l0 a2).f0))).setCell ⟨go8, a1.toNat * 5 + 1, none⟩ (.int .i64 ((rd_T25 l0 a2).f1.f0))).setCell ⟨go8, a1.toNat * 5 + 2, none⟩ (.int .i64 ((rd_T25 l0 a2).f1.f1))).setCell ⟨go8, a1.toNat * 5 + 3, none⟩ (.int .i64 ((rd_T25 l0 a2).f1.f2))).setCell ⟨go8, a1.toNat * 5 + 4, none⟩ (.int .i64 ((rd_T25 l0 a2).f1.f3)) := ⟨_, rfl⟩
     have gx_0 : wS.cell? ⟨go8, a2.toNat * 5, none⟩ = some (.int .i64 ((rd_T25 y145 a2).f0)) := by rw [hwS]; exact hx9_0
     have gf_0 : wS.frozen? ⟨go8, a2.toNat * 5, none⟩ = false := by rw [hwS]; exact hf9_0
     have gx_1 : wS.cell? ⟨go8, a2.toNat * 5 + 1, none⟩ = some (.int .i64 ((rd_T25 y145 a2).f1.f0)) := by rw [hwS]; exact hx9_1
     have gf_1 : wS.frozen? ⟨go8, a2.toNat * 5 + 1, none⟩ = false := by rw [hwS]; exact hf9_1
     have gx_2 : wS.cell? ⟨go8, a2.toNat * 5 + 2, none⟩ = some (.int .i64 ((rd_T25 y145 a2).f1.f1)) := by rw [hwS]; exact hx9_2
     have gf_2 : wS.frozen? ⟨go8, a2.toNat * 5 + 2, none⟩ = false := by rw [hwS]; exact hf9_2
     have gx_3 : wS.cell? ⟨go8, a2.toNat * 5 + 3, none⟩ = some (.int .i64 ((rd_T25 y145 a2).f1.f2)) := by rw [hwS]; exact hx9_3
     have gf_3 : wS.frozen? ⟨go8, a2.toNat * 5 + 3, none⟩ = false := by rw [hwS]; exact hf9_3
     have gx_4 : wS.cell? ⟨go8, a2.toNat * 5 + 4, none⟩ = some (.int .i64 ((rd_T25 y145 a2).f1.f3)) := by rw [hwS]; exact hx9_4
     have gf_4 : wS.frozen? ⟨go8, a2.toNat * 5 + 4, none⟩ = false := by rw [hwS]; exact hf9_4
     clear hx9_0 hf9_0 hx9_1 hf9_1 hx9_2 hf9_2 hx9_3 hf9_3 hx9_4 hf9_4
     rw [← hwS]
     have HWS := Aside0.mk hwS
     clear hwS
     refine pure_ (i := 14) (N := some 19) (v := ?_) (a' := ?_) #[true, true, true, true, true, true, true, true, true, true, true, true, true, true, true, false] rfl rfl (any_of HT_.out (by kernel_rfl)) (fun _ _ _ h => h) (Or.inl ⟨by rfl, ?_⟩) ?_ ?_
     rotate_left
     ·intro w'
      go_simp
      with_reducible rfl
     rotate_left
     ·simp only [Act.put, List.setIfInBounds_toArray, List.set_cons_zero, List.set_cons_succ, i64_w, i32_w]
      rfl
     refine last_ (i := 15) (N := none) #[true, true, true, true, true, true, true, true, true, true, true, true, true, true, true, true] rfl rfl (one_of HT_.out (by kernel_rfl)) (by decide) (fun K hK => ?_)
     refine skip_ (w1 := ?_) (by rfl) rfl ?_ ?_
     rotate_left
     ·go_simp
      rfl
     refine hK.out _ _ ?_
     clear hK K
     have hwS := HWS.out
     subst hwS
     refine done_ (done_of HT_.out (by kernel_rfl)) ?_
     try go_wp2
     first | go_end0 | ((try simp only [Exit.inBlock, Exit.then]); refine bodyPost_ret (results_none rfl _ _ _) rfl ?_)
     exact ⟨by first | rfl | (simp [errW_none, errW_some] <;> rfl) | (simp [*, errW_none, errW_some] <;> rfl), by (with_reducible repeat (first | apply Kd.R_alloc | apply Kd.R_drewN | apply Kd.R_drew)); exact HQ13.out, by repeat (first | (with_reducible first | exact HB.out | apply below_alloc | apply pw_below_drewN | apply below_drew1 | refine below_set ?_ GB8.out | refine below_set ?_ GB8.out | refine below_set ?_ GB8.out | refine below_set ?_ GB8.out | refine below_set ?_ GB8.out | refine below_set ?_ GB8.out | refine below_set ?_ GB8.out | refine below_set ?_ GB8.out | refine below_set ?_ GB8.out | refine below_set ?_ GB8.out) | exact HB.out), by repeat (first | (with_reducible first | exact HK.out | apply Kept.alloc | apply Kept.drewN | apply Kept.drew | refine Kept.setCell ?_ HMgo8.out _ | refine Kept.setCell ?_ HMgo8.out _ | refine Kept.setCell ?_ HMgo8.out _ | refine Kept.setCell ?_ HMgo8.out _ | refine Kept.setCell ?_ HMgo8.out _ | refine Kept.setCell ?_ HMgo8.out _ | refine Kept.setCell ?_ HMgo8.out _ | refine Kept.setCell ?_ HMgo8.out _ | refine Kept.setCell ?_ HMgo8.out _ | refine Kept.setCell ?_ HMgo8.out _) | exact HK.out)⟩
    ·rw [if_neg c7] at H
     exact absurd H (by simp)
   ·rw [if_neg c6] at H
    exact absurd H (by simp)
  ·rw [if_neg c5] at H
   exact absurd H (by simp)
 ·rw [if_neg c4] at H
  exact absurd H (by simp)
end Go.Proofs.Ytjadcjkjpkkmkaa.PSc
/- container/heap over the queue of places: walks by hand. -/
set_option linter.unnecessarySimpa false
set_option linter.unusedSimpArgs false
set_option linter.unusedVariables false
namespace Go.Proofs.Ytjadcjkjpkkmkaa.Hand
open Go.RowKit Go.Proofs.YtjadcjkjpkkmkaaW.PrintWords Go.Proofs.YtjadcjkjpkkmkaaW.PrintLast Go.Proofs.YtjadcjkjpkkmkaaW.PrintMore Go.Proofs.Ytjadcjkjpkkmkaa.HWords Go.Proofs.Ytjadcjkjpkkmkaa.PSc
attribute [local go_sem] max2_int min2_int max_two min_two
theorem load_one (q : Nat) (v : Value) (w : World) (hc : w.cell? ⟨q, 0, none⟩ = some v) : (loadVar 67 ⟨q, 0, none⟩).run Try.prog w = .ok v w := by
 go_simp
theorem chk (a : Addr) (s : String) (w : World) : (Builtin.ssaWrapNilChk_ #[69] 69 #[.pointer (some a), strVal "", strVal s]).run Try.prog w = .ok (.pointer (some a)) w := rfl
theorem recv (q : Nat) (s : String) (v : Value) (w : World) (hc : w.cell? ⟨q, 0, none⟩ = some v) : (receiverAt 69 (Place.val (.pointer (some ⟨q, 0, none⟩))) false (some s)).run Try.prog w = .ok v w := by
 have hl := load_one q v w hc
 have hu : Try.prog.underlying 69 = some (.pointer 67) := by kernel_rfl
 unfold receiverAt
 rw [Sem.run_bind, run_underlying hu w]
 simp only [Result.andThen, Place.get, Sem.run_bind, Sem.run_pure]
 rw [chk]
 simp only [Result.andThen, asAddr, Sem.run_pure]
 exact hl
theorem follow0 (t : TypeId) (x : Place) (w : World) : (follow [] t x).run Try.prog w = .ok (t, x) w := rfl
theorem m_any (n q f sg : Nat) (nm : String) (v : Value) (w : World) (hf : Array.find? (fun x => x.name == nm) Try.t69.methods = some ⟨nm, sg, #[], some (f, false)⟩) (hc : w.cell? ⟨q, 0, none⟩ = some v) :
  (method (n + 1) 69 (.pointer (some ⟨q, 0, none⟩)) nm).run Try.prog w = .ok (f, v) w := by
 have hi : Try.prog.info? 69 = some Try.t69 := by kernel_rfl
 have ht : (typeInfo 69).run Try.prog w = .ok Try.t69 w := by simp [typeInfo, Sem.run_bind, hi]
 unfold method
 rw [Sem.run_bind, ht]
 simp only [Result.andThen]
 rw [hf]
 simp only [Sem.run_bind, follow0, Result.andThen, Sem.run_pure, recv q _ v w hc]
 simp only [Array.isEmpty_empty, if_true, recv q _ v w hc, Result.andThen]
 trace_state
theorem m_len (n q : Nat) (v : Value) (w : World) (hc : w.cell? ⟨q, 0, none⟩ = some v) : (method (n + 1) 69 (.pointer (some ⟨q, 0, none⟩)) "Len").run Try.prog w = .ok (31, v) w :=
 m_any n q 31 70 "Len" v w (by kernel_rfl) hc
theorem m_less (n q : Nat) (v : Value) (w : World) (hc : w.cell? ⟨q, 0, none⟩ = some v) : (method (n + 1) 69 (.pointer (some ⟨q, 0, none⟩)) "Less").run Try.prog w = .ok (111, v) w :=
 m_any n q 111 114 "Less" v w (by kernel_rfl) hc
theorem m_swap (n q : Nat) (v : Value) (w : World) (hc : w.cell? ⟨q, 0, none⟩ = some v) : (method (n + 1) 69 (.pointer (some ⟨q, 0, none⟩)) "Swap").run Try.prog w = .ok (112, v) w :=
 m_any n q 112 104 "Swap" v w (by kernel_rfl) hc
theorem m_pop (n q : Nat) (w : World) : (method (n + 1) 69 (.pointer (some ⟨q, 0, none⟩)) "Pop").run Try.prog w = .ok (113, .pointer (some ⟨q, 0, none⟩)) w := by
 have hi : Try.prog.info? 69 = some Try.t69 := by kernel_rfl
 have ht : (typeInfo 69).run Try.prog w = .ok Try.t69 w := by simp [typeInfo, Sem.run_bind, hi]
 have hf : Array.find? (fun x => x.name == "Pop") Try.t69.methods = some ⟨"Pop", 105, #[], some (113, true)⟩ := by kernel_rfl
 have hu : Try.prog.underlying 69 = some (.pointer 67) := by kernel_rfl
 have hr : ∀ s, (receiverAt 69 (Place.val (.pointer (some ⟨q, 0, none⟩))) true s).run Try.prog w = .ok (.pointer (some ⟨q, 0, none⟩)) w := by
  intro s
  unfold receiverAt
  rw [Sem.run_bind, run_underlying hu w]
  rfl
 unfold method
 rw [Sem.run_bind, ht]
 simp only [Result.andThen]
 rw [hf]
 simp only [Sem.run_bind, follow0, Result.andThen, Sem.run_pure, hr]
end Go.Proofs.Ytjadcjkjpkkmkaa.Hand

/- container/heap over the queue of places: down. -/
set_option linter.unnecessarySimpa false
set_option linter.unusedSimpArgs false
set_option linter.unusedVariables false
namespace Go.Proofs.Ytjadcjkjpkkmkaa.Hand
open Go.RowKit Go.Proofs.YtjadcjkjpkkmkaaW.PrintWords Go.Proofs.YtjadcjkjpkkmkaaW.PrintLast Go.Proofs.YtjadcjkjpkkmkaaW.PrintMore Go.Proofs.Ytjadcjkjpkkmkaa.HWords Go.Proofs.Ytjadcjkjpkkmkaa.PSc
attribute [local go_sem] max2_int min2_int max_two min_two
/-- The queue's variable stands in block q; its row holds these places. -/
def HQ (w : World) (B q : Nat) (A : Option Addr) (L c : Nat) (xs : List S25) : Prop :=
 w.heap[q]? = some (.cells #[.slice A L c] 67 (0, 0)) ∧ Kd.R k25 25 w B (fun k => k ≠ q) (.slice A L c) xs ∧ B ≤ q ∧ xs.length = L
section
variable {w w1 : World} {B q : Nat} {A : Option Addr} {L c : Nat} {xs : List S25}
theorem HQ.cell (h : HQ w B q A L c xs) : w.cell? ⟨q, 0, none⟩ = some (.slice A L c) := by simp [World.cell?, h.1]
theorem HQ.lt (h : HQ w B q A L c xs) : q < w.heap.size := by
 rcases Nat.lt_or_ge q w.heap.size with h' | h'
 ·exact h'
 ·have := h.1; rw [Array.getElem?_eq_none h'] at this; cases this
theorem HQ.below (h : HQ w B q A L c xs) (hb : Below w.heap.size w w1) : HQ w1 B q A L c xs :=
 ⟨by rw [hb.block q h.lt]; exact h.1, Kd.R_below h.2.1 hb, h.2.2.1, h.2.2.2⟩
/-- The greater number first; of these the last one. -/
def lessB (a b : S25) : Bool := if a.f1.f0 ≠ b.f1.f0 then decide (a.f1.f0 > b.f1.f0) else decide (a.f0 > b.f0)
def swapL (xs : List S25) (i j : Nat) : List S25 := (xs.set i (rd_T25 xs j)).set j (rd_T25 xs i)
theorem swapL_length (xs : List S25) (i j : Nat) : (swapL xs i j).length = xs.length := by simp [swapL]
theorem Less_eq (xs : List S25) (i j : Nat) (hi : i < xs.length) (hj : j < xs.length) : choose_queue_Less.f xs (i : Int) (j : Int) = some (lessB (rd_T25 xs i) (rd_T25 xs j)) := by
 unfold choose_queue_Less.f lessB
 simp [show ((i : Int) < (xs.length : Int)) by omega, show ((j : Int) < (xs.length : Int)) by omega]
 try (split <;> rfl)
theorem Swap_eq (xs : List S25) (i j : Nat) (hi : i < xs.length) (hj : j < xs.length) : choose_queue_Swap.f xs (i : Int) (j : Int) = some (swapL xs i j) := by
 unfold choose_queue_Swap.f swapL
 simp [show ((i : Int) < (xs.length : Int)) by omega, show ((j : Int) < (xs.length : Int)) by omega]
theorem less_call (h : HQ w B q A L c xs) (i j : Nat) (hi : i < L) (hj : j < L) : Calls Try.prog 111 #[.slice A L c, .int .i64 (i : Int), .int .i64 (j : Int)] w fun e w' => e = .returned (.bool (lessB (rd_T25 xs i) (rd_T25 xs j))) ∧ Below w.heap.size w w' := by
 obtain ⟨_, hr, _, rfl⟩ := h
 obtain ⟨_, hc, hC⟩ := Kd.R_reads' hr
 exact choose_queue_Less.calls A c xs i j _ w hC hc (Less_eq xs i j hi hj)
theorem swap_call {w0 : World} (hB : Below w0.heap.size w0 w) (h : HQ w w0.heap.size q A L c xs) (i j : Nat) (hi : i < L) (hj : j < L) :
  Calls Try.prog 112 #[.slice A L c, .int .i64 (i : Int), .int .i64 (j : Int)] w fun e w' => e = .returned (.tuple #[]) ∧ HQ w' w0.heap.size q A L c (swapL xs i j) ∧ Below w0.heap.size w0 w' := by
 have hlt := h.lt
 obtain ⟨hq, hr, hb, rfl⟩ := h
 refine (choose_queue_Swap.calls (fun k => k ≠ q) (.slice A xs.length c) xs i j (swapL xs i j) w0 w hB hr (Swap_eq xs i j hi hj)).mono ?_
 rintro e w' ⟨rfl, hr', hB', hk⟩
 refine ⟨rfl, ⟨by rw [hk.2 q hlt (by simp)]; exact hq, Kd.R_mono hr' (fun k hk => ?_), hb, swapL_length xs i j⟩, hB'⟩
 rcases hk with h1 | h1
 ·exact h1
 ·omega
end
/-- heap.down, told by lists. -/
def dn : Nat → List S25 → Nat → Nat → Option (List S25)
 | 0, _, _, _ => none
 | k + 1, xs, i, n =>
  if 2 * i + 1 < n then
   if 2 * i + 2 < n then
    if lessB (rd_T25 xs (2 * i + 2 : Nat)) (rd_T25 xs (2 * i + 1 : Nat)) = true then
     (if lessB (rd_T25 xs (2 * i + 2 : Nat)) (rd_T25 xs i) = true then dn k (swapL xs i (2 * i + 2)) (2 * i + 2) n else some xs)
    else (if lessB (rd_T25 xs (2 * i + 1 : Nat)) (rd_T25 xs i) = true then dn k (swapL xs i (2 * i + 1)) (2 * i + 1) n else some xs)
   else (if lessB (rd_T25 xs (2 * i + 1 : Nat)) (rd_T25 xs i) = true then dn k (swapL xs i (2 * i + 1)) (2 * i + 1) n else some xs)
  else some xs
def RetBool (e : Ending) : Prop := ∃ b, e = .returned (.bool b)
set_option maxHeartbeats 4000000 in
set_option maxRecDepth 100000 in
theorem down_calls (k : Nat) (xs ys : List S25) (i n q : Nat) (A : Option Addr) (L c : Nat) (w0 w : World) (hB : Below w0.heap.size w0 w) (hQ : HQ w w0.heap.size q A L c xs) (hn : n ≤ L) (hl : L ≤ 1000) (hi : i ≤ 1000) (h : dn k xs i n = some ys) :
  Calls Try.prog 64 #[.iface 69 (.pointer (some ⟨q, 0, none⟩)), .int .i64 (i : Int), .int .i64 (n : Int)] w fun e w' => RetBool e ∧ HQ w' w0.heap.size q A L c ys ∧ Below w0.heap.size w0 w' := by
 have hmL : ∀ w' : World, w'.cell? ⟨q, 0, none⟩ = some (.slice A L c) → (method 234 69 (.pointer (some ⟨q, 0, none⟩)) "Less").run Try.prog w' = .ok (111, .slice A L c) w' := fun w' h => m_less 233 q _ w' h
 have hmS : ∀ w' : World, w'.cell? ⟨q, 0, none⟩ = some (.slice A L c) → (method 234 69 (.pointer (some ⟨q, 0, none⟩)) "Swap").run Try.prog w' = .ok (112, .slice A L c) w' := fun w' h => m_swap 233 q _ w' h
 have H := Aside0.mk h
 clear h
 have HQ0 := Aside0.mk hQ
 have HB0 := Aside0.mk hB
 clear hQ hB
 go_enter Try.func64, Try.ntmps64
 go_wp2
 go_loopg [7] k (fun kq v7 w' => ∃ (i1 : Nat) (xs1 : List S25), v7 = .int .i64 (i1 : Int) ∧ Aside0 (dn kq xs1 i1 n = some ys) ∧ Aside0 (kq ≤ k) ∧ Aside0 (i1 ≤ 1000) ∧ Aside0 (HQ w' w0.heap.size q A L c xs1) ∧ Aside0 (Below w0.heap.size w0 w'))
 case atStart => exact ⟨i, xs, rfl, H, ⟨Nat.le_refl _⟩, ⟨hi⟩, HQ0, HB0⟩
 case round =>
  obtain ⟨i1, xs1, rfl, H1, HK, HI, HQ1, HB1⟩ := hrel
  cases gk with
  | zero => exact absurd H1.out (by simp [dn])
  | succ k1 =>
   have h1 := H1.out
   have hi1 := HI.out
   have hcell := HQ1.out.cell
   clear H1 HI H HQ0 HB0
   rw [dn] at h1
   by_cases c1 : 2 * i1 + 1 < n
   ·rw [if_pos c1] at h1
    have e1 : IntKind.i64.wrap (2 * (i1 : Int)) = 2 * (i1 : Int) := IntWalk.i64_in _ (by omega)
    obtain ⟨j1, hj1⟩ : ∃ j1 : Nat, 2 * i1 + 1 = j1 := ⟨_, rfl⟩
    obtain ⟨j2, hj2⟩ : ∃ j2 : Nat, 2 * i1 + 2 = j2 := ⟨_, rfl⟩
    rw [hj1, hj2] at h1
    have e2 : IntKind.i64.wrap (2 * (i1 : Int) + 1) = (j1 : Int) := by rw [IntWalk.i64_in _ (by omega)]; omega
    have e3 : ((n : Int) ≤ (j1 : Int)) = False := eq_false (by omega)
    have e4 : ((j1 : Int) < 0) = False := eq_false (by omega)
    have e5 : IntKind.i64.wrap ((j1 : Int) + 1) = (j2 : Int) := by rw [IntWalk.i64_in _ (by omega)]; omega
    by_cases c2 : j2 < n
    ·rw [if_pos c2] at h1
     have e6 : ((j2 : Int) < (n : Int)) = True := eq_true (by omega)
     by_cases c4 : lessB (rd_T25 xs1 (j2 : Nat)) (rd_T25 xs1 (j1 : Nat)) = true
     ·rw [if_pos c4] at h1
      go_wp2_with (go_at_call 111; (with_reducible refine (less_call HQ1.out j2 j1 (by omega) (by omega)).mono ?_); rintro e w2 ⟨rfl, hb2⟩; have HQ2 := Aside0.mk (HQ1.out.below hb2); have HB2 := Aside0.mk (below_step HB1.out hb2); have hcell2 := HQ2.out.cell; have hc4 := c4; clear hb2)
      by_cases c3 : lessB (rd_T25 xs1 (j2 : Nat)) (rd_T25 xs1 i1) = true
      ·rw [if_pos c3] at h1
       go_wp2_with (go_at_call 111; (with_reducible refine (less_call HQ2.out j2 i1 (by omega) (by omega)).mono ?_); rintro e w3 ⟨rfl, hb3⟩; have HQ3 := Aside0.mk (HQ2.out.below hb3); have HB3 := Aside0.mk (below_step HB2.out hb3); have hcell3 := HQ3.out.cell; have hc3 := c3; clear hb3)
       go_wp2_with (go_at_call 112; (with_reducible refine (swap_call HB3.out HQ3.out i1 j2 (by omega) (by omega)).mono ?_); rintro e w4 ⟨rfl, hq4, hb4⟩; have HQ4 := Aside0.mk hq4; have HB4 := Aside0.mk hb4; clear hq4 hb4)
       go_roundg k1
       case measure => have := HK.out; omega
       case rel => exact ⟨j2, _, rfl, ⟨h1⟩, ⟨by have := HK.out; omega⟩, ⟨by omega⟩, HQ4, HB4⟩
      ·rw [if_neg c3] at h1
       obtain rfl := Option.some.inj h1
       have c3f : lessB (rd_T25 xs1 (j2 : Nat)) (rd_T25 xs1 i1) = false := Bool.eq_false_iff.mpr c3
       go_wp2_with (go_at_call 111; (with_reducible refine (less_call HQ2.out j2 i1 (by omega) (by omega)).mono ?_); rintro e w3 ⟨rfl, hb3⟩; have HQ3 := Aside0.mk (HQ2.out.below hb3); have HB3 := Aside0.mk (below_step HB2.out hb3); have hc3 := c3f; clear hb3)
       go_ret
       exact ⟨⟨_, rfl⟩, HQ3.out, HB3.out⟩
     ·rw [if_neg c4] at h1
      have c4f : lessB (rd_T25 xs1 (j2 : Nat)) (rd_T25 xs1 (j1 : Nat)) = false := Bool.eq_false_iff.mpr c4
      go_wp2_with (go_at_call 111; (with_reducible refine (less_call HQ1.out j2 j1 (by omega) (by omega)).mono ?_); rintro e w2 ⟨rfl, hb2⟩; have HQ2 := Aside0.mk (HQ1.out.below hb2); have HB2 := Aside0.mk (below_step HB1.out hb2); have hcell2 := HQ2.out.cell; have hc4 := c4f; clear hb2)
      by_cases c3 : lessB (rd_T25 xs1 (j1 : Nat)) (rd_T25 xs1 i1) = true
      ·rw [if_pos c3] at h1
       go_wp2_with (go_at_call 111; (with_reducible refine (less_call HQ2.out j1 i1 (by omega) (by omega)).mono ?_); rintro e w3 ⟨rfl, hb3⟩; have HQ3 := Aside0.mk (HQ2.out.below hb3); have HB3 := Aside0.mk (below_step HB2.out hb3); have hcell3 := HQ3.out.cell; have hc3 := c3; clear hb3)
       go_wp2_with (go_at_call 112; (with_reducible refine (swap_call HB3.out HQ3.out i1 j1 (by omega) (by omega)).mono ?_); rintro e w4 ⟨rfl, hq4, hb4⟩; have HQ4 := Aside0.mk hq4; have HB4 := Aside0.mk hb4; clear hq4 hb4)
       go_roundg k1
       case measure => have := HK.out; omega
       case rel => exact ⟨j1, _, rfl, ⟨h1⟩, ⟨by have := HK.out; omega⟩, ⟨by omega⟩, HQ4, HB4⟩
      ·rw [if_neg c3] at h1
       obtain rfl := Option.some.inj h1
       have c3f : lessB (rd_T25 xs1 (j1 : Nat)) (rd_T25 xs1 i1) = false := Bool.eq_false_iff.mpr c3
       go_wp2_with (go_at_call 111; (with_reducible refine (less_call HQ2.out j1 i1 (by omega) (by omega)).mono ?_); rintro e w3 ⟨rfl, hb3⟩; have HQ3 := Aside0.mk (HQ2.out.below hb3); have HB3 := Aside0.mk (below_step HB2.out hb3); have hc3 := c3f; clear hb3)
       go_ret
       exact ⟨⟨_, rfl⟩, HQ3.out, HB3.out⟩
    ·rw [if_neg c2] at h1
     have e6 : ((j2 : Int) < (n : Int)) = False := eq_false (by omega)
     by_cases c3 : lessB (rd_T25 xs1 (j1 : Nat)) (rd_T25 xs1 i1) = true
     ·rw [if_pos c3] at h1
      go_wp2_with (go_at_call 111; (with_reducible refine (less_call HQ1.out j1 i1 (by omega) (by omega)).mono ?_); rintro e w3 ⟨rfl, hb3⟩; have HQ3 := Aside0.mk (HQ1.out.below hb3); have HB3 := Aside0.mk (below_step HB1.out hb3); have hcell3 := HQ3.out.cell; have hc3 := c3; clear hb3)
      go_wp2_with (go_at_call 112; (with_reducible refine (swap_call HB3.out HQ3.out i1 j1 (by omega) (by omega)).mono ?_); rintro e w4 ⟨rfl, hq4, hb4⟩; have HQ4 := Aside0.mk hq4; have HB4 := Aside0.mk hb4; clear hq4 hb4)
      go_roundg k1
      case measure => have := HK.out; omega
      case rel => exact ⟨j1, _, rfl, ⟨h1⟩, ⟨by have := HK.out; omega⟩, ⟨by omega⟩, HQ4, HB4⟩
     ·rw [if_neg c3] at h1
      obtain rfl := Option.some.inj h1
      have c3f : lessB (rd_T25 xs1 (j1 : Nat)) (rd_T25 xs1 i1) = false := Bool.eq_false_iff.mpr c3
      go_wp2_with (go_at_call 111; (with_reducible refine (less_call HQ1.out j1 i1 (by omega) (by omega)).mono ?_); rintro e w3 ⟨rfl, hb3⟩; have HQ3 := Aside0.mk (HQ1.out.below hb3); have HB3 := Aside0.mk (below_step HB1.out hb3); have hc3 := c3f; clear hb3)
      go_ret
      exact ⟨⟨_, rfl⟩, HQ3.out, HB3.out⟩
   ·rw [if_neg c1] at h1
    obtain rfl := Option.some.inj h1
    have e1 : IntKind.i64.wrap (2 * (i1 : Int)) = 2 * (i1 : Int) := IntWalk.i64_in _ (by omega)
    have e2 : IntKind.i64.wrap (2 * (i1 : Int) + 1) = 2 * (i1 : Int) + 1 := IntWalk.i64_in _ (by omega)
    have e3 : ((n : Int) ≤ 2 * (i1 : Int) + 1) = True := eq_true (by omega)
    go_wp2
    go_ret
    exact ⟨⟨_, rfl⟩, HQ1.out, HB1.out⟩
end Go.Proofs.Ytjadcjkjpkkmkaa.Hand

/- container/heap over the queue of places: Init. -/
set_option linter.unnecessarySimpa false
set_option linter.unusedSimpArgs false
set_option linter.unusedVariables false
namespace Go.Proofs.Ytjadcjkjpkkmkaa.Hand
open Go.RowKit Go.Proofs.YtjadcjkjpkkmkaaW.PrintWords Go.Proofs.YtjadcjkjpkkmkaaW.PrintLast Go.Proofs.YtjadcjkjpkkmkaaW.PrintMore Go.Proofs.Ytjadcjkjpkkmkaa.HWords Go.Proofs.Ytjadcjkjpkkmkaa.PSc
attribute [local go_sem] max2_int min2_int max_two min_two
/-- heap.Init, told by lists: m is how many are still to go down. -/
def ini (k : Nat) : Nat → List S25 → Nat → Option (List S25)
 | 0, xs, _ => some xs
 | m + 1, xs, n => (dn k xs m n).bind fun ys => ini k m ys n
set_option maxHeartbeats 4000000 in
set_option maxRecDepth 100000 in
theorem init_calls (k : Nat) (xs ys : List S25) (q : Nat) (A : Option Addr) (L c : Nat) (w0 w : World) (hB : Below w0.heap.size w0 w) (hQ : HQ w w0.heap.size q A L c xs) (hl : L ≤ 1000) (h : ini k (L / 2) xs L = some ys) :
  Calls Try.prog 30 #[.iface 69 (.pointer (some ⟨q, 0, none⟩))] w fun e w' => e = .returned (.tuple #[]) ∧ HQ w' w0.heap.size q A L c ys ∧ Below w0.heap.size w0 w' := by
 have hmN : ∀ w' : World, w'.cell? ⟨q, 0, none⟩ = some (.slice A L c) → (method 234 69 (.pointer (some ⟨q, 0, none⟩)) "Len").run Try.prog w' = .ok (31, .slice A L c) w' := fun w' h => m_len 233 q _ w' h
 have hcell := hQ.cell
 have H := Aside0.mk h
 clear h
 have HQ0 := Aside0.mk hQ
 have HB0 := Aside0.mk hB
 clear hQ hB
 have e1 : IntKind.i64.wrap ((L : Int) / 2) = (L : Int) / 2 := IntWalk.i64_in _ (by omega)
 have e2 : IntKind.i64.wrap ((L : Int) / 2 - 1) = ((L / 2 : Nat) : Int) - 1 := by rw [IntWalk.i64_in _ (by omega)]; omega
 go_enter Try.func30, Try.ntmps30
 go_wp2
 go_loopg [3] (L / 2) (fun kq v3 w' => ∃ (xs1 : List S25), v3 = .int .i64 ((kq : Int) - 1) ∧ Aside0 (ini k kq xs1 L = some ys) ∧ Aside0 (kq ≤ L / 2) ∧ Aside0 (HQ w' w0.heap.size q A L c xs1) ∧ Aside0 (Below w0.heap.size w0 w'))
 case atStart => exact ⟨xs, rfl, H, ⟨Nat.le_refl _⟩, HQ0, HB0⟩
 case round =>
  obtain ⟨xs1, rfl, H1, HK, HQ1, HB1⟩ := hrel
  have hK := HK.out
  cases gk with
  | zero =>
   have h1 := H1.out
   obtain rfl := Option.some.inj h1
   clear H1 H HQ0 HB0
   have e4 : ((0 : Int) ≤ ((0 : Nat) : Int) - 1) = False := eq_false (by omega)
   go_wp2
   first | go_end0 | ((try simp only [Exit.inBlock, Exit.then]); refine bodyPost_ret (results_none rfl _ _ _) rfl ?_)
   exact ⟨rfl, HQ1.out, HB1.out⟩
  | succ m =>
   have h1 := H1.out
   rw [ini, Option.bind_eq_some_iff] at h1
   obtain ⟨zs, hd, h1⟩ := h1
   clear H1 H HQ0 HB0
   have e3 : (((m + 1 : Nat) : Int) - 1) = (m : Int) := by omega
   rw [e3]
   have e4 : IntKind.i64.wrap ((m : Int) - 1) = (m : Int) - 1 := IntWalk.i64_in _ (by omega)
   go_wp2_with (go_at_call 64; (with_reducible refine (down_calls k xs1 zs m L q A L c w0 _ HB1.out HQ1.out (Nat.le_refl _) hl (by omega) hd).mono ?_); rintro e w3 ⟨⟨b, rfl⟩, hq3, hb3⟩; have HQ3 := Aside0.mk hq3; have HB3 := Aside0.mk hb3; clear hq3 hb3)
   go_roundg m
   case measure => omega
   case rel => exact ⟨zs, rfl, ⟨h1⟩, ⟨by omega⟩, HQ3, HB3⟩
end Go.Proofs.Ytjadcjkjpkkmkaa.Hand

/- container/heap over the queue of places: Pop. -/
set_option linter.unnecessarySimpa false
set_option linter.unusedSimpArgs false
set_option linter.unusedVariables false
namespace Go.Proofs.Ytjadcjkjpkkmkaa.Hand
open Go.RowKit Go.Proofs.YtjadcjkjpkkmkaaW.PrintWords Go.Proofs.YtjadcjkjpkkmkaaW.PrintLast Go.Proofs.YtjadcjkjpkkmkaaW.PrintMore Go.Proofs.Ytjadcjkjpkkmkaa.HWords Go.Proofs.Ytjadcjkjpkkmkaa.PSc
attribute [local go_sem] max2_int min2_int max_two min_two
theorem HQ.frozen {w : World} {B q : Nat} {A : Option Addr} {L c : Nat} {xs : List S25} (h : HQ w B q A L c xs) : w.frozen? ⟨q, 0, none⟩ = false := by simp [World.frozen?, h.1]
theorem HQ.set {w : World} {B q : Nat} {A : Option Addr} {n m c : Nat} {xs : List S25} (h : HQ w B q A n c xs) (hm : m ≤ n) : HQ (w.setCell ⟨q, 0, none⟩ (.slice A m c)) B q A m c (xs.take m) := by
 obtain ⟨h1, h2, h3, h4⟩ := h
 refine ⟨?_, Kd.R_take (Kd.R_far h2 (p := ⟨q, 0, none⟩) (fun k hk => hk) _) (by omega), h3, by rw [List.length_take]; omega⟩
 have := Go.Joins.block_setCell h1 (i := 0) (.slice A m c)
 exact this
/-- A place, as a value. -/
def vP (x : S25) : Value := .agg #[.int .i64 x.f0, .int .i64 x.f1.f0, .int .i64 x.f1.f1, .int .i64 x.f1.f2, .int .i64 x.f1.f3]
set_option maxHeartbeats 4000000 in
set_option maxRecDepth 100000 in
theorem qpop_calls (xs : List S25) (q : Nat) (A : Option Addr) (n m c : Nat) (hnm : n = m + 1) (w0 w : World) (hB : Below w0.heap.size w0 w) (hQ : HQ w w0.heap.size q A n c xs) (hl : m ≤ 1000) :
  Calls Try.prog 113 #[.pointer (some ⟨q, 0, none⟩)] w fun e w' => e = .returned (.iface 25 (vP (rd_T25 xs m))) ∧ HQ w' w0.heap.size q A m c (xs.take m) ∧ Below w0.heap.size w0 w' := by
 have hcell := hQ.cell
 have hlen := hQ.2.2.2
 have hrd := Kd.R_reads' hQ.2.1
 obtain ⟨ad, e143, hx0, hx1, hx2, hx3, hx4⟩ := at_T25 hrd.2.2 (m : Int) (by omega) (by omega)
 cases e143
 have e1 : IntKind.i64.wrap ((n : Int) - 1) = (m : Int) := by rw [IntWalk.i64_in _ (by omega)]; omega
 have HQ0 := Aside0.mk hQ
 have HB0 := Aside0.mk hB
 clear hB
 obtain ⟨g, cap, eo, hg1, hg2, cells, hgc⟩ := Kd.R_form hQ.2.1 (by omega)
 injection eo with ea en ec
 injection ea with ea
 subst ea
 subst ec
 (first | simp only [add_plain] at hx0 | skip)
 (first | simp only [add_plain] at hx1 | skip)
 (first | simp only [add_plain] at hx2 | skip)
 (first | simp only [add_plain] at hx3 | skip)
 (first | simp only [add_plain] at hx4 | skip)
 simp only [Int.toNat_natCast] at hx0 hx1 hx2 hx3 hx4
 have HC1 := Aside0.mk hrd.2.1
 have HN := Aside0.mk hnm
 have HL := Aside0.mk hlen
 have HG1 := Aside0.mk hg1
 have HG2 := Aside0.mk hg2
 have hfq : w.frozen? ⟨q, 0, none⟩ = false := by simp [World.frozen?, hQ.1]
 have e2 : ((m : Int) < (n : Int)) = True := eq_true (by omega)
 have e3 : ((m : Int) ≤ (n : Int)) = True := eq_true (by omega)
 have e4 : ((m : Int) ≤ (c : Int)) = True := eq_true (by have := hrd.2.1; omega)
 have e5 : (m ≤ c) = True := eq_true (by have := hrd.2.1; omega)
 have hqg : q ≠ g := by
  intro hh; subst hh
  have h1 := hQ.1
  rw [hgc] at h1
  injection h1 with h1
  injection h1 with _ h2
  exact absurd h2 (by decide)
 have hcA : ∀ o, (w.alloc o).cell? ⟨q, 0, none⟩ = some (.slice (some ⟨g, 0, none⟩) n c) := fun o => (hQ.below ((Below.refl _ _).alloc (Nat.le_refl _) o)).cell
 have hfA : ∀ o, (w.alloc o).frozen? ⟨q, 0, none⟩ = false := fun o => (hQ.below ((Below.refl _ _).alloc (Nat.le_refl _) o)).frozen
 have hqlt := hQ.lt
 have hcS : ∀ o u j, ((w.alloc o).setCell ⟨q, 0, none⟩ u).cell? ⟨w.heap.size, j, none⟩ = (w.alloc o).cell? ⟨w.heap.size, j, none⟩ := fun o u j => by
  have := Below.heap_setCell (w.alloc o) ⟨q, 0, none⟩ u w.heap.size (by show w.heap.size ≠ q; omega)
  simp only [World.cell?, this]
 have HLT := Aside0.mk hqlt
 clear hqlt
 clear en hlen hnm hrd hgc hg1 hg2 hQ
 go_enter Try.func113, Try.ntmps113
 go_wp2
 go_ret
 exact ⟨rfl, (HQ0.out.below ((Below.refl _ _).alloc (Nat.le_refl _) _)).set (by have := HN.out; omega), below_set (below_step HB0.out ((Below.refl _ _).alloc (Nat.le_refl _) _)) HQ0.out.2.2.1⟩
theorem swap_call0 {w w0 : World} {q : Nat} {A : Option Addr} {L c : Nat} {xs : List S25} (hB : Below w0.heap.size w0 w) (h : HQ w w0.heap.size q A L c xs) (j : Nat) (hi : 0 < L) (hj : j < L) :
  Calls Try.prog 112 #[.slice A L c, .int .i64 0, .int .i64 (j : Int)] w fun e w' => e = .returned (.tuple #[]) ∧ HQ w' w0.heap.size q A L c (swapL xs 0 j) ∧ Below w0.heap.size w0 w' := swap_call hB h 0 j hi hj
theorem down_calls0 (k : Nat) (xs ys : List S25) (n q : Nat) (A : Option Addr) (L c : Nat) (w0 w : World) (hB : Below w0.heap.size w0 w) (hQ : HQ w w0.heap.size q A L c xs) (hn : n ≤ L) (hl : L ≤ 1000) (h : dn k xs 0 n = some ys) :
  Calls Try.prog 64 #[.iface 69 (.pointer (some ⟨q, 0, none⟩)), .int .i64 0, .int .i64 (n : Int)] w fun e w' => RetBool e ∧ HQ w' w0.heap.size q A L c ys ∧ Below w0.heap.size w0 w' := down_calls k xs ys 0 n q A L c w0 w hB hQ hn hl (by omega) h
/-- heap.Pop, told by lists. -/
def popF (k : Nat) (xs : List S25) (m : Nat) : Option (List S25) := dn k (swapL xs 0 m) 0 m
set_option maxHeartbeats 4000000 in
set_option maxRecDepth 100000 in
theorem hpop_calls (k : Nat) (xs ys : List S25) (q : Nat) (A : Option Addr) (n m c : Nat) (hnm : n = m + 1) (w0 w : World) (hB : Below w0.heap.size w0 w) (hQ : HQ w w0.heap.size q A n c xs) (hl : m ≤ 999) (h : popF k xs m = some ys) :
  Calls Try.prog 32 #[.iface 69 (.pointer (some ⟨q, 0, none⟩))] w fun e w' => e = .returned (.iface 25 (vP (rd_T25 ys m))) ∧ HQ w' w0.heap.size q A m c (ys.take m) ∧ Below w0.heap.size w0 w' := by
 have hmN : ∀ w' : World, w'.cell? ⟨q, 0, none⟩ = some (.slice A n c) → (method 234 69 (.pointer (some ⟨q, 0, none⟩)) "Len").run Try.prog w' = .ok (31, .slice A n c) w' := fun w' h => m_len 233 q _ w' h
 have hmS : ∀ w' : World, w'.cell? ⟨q, 0, none⟩ = some (.slice A n c) → (method 234 69 (.pointer (some ⟨q, 0, none⟩)) "Swap").run Try.prog w' = .ok (112, .slice A n c) w' := fun w' h => m_swap 233 q _ w' h
 have hmP : ∀ w' : World, (method 234 69 (.pointer (some ⟨q, 0, none⟩)) "Pop").run Try.prog w' = .ok (113, .pointer (some ⟨q, 0, none⟩)) w' := fun w' => m_pop 233 q w'
 have hcell := hQ.cell
 have H := Aside0.mk (show dn k (swapL xs 0 m) 0 m = some ys from h)
 have HQ0 := Aside0.mk hQ
 have HB0 := Aside0.mk hB
 have HN := Aside0.mk hnm
 have e1 : IntKind.i64.wrap ((n : Int) - 1) = (m : Int) := by rw [IntWalk.i64_in _ (by omega)]; omega
 clear hQ hB h hnm
 go_enter Try.func32, Try.ntmps32
 go_wp2_with (first | (go_at_call 112; (with_reducible refine (swap_call0 HB0.out HQ0.out m (by have := HN.out; omega) (by have := HN.out; omega)).mono ?_); rintro e w2 ⟨rfl, hq2, hb2⟩; have HQ2 := Aside0.mk hq2; have HB2 := Aside0.mk hb2; clear hq2 hb2) | (go_at_call 31; go_in))
 go_wp2_with (go_at_call 64; (with_reducible refine (down_calls0 k _ ys m q A n c w0 _ HB2.out HQ2.out (by have := HN.out; omega) (by have := HN.out; omega) H.out).mono ?_); rintro e w3 ⟨⟨b, rfl⟩, hq3, hb3⟩; have HQ3 := Aside0.mk hq3; have HB3 := Aside0.mk hb3; have hcell3 := HQ3.out.cell; clear hq3 hb3)
 go_wp2_with (go_at_call 113; (with_reducible refine (qpop_calls ys q A n m c HN.out w0 _ HB3.out HQ3.out (by omega)).mono ?_); rintro e w4 ⟨rfl, hq4, hb4⟩; have HQ4 := Aside0.mk hq4; have HB4 := Aside0.mk hb4; clear hq4 hb4)
 go_ret
 exact ⟨rfl, HQ4.out, HB4.out⟩
end Go.Proofs.Ytjadcjkjpkkmkaa.Hand

/- choose.Active, told by lists. -/
set_option linter.unnecessarySimpa false
set_option linter.unusedSimpArgs false
set_option linter.unusedVariables false
namespace Go.Proofs.Ytjadcjkjpkkmkaa.Hand
open Go.RowKit Go.Proofs.YtjadcjkjpkkmkaaW.PrintWords Go.Proofs.YtjadcjkjpkkmkaaW.PrintLast Go.Proofs.YtjadcjkjpkkmkaaW.PrintMore Go.Proofs.Ytjadcjkjpkkmkaa.HWords Go.Proofs.Ytjadcjkjpkkmkaa.PSc
/-- The rounds of Active: m places are still in the queue. -/
def actL (k : Nat) (f : ByteArray) : Nat → List S25 → Option (Int × Int × Int × Int × Int × Int)
 | 0, _ => some (0, 0, 0, 0, 0, 701)
 | m + 1, xs => (popF k xs m).bind fun ys =>
  (image_Good.f f (rd_T25 ys m).f1.f0 (rd_T25 ys m).f1.f1 (rd_T25 ys m).f1.f2 (rd_T25 ys m).f1.f3).bind fun b =>
   if b.1 = true then some ((rd_T25 ys m).f0, (rd_T25 ys m).f1.f0, (rd_T25 ys m).f1.f1, (rd_T25 ys m).f1.f2, (rd_T25 ys m).f1.f3, 0) else actL k f m (ys.take m)
def choose_Active.f (k : Nat) (f : ByteArray) : Option (Int × Int × Int × Int × Int × Int) :=
 (journal_Scan.f k f).bind fun b => if b.2 = 0 then (if b.1.length ≤ 999 then (ini k (b.1.length / 2) b.1 b.1.length).bind fun xs => actL k f b.1.length xs else none) else some (0, 0, 0, 0, 0, 700)
end Go.Proofs.Ytjadcjkjpkkmkaa.Hand

/- choose.Active: the walk. -/
set_option linter.unnecessarySimpa false
set_option linter.unusedSimpArgs false
set_option linter.unusedVariables false
namespace Go.Proofs.Ytjadcjkjpkkmkaa.Hand
open Go.RowKit Go.Proofs.YtjadcjkjpkkmkaaW.PrintWords Go.Proofs.YtjadcjkjpkkmkaaW.PrintLast Go.Proofs.YtjadcjkjpkkmkaaW.PrintMore Go.Proofs.Ytjadcjkjpkkmkaa.HWords Go.Proofs.Ytjadcjkjpkkmkaa.PSc
attribute [local go_sem] max2_int min2_int max_two min_two
set_option maxHeartbeats 4000000 in
set_option maxRecDepth 100000 in
theorem choose_Active.calls (k : Nat) (a0 : ByteArray) (r1_0 r1_1 r1_2 r1_3 r1_4 r2 : Int) (w : World) (h : choose_Active.f k a0 = some (r1_0, r1_1, r1_2, r1_3, r1_4, r2)) :
  Calls Try.prog 9 #[.string a0] w fun e w' => e = .returned (.tuple #[.agg #[.int .i64 r1_0, .int .i64 r1_1, .int .i64 r1_2, .int .i64 r1_3, .int .i64 r1_4], .int .i64 r2]) ∧ Below w.heap.size w w' := by
 unfold choose_Active.f at h
 rw [Option.bind_eq_some_iff] at h
 obtain ⟨⟨xs, er⟩, hs, h⟩ := h
 have HS := Aside0.mk hs
 clear hs
 have HB := Aside0.mk (Below.refl w.heap.size w)
 by_cases c1 : er = 0
 ·subst c1
  rw [if_pos rfl] at h
  have H := Aside0.mk h
  clear h
  go_enter Try.func9, Try.ntmps9
  go_wp2_with (first | ((with_reducible refine gate_dst (N := 2) rfl ?_); refine box_event ?hg (N := 2) ?hd (cs := #[.int .i64 0, .int .i64 0, .int .i64 0, .int .i64 0, .int .i64 0]) (t := 25) ?hr ?_; (case hd => rfl); (case hg => rfl); (case hr => first | (go_simp; done) | (go_simp; rfl)); intro gr hg w1 hbox hb) | (go_at_call 29; (with_reducible refine (journal_Scan.calls k a0 xs 0 _ HS.out).mono ?_); rintro e w2 ⟨v, rfl, hR, hb2⟩; obtain ⟨A, c, rfl⟩ := Kd.R_slice hR))
  have h := H.out
  by_cases c2 : xs.length ≤ 999
  ·simp only [if_pos c2] at h
   rw [Option.bind_eq_some_iff] at h
   obtain ⟨ys, hini, hact⟩ := h
   have hq0 : HQ (w2.alloc (.cells #[.slice A xs.length c] 67)) w1.heap.size w2.heap.size A xs.length c xs :=
    ⟨by show (w2.heap.push _)[w2.heap.size]? = _; exact Array.getElem?_push_size, Kd.R_mono (Kd.R_alloc (Kd.R_bound hR) _) (fun k hk => by have := hk.2.2.1; omega), hb2.size, rfl⟩
   have hbq : Below w1.heap.size w1 (w2.alloc (.cells #[.slice A xs.length c] 67)) := hb2.alloc hb2.size _
   have HQ0 := Aside0.mk hq0
   have HB0 := Aside0.mk hbq
   have HA := Aside0.mk hact
   generalize w2.alloc (.cells #[.slice A xs.length c] 67) = w3 at HQ0 HB0 ⊢
   generalize w2.heap.size = q at HQ0 ⊢
   clear hq0 hbq hR hb2 hact H
   go_wp2_with (go_at_call 30; (with_reducible refine (init_calls k xs ys q A xs.length c w1 _ HB0.out HQ0.out (by omega) hini).mono ?_); rintro e w4 ⟨rfl, hq4, hb4⟩; have HQ4 := Aside0.mk hq4; have HB4 := Aside0.mk hb4; clear hq4 hb4)
   go_wp2
   go_loopg [7] xs.length (fun kq v7 w' => ∃ (xs1 : List S25), Aside0 (actL k a0 kq xs1 = some (r1_0, r1_1, r1_2, r1_3, r1_4, r2)) ∧ Aside0 (kq ≤ xs.length) ∧ Aside0 (HQ w' w1.heap.size q A kq c xs1) ∧ Aside0 (Below w1.heap.size w1 w'))
   case atStart => exact ⟨ys, HA, ⟨Nat.le_refl _⟩, HQ4, HB4⟩
   case round =>
    obtain ⟨xs1, H1, HK, HQ1, HB1⟩ := hrel
    have hcell := HQ1.out.cell
    have hgl : gr < w1.heap.size := by
     rcases Nat.lt_or_ge gr w1.heap.size with h' | h'
     ·exact h'
     ·rw [Array.getElem?_eq_none h'] at hbox; cases hbox
    have hbox1 := (HB1.out.block gr hgl).trans hbox
    subst hg
    have hz0 : wr.cell? ⟨w.heap.size, 0, none⟩ = some (.int .i64 0) := (blk_cell hbox1 0).trans rfl
    have hz1 : wr.cell? ⟨w.heap.size, 1, none⟩ = some (.int .i64 0) := (blk_cell hbox1 1).trans rfl
    have hz2 : wr.cell? ⟨w.heap.size, 2, none⟩ = some (.int .i64 0) := (blk_cell hbox1 2).trans rfl
    have hz3 : wr.cell? ⟨w.heap.size, 3, none⟩ = some (.int .i64 0) := (blk_cell hbox1 3).trans rfl
    have hz4 : wr.cell? ⟨w.heap.size, 4, none⟩ = some (.int .i64 0) := (blk_cell hbox1 4).trans rfl
    have hf0 := blk_frozen hbox1 0
    have hf1 := blk_frozen hbox1 1
    have hf2 := blk_frozen hbox1 2
    have hf3 := blk_frozen hbox1 3
    have hf4 := blk_frozen hbox1 4
    cases gk with
    | zero =>
     have h1 := H1.out
     simp only [actL, Option.some.injEq, Prod.mk.injEq] at h1
     obtain ⟨rfl, rfl, rfl, rfl, rfl, rfl⟩ := h1
     go_wp2
     refine bodyPost_ret (results_ct rfl _ _ w.heap.size 25 #[.int .i64 0, .int .i64 0, .int .i64 0, .int .i64 0, .int .i64 0] (0, 0) _ rfl (by refine blk_put (cs := #[.int .i64 0, .int .i64 0, .int .i64 0, .int .i64 0, .int .i64 0]) ?_ 4 _ rfl; refine blk_put (cs := #[.int .i64 0, .int .i64 0, .int .i64 0, .int .i64 0, .int .i64 0]) ?_ 3 _ rfl; refine blk_put (cs := #[.int .i64 0, .int .i64 0, .int .i64 0, .int .i64 0, .int .i64 0]) ?_ 2 _ rfl; refine blk_put (cs := #[.int .i64 0, .int .i64 0, .int .i64 0, .int .i64 0, .int .i64 0]) ?_ 1 _ rfl; refine blk_put (cs := #[.int .i64 0, .int .i64 0, .int .i64 0, .int .i64 0, .int .i64 0]) ?_ 0 _ rfl; exact hbox1) Try.underlying25 rfl (by kernel_rfl)) rfl ?_
     refine ⟨rfl, ?_⟩
     refine below_set (below_set (below_set (below_set (below_set (below_step hb HB1.out) ?_) ?_) ?_) ?_) ?_ <;> exact Nat.le_refl _
    | succ m =>
     have h1 := H1.out
     rw [actL, Option.bind_eq_some_iff] at h1
     obtain ⟨zs, hp, h1⟩ := h1
     rw [Option.bind_eq_some_iff] at h1
     obtain ⟨⟨bg, eg⟩, hgd, h1⟩ := h1
     have HKm := Aside0.mk (show m + 1 ≤ xs.length from HK.out)
     clear H1 HK hz0 hz1 hz2 hz3 hz4 hf0 hf1 hf2 hf3 hf4
     obtain ⟨n1, hn⟩ : ∃ n1, n1 = m + 1 := ⟨_, rfl⟩
     rw [← hn] at hcell HQ1
     have HN := Aside0.mk hn
     have e1 : ((0 : Int) < (n1 : Int)) = True := eq_true (by omega)
     have e2 : (0 < n1) = True := eq_true (by omega)
     clear hn
     have hta : ∀ (x : Value) (w' : World), (Instr.typeAssert (.iface 25 x) 20 25 false).run Try.prog w' = .ok x w' := fun x w' => by kernel_rfl
     go_wp2_with (first | (go_at_call 32; (with_reducible refine (hpop_calls k xs1 zs q A n1 m c HN.out w1 _ HB1.out HQ1.out (by have := HKm.out; omega) hp).mono ?_); rintro e w5 ⟨rfl, hq5, hb5⟩; have HQ5 := Aside0.mk hq5; have HB5 := Aside0.mk hb5; clear hq5 hb5; simp only [vP]) | (go_at_call 31; go_in))
     obtain ⟨x, hx⟩ : ∃ x, rd_T25 zs m = x := ⟨_, rfl⟩
     rw [hx] at hgd h1
     have HX := Aside0.mk hx
     simp only [hx]
     clear hx
     cases bg with
     | true =>
      simp only [if_true, Option.some.injEq, Prod.mk.injEq] at h1
      obtain ⟨rfl, rfl, rfl, rfl, rfl, rfl⟩ := h1
      go_wp2_with (go_at_call 33; (with_reducible refine (image_Good.calls a0 x.f1.f0 x.f1.f1 x.f1.f2 x.f1.f3 true eg _ hgd).mono ?_); rintro e w7 ⟨rfl, hb7⟩; have hpb : w7.heap[w5.heap.size]? = some (.cells #[.int .i64 x.f0, .int .i64 x.f1.f0, .int .i64 x.f1.f1, .int .i64 x.f1.f2, .int .i64 x.f1.f3] 25 (0, 0)) := (hb7.block _ (by simp)).trans (by show (w5.heap.push _)[w5.heap.size]? = _; exact Array.getElem?_push_size); have HB7 := Aside0.mk (below_step (HB5.out.alloc HB5.out.size _) hb7); have HQ7 := Aside0.mk ((HQ5.out.below ((Below.refl _ _).alloc (Nat.le_refl _) _)).below hb7); have hbox7 := (HB7.out.block w.heap.size hgl).trans hbox; have hy0 : w7.cell? ⟨w5.heap.size, 0, none⟩ = some (.int .i64 x.f0) := (blk_cell hpb 0).trans rfl; have hz0 : w7.cell? ⟨w.heap.size, 0, none⟩ = some (.int .i64 0) := (blk_cell hbox7 0).trans rfl; have hf0 := blk_frozen hbox7 0; have hy1 : w7.cell? ⟨w5.heap.size, 1, none⟩ = some (.int .i64 x.f1.f0) := (blk_cell hpb 1).trans rfl; have hz1 : w7.cell? ⟨w.heap.size, 1, none⟩ = some (.int .i64 0) := (blk_cell hbox7 1).trans rfl; have hf1 := blk_frozen hbox7 1; have hy2 : w7.cell? ⟨w5.heap.size, 2, none⟩ = some (.int .i64 x.f1.f1) := (blk_cell hpb 2).trans rfl; have hz2 : w7.cell? ⟨w.heap.size, 2, none⟩ = some (.int .i64 0) := (blk_cell hbox7 2).trans rfl; have hf2 := blk_frozen hbox7 2; have hy3 : w7.cell? ⟨w5.heap.size, 3, none⟩ = some (.int .i64 x.f1.f2) := (blk_cell hpb 3).trans rfl; have hz3 : w7.cell? ⟨w.heap.size, 3, none⟩ = some (.int .i64 0) := (blk_cell hbox7 3).trans rfl; have hf3 := blk_frozen hbox7 3; have hy4 : w7.cell? ⟨w5.heap.size, 4, none⟩ = some (.int .i64 x.f1.f3) := (blk_cell hpb 4).trans rfl; have hz4 : w7.cell? ⟨w.heap.size, 4, none⟩ = some (.int .i64 0) := (blk_cell hbox7 4).trans rfl; have hf4 := blk_frozen hbox7 4; clear hb7)
      refine bodyPost_ret (results_ct rfl _ _ w.heap.size 25 #[.int .i64 x.f0, .int .i64 x.f1.f0, .int .i64 x.f1.f1, .int .i64 x.f1.f2, .int .i64 x.f1.f3] (0, 0) _ rfl (by refine blk_put (cs := #[.int .i64 x.f0, .int .i64 x.f1.f0, .int .i64 x.f1.f1, .int .i64 x.f1.f2, .int .i64 0]) ?_ 4 _ rfl; refine blk_put (cs := #[.int .i64 x.f0, .int .i64 x.f1.f0, .int .i64 x.f1.f1, .int .i64 0, .int .i64 0]) ?_ 3 _ rfl; refine blk_put (cs := #[.int .i64 x.f0, .int .i64 x.f1.f0, .int .i64 0, .int .i64 0, .int .i64 0]) ?_ 2 _ rfl; refine blk_put (cs := #[.int .i64 x.f0, .int .i64 0, .int .i64 0, .int .i64 0, .int .i64 0]) ?_ 1 _ rfl; refine blk_put (cs := #[.int .i64 0, .int .i64 0, .int .i64 0, .int .i64 0, .int .i64 0]) ?_ 0 _ rfl; exact hbox7) Try.underlying25 rfl (by kernel_rfl)) rfl ?_
      refine ⟨rfl, ?_⟩
      refine below_set (below_set (below_set (below_set (below_set (below_step hb HB7.out) ?_) ?_) ?_) ?_) ?_ <;> exact Nat.le_refl _
     | false =>
      simp only [Bool.false_eq_true, if_false] at h1
      go_wp2_with (go_at_call 33; (with_reducible refine (image_Good.calls a0 x.f1.f0 x.f1.f1 x.f1.f2 x.f1.f3 false eg _ hgd).mono ?_); rintro e w7 ⟨rfl, hb7⟩; have hpb : w7.heap[w5.heap.size]? = some (.cells #[.int .i64 x.f0, .int .i64 x.f1.f0, .int .i64 x.f1.f1, .int .i64 x.f1.f2, .int .i64 x.f1.f3] 25 (0, 0)) := (hb7.block _ (by simp)).trans (by show (w5.heap.push _)[w5.heap.size]? = _; exact Array.getElem?_push_size); have HB7 := Aside0.mk (below_step (HB5.out.alloc HB5.out.size _) hb7); have HQ7 := Aside0.mk ((HQ5.out.below ((Below.refl _ _).alloc (Nat.le_refl _) _)).below hb7); have hbox7 := (HB7.out.block w.heap.size hgl).trans hbox; have hy0 : w7.cell? ⟨w5.heap.size, 0, none⟩ = some (.int .i64 x.f0) := (blk_cell hpb 0).trans rfl; have hz0 : w7.cell? ⟨w.heap.size, 0, none⟩ = some (.int .i64 0) := (blk_cell hbox7 0).trans rfl; have hf0 := blk_frozen hbox7 0; have hy1 : w7.cell? ⟨w5.heap.size, 1, none⟩ = some (.int .i64 x.f1.f0) := (blk_cell hpb 1).trans rfl; have hz1 : w7.cell? ⟨w.heap.size, 1, none⟩ = some (.int .i64 0) := (blk_cell hbox7 1).trans rfl; have hf1 := blk_frozen hbox7 1; have hy2 : w7.cell? ⟨w5.heap.size, 2, none⟩ = some (.int .i64 x.f1.f1) := (blk_cell hpb 2).trans rfl; have hz2 : w7.cell? ⟨w.heap.size, 2, none⟩ = some (.int .i64 0) := (blk_cell hbox7 2).trans rfl; have hf2 := blk_frozen hbox7 2; have hy3 : w7.cell? ⟨w5.heap.size, 3, none⟩ = some (.int .i64 x.f1.f2) := (blk_cell hpb 3).trans rfl; have hz3 : w7.cell? ⟨w.heap.size, 3, none⟩ = some (.int .i64 0) := (blk_cell hbox7 3).trans rfl; have hf3 := blk_frozen hbox7 3; have hy4 : w7.cell? ⟨w5.heap.size, 4, none⟩ = some (.int .i64 x.f1.f3) := (blk_cell hpb 4).trans rfl; have hz4 : w7.cell? ⟨w.heap.size, 4, none⟩ = some (.int .i64 0) := (blk_cell hbox7 4).trans rfl; have hf4 := blk_frozen hbox7 4; clear hb7)
      go_roundg m
      case measure => omega
      case rel => exact ⟨_, ⟨h1⟩, ⟨by have := HKm.out; omega⟩, HQ7, HB7⟩
  ·simp only [if_neg c2] at h
   exact absurd h (by simp)
 ·simp only [if_neg c1, Option.some.injEq, Prod.mk.injEq] at h
  obtain ⟨rfl, rfl, rfl, rfl, rfl, rfl⟩ := h
  have c1b : (er != 0) = true := bne_iff_ne.mpr c1
  have c1c : (er = 0) = False := eq_false c1
  go_enter Try.func9, Try.ntmps9
  go_wp2_with (first | ((with_reducible refine gate_dst (N := 2) rfl ?_); refine box_event ?hg (N := 2) ?hd (cs := #[.int .i64 0, .int .i64 0, .int .i64 0, .int .i64 0, .int .i64 0]) (t := 25) ?hr ?_; (case hd => rfl); (case hg => rfl); (case hr => first | (go_simp; done) | (go_simp; rfl)); intro gr hg w1 hbox hb) | (go_at_call 29; (with_reducible refine (journal_Scan.calls k a0 xs er _ HS.out).mono ?_); rintro e w2 ⟨v, rfl, hR, hb2⟩; obtain ⟨A, c, rfl⟩ := Kd.R_slice hR; have hgl : gr < w1.heap.size := (by rcases Nat.lt_or_ge gr w1.heap.size with h' | h'; (· exact h'); (· rw [Array.getElem?_eq_none h'] at hbox; cases hbox)); have hbox7 := (hb2.block gr hgl).trans hbox; subst hg; have HB2 := Aside0.mk hb2; have hz0 : w2.cell? ⟨w.heap.size, 0, none⟩ = some (.int .i64 0) := (blk_cell hbox7 0).trans rfl; have hf0 := blk_frozen hbox7 0; have hz1 : w2.cell? ⟨w.heap.size, 1, none⟩ = some (.int .i64 0) := (blk_cell hbox7 1).trans rfl; have hf1 := blk_frozen hbox7 1; have hz2 : w2.cell? ⟨w.heap.size, 2, none⟩ = some (.int .i64 0) := (blk_cell hbox7 2).trans rfl; have hf2 := blk_frozen hbox7 2; have hz3 : w2.cell? ⟨w.heap.size, 3, none⟩ = some (.int .i64 0) := (blk_cell hbox7 3).trans rfl; have hf3 := blk_frozen hbox7 3; have hz4 : w2.cell? ⟨w.heap.size, 4, none⟩ = some (.int .i64 0) := (blk_cell hbox7 4).trans rfl; have hf4 := blk_frozen hbox7 4; clear hb2))
  refine bodyPost_ret (results_ct rfl _ _ w.heap.size 25 #[.int .i64 0, .int .i64 0, .int .i64 0, .int .i64 0, .int .i64 0] (0, 0) _ rfl (by refine blk_put (cs := #[.int .i64 0, .int .i64 0, .int .i64 0, .int .i64 0, .int .i64 0]) ?_ 4 _ rfl; refine blk_put (cs := #[.int .i64 0, .int .i64 0, .int .i64 0, .int .i64 0, .int .i64 0]) ?_ 3 _ rfl; refine blk_put (cs := #[.int .i64 0, .int .i64 0, .int .i64 0, .int .i64 0, .int .i64 0]) ?_ 2 _ rfl; refine blk_put (cs := #[.int .i64 0, .int .i64 0, .int .i64 0, .int .i64 0, .int .i64 0]) ?_ 1 _ rfl; refine blk_put (cs := #[.int .i64 0, .int .i64 0, .int .i64 0, .int .i64 0, .int .i64 0]) ?_ 0 _ rfl; exact hbox7) Try.underlying25 rfl (by kernel_rfl)) rfl ?_
  refine ⟨rfl, ?_⟩
  refine below_set (below_set (below_set (below_set (below_set (below_step hb HB2.out) ?_) ?_) ?_) ?_) ?_ <;> exact Nat.le_refl _
end Go.Proofs.Ytjadcjkjpkkmkaa.Hand

