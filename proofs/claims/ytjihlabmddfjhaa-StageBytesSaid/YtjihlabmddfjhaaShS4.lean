import Derived.Test.YtjihlabmddfjhaaShS3
-- Laid together from this session's own texts by its program wip/tools/shake.py.
-- Written by this session's own program (wip/tools/myprint.py), which runs the kit's print over functions proved by hand.
namespace Go.Proofs.Ytjihlabmddfjhaa.PAll
open Go.RowKit Go.Proofs.YtjihlabmddfjhaaW.PrintWords Go.Proofs.YtjihlabmddfjhaaW.PrintLast Go.Proofs.YtjihlabmddfjhaaW.PrintMore
attribute [local go_sem] max2_int min2_int max_two min_two max_three min_three max_four min_four   -- for this text's walks alone
set_option linter.unusedVariables false
set_option linter.unusedSimpArgs false
def skiffref1_Active.l0 : Nat → ByteArray → List (S59) → Int → Int → Option (Int × Int × Int × Int × Int × Int)
 | 0, _, _, _, _ => none
 | k + 1, x0, x4, x6, x7 => if x7 < (x4.length : Int) then (if 0 ≤ x7 then ((skiffref1_Good.f k x0 ((rd_T59 x4 x7).f1.f0) ((rd_T59 x4 x7).f1.f1) ((rd_T59 x4 x7).f1.f2) ((rd_T59 x4 x7).f1.f3)).bind fun bt398 => (if bt398.1 = true then (if x6 < 0 then (skiffref1_Active.l0 k x0 x4 x7 (wrap64 (x7 + 1))) else (if 0 ≤ x6 then (if x6 < (x4.length : Int) then (if ((rd_T59 x4 x7).f1.f0) ≥ ((rd_T59 x4 x6).f1.f0) then (skiffref1_Active.l0 k x0 x4 x7 (wrap64 (x7 + 1))) else (skiffref1_Active.l0 k x0 x4 x6 (wrap64 (x7 + 1)))) else (none)) else (none))) else (skiffref1_Active.l0 k x0 x4 x6 (wrap64 (x7 + 1))))) else (none)) else (if x6 < 0 then (some (0, 0, 0, 0, 0, 701)) else (if 0 ≤ x6 then (if x6 < (x4.length : Int) then (some ((rd_T59 x4 x6).f0, (rd_T59 x4 x6).f1.f0, (rd_T59 x4 x6).f1.f1, (rd_T59 x4 x6).f1.f2, (rd_T59 x4 x6).f1.f3, 0)) else (none)) else (none)))
def skiffref1_Active.f (k : Nat) (a0 : ByteArray) : Option (Int × Int × Int × Int × Int × Int) := (skiffref1_Scan.f k a0).bind fun bt393 => (if bt393.2 = 0 then (skiffref1_Active.l0 k a0 bt393.1 (-1) 0) else (some (0, 0, 0, 0, 0, 700)))
set_option maxHeartbeats 8000000 in
set_option maxRecDepth 100000 in
theorem skiffref1_Active.calls (k : Nat) (a0 : ByteArray) (r1 : Int) (r2 : Int) (r3 : Int) (r4 : Int) (r5 : Int) (r6 : Int) (w : World) (h : skiffref1_Active.f k a0 = some (r1, r2, r3, r4, r5, r6)) :
  Calls Try.prog 64 #[.string a0] w fun e w' => e = .returned (.tuple #[.agg #[.int .i64 r1, .int .i64 r2, .int .i64 r3, .int .i64 r4, .int .i64 r5], .int .i64 r6]) ∧ Below w.heap.size w w' := by
 have hu59 := Try.underlying59
 have hu25 := Try.underlying25
 have HB := Aside0.mk (Below.refl w.heap.size w)
 have H : ((skiffref1_Scan.f k a0).bind fun bt393 => (if bt393.2 = 0 then (skiffref1_Active.l0 k a0 bt393.1 (-1) 0) else (some (0, 0, 0, 0, 0, 700)))) = some (r1, r2, r3, r4, r5, r6) := h
 clear h
 replace H := Option.bind_eq_some_iff.mp H
 obtain ⟨⟨t393, t394⟩, A20, H⟩ := H
 replace H : (if t394 = 0 then (skiffref1_Active.l0 k a0 t393 (-1) 0) else (some (0, 0, 0, 0, 0, 700))) = some (r1, r2, r3, r4, r5, r6) := H
 have A2 := Aside0.mk A20
 clear A20
 by_cases c3 : t394 = 0
 ·rw [if_pos c3] at H
  have c3b0 : (t394 == 0) = true := beq_iff_eq.mpr c3
  have c3b1 : (t394 != 0) = false := bne_eq_false_iff_eq.mpr c3
  clear c3
  have H' := Aside0.mk H
  clear H
  go_enter Try.func64, Try.ntmps64
  go_wp2_with (first | ((with_reducible refine gate_dst (N := 2) rfl ?_); refine box_event ?hg (N := 2) ?hd (cs := #[.int .i64 0, .int .i64 0, .int .i64 0, .int .i64 0, .int .i64 0]) (t := 59) ?hr ?_; (case hd => rfl); (case hg => rfl); (case hr => first | (go_simp; done) | (go_simp; rfl)); intro gb392 hg w4 hbox hb; have n0_ := Aside0.mk (below_step q2_ hb); have n1_ := Aside0.mk (hbox); have n2_ := Aside0.mk ((by rw [hg]; exact (below_size q2_) : w.heap.size ≤ gb392)); have n3_ := Aside0.mk ((by rw [hg]; exact (below_size q2_) : w.heap.size ≤ gb392)); clear HB; have HB := n0_; have BK392 := n1_; have GW392 := n2_; have GE392 := n3_; clear n0_ n1_ n2_ n3_; clear hb hbox hg) | (go_at_call 77; (with_reducible refine (skiffref1_Scan.calls k a0 t393 t394 _ A2.out).mono ?_); rintro e w5 ⟨v395, rfl, ho0, hb⟩; have n0_ := Aside0.mk (Kd.R_lower (Kd.R_newB ho0 (g := gb392) (o := .cells #[.int .i64 0, .int .i64 0, .int .i64 0, .int .i64 0, .int .i64 0] 59 (0, 0)) (by (with_reducible repeat (first | refine blk_drewN ?_ _ | refine blk_drew ?_ | refine blk_alloc ?_ _)); exact BK392.out)) (below_size (by repeat (first | (with_reducible first | exact HB.out | apply below_alloc | apply pw_below_drewN | apply below_drew1 | refine below_set ?_ GE392.out) | exact HB.out)))); have n1_ := Aside0.mk (blk_below (g := gb392) (o := .cells #[.int .i64 0, .int .i64 0, .int .i64 0, .int .i64 0, .int .i64 0] 59 (0, 0)) (by (with_reducible repeat (first | refine blk_drewN ?_ _ | refine blk_drew ?_ | refine blk_alloc ?_ _)); exact BK392.out) hb); have n2_ := Aside0.mk (below_step (by repeat (first | (with_reducible first | exact HB.out | apply below_alloc | apply pw_below_drewN | apply below_drew1 | refine below_set ?_ GE392.out) | exact HB.out)) hb); clear BK392; clear HB; have HO396 := n0_; have BK392 := n1_; have HB := n2_; clear n0_ n1_ n2_; (try clear hb); (try clear hb2); (try clear hk); (try clear hi); (try clear ho0)))
  repeat (go_quiet (first | ((with_reducible refine gate_dst (N := 2) rfl ?_); refine box_event ?hg (N := 2) ?hd (cs := #[.int .i64 0, .int .i64 0, .int .i64 0, .int .i64 0, .int .i64 0]) (t := 59) ?hr ?_; (case hd => rfl); (case hg => rfl); (case hr => first | (go_simp; done) | (go_simp; rfl)); intro gb392 hg w4 hbox hb; have n0_ := Aside0.mk (below_step q2_ hb); have n1_ := Aside0.mk (hbox); have n2_ := Aside0.mk ((by rw [hg]; exact (below_size q2_) : w.heap.size ≤ gb392)); have n3_ := Aside0.mk ((by rw [hg]; exact (below_size q2_) : w.heap.size ≤ gb392)); clear HB; have HB := n0_; have BK392 := n1_; have GW392 := n2_; have GE392 := n3_; clear n0_ n1_ n2_ n3_; clear hb hbox hg) | (go_at_call 77; (with_reducible refine (skiffref1_Scan.calls k a0 t393 t394 _ A2.out).mono ?_); rintro e w5 ⟨v395, rfl, ho0, hb⟩; have n0_ := Aside0.mk (Kd.R_lower (Kd.R_newB ho0 (g := gb392) (o := .cells #[.int .i64 0, .int .i64 0, .int .i64 0, .int .i64 0, .int .i64 0] 59 (0, 0)) (by (with_reducible repeat (first | refine blk_drewN ?_ _ | refine blk_drew ?_ | refine blk_alloc ?_ _)); exact BK392.out)) (below_size (by repeat (first | (with_reducible first | exact HB.out | apply below_alloc | apply pw_below_drewN | apply below_drew1 | refine below_set ?_ GE392.out) | exact HB.out)))); have n1_ := Aside0.mk (blk_below (g := gb392) (o := .cells #[.int .i64 0, .int .i64 0, .int .i64 0, .int .i64 0, .int .i64 0] 59 (0, 0)) (by (with_reducible repeat (first | refine blk_drewN ?_ _ | refine blk_drew ?_ | refine blk_alloc ?_ _)); exact BK392.out) hb); have n2_ := Aside0.mk (below_step (by repeat (first | (with_reducible first | exact HB.out | apply below_alloc | apply pw_below_drewN | apply below_drew1 | refine below_set ?_ GE392.out) | exact HB.out)) hb); clear BK392; clear HB; have HO396 := n0_; have BK392 := n1_; have HB := n2_; clear n0_ n1_ n2_; (try clear hb); (try clear hb2); (try clear hk); (try clear hi); (try clear ho0))); try go_wp2_with (first | ((with_reducible refine gate_dst (N := 2) rfl ?_); refine box_event ?hg (N := 2) ?hd (cs := #[.int .i64 0, .int .i64 0, .int .i64 0, .int .i64 0, .int .i64 0]) (t := 59) ?hr ?_; (case hd => rfl); (case hg => rfl); (case hr => first | (go_simp; done) | (go_simp; rfl)); intro gb392 hg w4 hbox hb; have n0_ := Aside0.mk (below_step q2_ hb); have n1_ := Aside0.mk (hbox); have n2_ := Aside0.mk ((by rw [hg]; exact (below_size q2_) : w.heap.size ≤ gb392)); have n3_ := Aside0.mk ((by rw [hg]; exact (below_size q2_) : w.heap.size ≤ gb392)); clear HB; have HB := n0_; have BK392 := n1_; have GW392 := n2_; have GE392 := n3_; clear n0_ n1_ n2_ n3_; clear hb hbox hg) | (go_at_call 77; (with_reducible refine (skiffref1_Scan.calls k a0 t393 t394 _ A2.out).mono ?_); rintro e w5 ⟨v395, rfl, ho0, hb⟩; have n0_ := Aside0.mk (Kd.R_lower (Kd.R_newB ho0 (g := gb392) (o := .cells #[.int .i64 0, .int .i64 0, .int .i64 0, .int .i64 0, .int .i64 0] 59 (0, 0)) (by (with_reducible repeat (first | refine blk_drewN ?_ _ | refine blk_drew ?_ | refine blk_alloc ?_ _)); exact BK392.out)) (below_size (by repeat (first | (with_reducible first | exact HB.out | apply below_alloc | apply pw_below_drewN | apply below_drew1 | refine below_set ?_ GE392.out) | exact HB.out)))); have n1_ := Aside0.mk (blk_below (g := gb392) (o := .cells #[.int .i64 0, .int .i64 0, .int .i64 0, .int .i64 0, .int .i64 0] 59 (0, 0)) (by (with_reducible repeat (first | refine blk_drewN ?_ _ | refine blk_drew ?_ | refine blk_alloc ?_ _)); exact BK392.out) hb); have n2_ := Aside0.mk (below_step (by repeat (first | (with_reducible first | exact HB.out | apply below_alloc | apply pw_below_drewN | apply below_drew1 | refine below_set ?_ GE392.out) | exact HB.out)) hb); clear BK392; clear HB; have HO396 := n0_; have BK392 := n1_; have HB := n2_; clear n0_ n1_ n2_; (try clear hb); (try clear hb2); (try clear hk); (try clear hi); (try clear ho0))))
  go_loopg [6, 7] k (fun kq v6 v7 w' => ∃ (x6_1 : Int) (x7_1 : Int), v6 = .int .i64 x6_1 ∧ v7 = .int .i64 x7_1 ∧ Aside0 (skiffref1_Active.l0 kq a0 t393 x6_1 x7_1 = some (r1, r2, r3, r4, r5, r6)) ∧ Aside0 (kq ≤ k) ∧ Aside0 (Kd.R k59 59 w' w.heap.size (fun k_ => k_ ≠ gb392) v395 t393) ∧ Aside0 (w'.heap[gb392]? = some (.cells #[.int .i64 0, .int .i64 0, .int .i64 0, .int .i64 0, .int .i64 0] 59 (0, 0))) ∧ Aside0 (Below w.heap.size w w'))
  case atStart => exact ⟨((-1)), (0), q4_, q4_, H', ⟨Nat.le_refl _⟩, ⟨by (with_reducible repeat (first | apply Kd.R_alloc | apply Kd.R_drewN | apply Kd.R_drew)); exact Kd.R_mono HO396.out (fun _ hk => hk.2)⟩, ⟨by (with_reducible repeat (first | refine blk_drewN ?_ _ | refine blk_drew ?_ | refine blk_alloc ?_ _)); exact BK392.out⟩, ⟨by repeat (first | (with_reducible first | exact HB.out | apply below_alloc | apply pw_below_drewN | apply below_drew1 | refine below_set ?_ GE392.out) | exact HB.out)⟩⟩
  case round =>
   clear H'
   try clear p2
   try clear c3
   try clear c3b0
   try clear c3b1
   obtain ⟨x6_1, x7_1, rfl, rfl, HA, HK1, HO_4, BK392, HB⟩ := hrel
   cases gk with
   | zero => exact absurd HA.out (by simp [skiffref1_Active.l0])
   | succ k1 =>
    have H := HA.out
    clear HA
    simp only [skiffref1_Active.l0] at H
    by_cases c6 : x7_1 < (t393.length : Int)
    ·rw [if_pos c6] at H
     have c6b0 : decide (x7_1 < (t393.length : Int)) = true := decide_eq_true c6
     clear c6
     by_cases c7 : 0 ≤ x7_1
     ·rw [if_pos c7] at H
      have c7b0 : decide (0 ≤ x7_1) = true := decide_eq_true c7
      clear c7
      replace H := Option.bind_eq_some_iff.mp H
      obtain ⟨⟨t398, t399⟩, A80, H⟩ := H
      replace H : (if t398 = true then (if x6_1 < 0 then (skiffref1_Active.l0 k1 a0 t393 x7_1 (wrap64 (x7_1 + 1))) else (if 0 ≤ x6_1 then (if x6_1 < (t393.length : Int) then (if ((rd_T59 t393 x7_1).f1.f0) ≥ ((rd_T59 t393 x6_1).f1.f0) then (skiffref1_Active.l0 k1 a0 t393 x7_1 (wrap64 (x7_1 + 1))) else (skiffref1_Active.l0 k1 a0 t393 x6_1 (wrap64 (x7_1 + 1)))) else (none)) else (none))) else (skiffref1_Active.l0 k1 a0 t393 x6_1 (wrap64 (x7_1 + 1)))) = some (r1, r2, r3, r4, r5, r6) := H
      have A8 := Aside0.mk A80
      clear A80
      by_cases c9 : t398 = true
      ·subst c9
       have H1 : (if x6_1 < 0 then (skiffref1_Active.l0 k1 a0 t393 x7_1 (wrap64 (x7_1 + 1))) else (if 0 ≤ x6_1 then (if x6_1 < (t393.length : Int) then (if ((rd_T59 t393 x7_1).f1.f0) ≥ ((rd_T59 t393 x6_1).f1.f0) then (skiffref1_Active.l0 k1 a0 t393 x7_1 (wrap64 (x7_1 + 1))) else (skiffref1_Active.l0 k1 a0 t393 x6_1 (wrap64 (x7_1 + 1)))) else (none)) else (none))) = some (r1, r2, r3, r4, r5, r6) := by rw [if_pos rfl] at H; exact H
       clear H
       have H := H1
       clear H1
       by_cases c10 : x6_1 < 0
       ·rw [if_pos c10] at H
        have c10b0 : decide (x6_1 < 0) = true := decide_eq_true c10
        clear c10
        have H' := Aside0.mk H
        clear H
        obtain ⟨Ao11, co11, eo11⟩ := Kd.R_slice HO_4.out
        subst eo11
        have p397 : 0 ≤ (x7_1 : Int) := of_decide_eq_true q5_
        have q397 : x7_1 < (t393.length : Int) := of_decide_eq_true q5_
        obtain ⟨ad397, e397, hx397_0, hx397_1, hx397_2, hx397_3, hx397_4⟩ := at_T59 (Kd.R_reads' HO_4.out).2.2 x7_1 p397 q397
        cases e397
        replace p397 := eq_true p397
        replace q397 := eq_true q397
        go_wp2_with (first | (go_at_call 78; (with_reducible refine (skiffref1_Good.calls k1 a0 ((rd_T59 t393 x7_1).f1.f0) ((rd_T59 t393 x7_1).f1.f1) ((rd_T59 t393 x7_1).f1.f2) ((rd_T59 t393 x7_1).f1.f3) true t399 _ A8.out).mono ?_); rintro e w12 ⟨rfl, hb⟩; have n0_ := Aside0.mk (Kd.R_below q6_ hb); have n1_ := Aside0.mk (blk_below (g := gb392) (o := .cells #[.int .i64 0, .int .i64 0, .int .i64 0, .int .i64 0, .int .i64 0] 59 (0, 0)) (by (with_reducible repeat (first | refine blk_drewN ?_ _ | refine blk_drew ?_ | refine blk_alloc ?_ _)); exact BK392.out) hb); have n2_ := Aside0.mk (below_step (by repeat (first | (with_reducible first | exact HB.out | apply below_alloc | apply pw_below_drewN | apply below_drew1 | refine below_set ?_ GE392.out) | exact HB.out)) hb); clear HO_4; clear BK392; clear HB; have HO_4 := n0_; have BK392 := n1_; have HB := n2_; clear n0_ n1_ n2_; (try clear hb); (try clear hb2); (try clear hk); (try clear hi)))
        repeat (go_quiet (first | (go_at_call 78; (with_reducible refine (skiffref1_Good.calls k1 a0 ((rd_T59 t393 x7_1).f1.f0) ((rd_T59 t393 x7_1).f1.f1) ((rd_T59 t393 x7_1).f1.f2) ((rd_T59 t393 x7_1).f1.f3) true t399 _ A8.out).mono ?_); rintro e w12 ⟨rfl, hb⟩; have n0_ := Aside0.mk (Kd.R_below q6_ hb); have n1_ := Aside0.mk (blk_below (g := gb392) (o := .cells #[.int .i64 0, .int .i64 0, .int .i64 0, .int .i64 0, .int .i64 0] 59 (0, 0)) (by (with_reducible repeat (first | refine blk_drewN ?_ _ | refine blk_drew ?_ | refine blk_alloc ?_ _)); exact BK392.out) hb); have n2_ := Aside0.mk (below_step (by repeat (first | (with_reducible first | exact HB.out | apply below_alloc | apply pw_below_drewN | apply below_drew1 | refine below_set ?_ GE392.out) | exact HB.out)) hb); clear HO_4; clear BK392; clear HB; have HO_4 := n0_; have BK392 := n1_; have HB := n2_; clear n0_ n1_ n2_; (try clear hb); (try clear hb2); (try clear hk); (try clear hi))); try go_wp2_with (first | (go_at_call 78; (with_reducible refine (skiffref1_Good.calls k1 a0 ((rd_T59 t393 x7_1).f1.f0) ((rd_T59 t393 x7_1).f1.f1) ((rd_T59 t393 x7_1).f1.f2) ((rd_T59 t393 x7_1).f1.f3) true t399 _ A8.out).mono ?_); rintro e w12 ⟨rfl, hb⟩; have n0_ := Aside0.mk (Kd.R_below q6_ hb); have n1_ := Aside0.mk (blk_below (g := gb392) (o := .cells #[.int .i64 0, .int .i64 0, .int .i64 0, .int .i64 0, .int .i64 0] 59 (0, 0)) (by (with_reducible repeat (first | refine blk_drewN ?_ _ | refine blk_drew ?_ | refine blk_alloc ?_ _)); exact BK392.out) hb); have n2_ := Aside0.mk (below_step (by repeat (first | (with_reducible first | exact HB.out | apply below_alloc | apply pw_below_drewN | apply below_drew1 | refine below_set ?_ GE392.out) | exact HB.out)) hb); clear HO_4; clear BK392; clear HB; have HO_4 := n0_; have BK392 := n1_; have HB := n2_; clear n0_ n1_ n2_; (try clear hb); (try clear hb2); (try clear hk); (try clear hi))))
        go_roundg k1
        case measure => have := HK1.out; omega
        case rel => exact ⟨(x7_1), (wrap64 (x7_1 + 1)), q4_, q4_, H', ⟨by have := HK1.out; omega⟩, ⟨by (with_reducible repeat (first | apply Kd.R_alloc | apply Kd.R_drewN | apply Kd.R_drew)); exact HO_4.out⟩, ⟨by (with_reducible repeat (first | refine blk_drewN ?_ _ | refine blk_drew ?_ | refine blk_alloc ?_ _)); exact BK392.out⟩, ⟨by repeat (first | (with_reducible first | exact HB.out | apply below_alloc | apply pw_below_drewN | apply below_drew1 | refine below_set ?_ GE392.out) | exact HB.out)⟩⟩
       ·rw [if_neg c10] at H
        have c10b0 : decide (x6_1 < 0) = false := decide_eq_false c10
        clear c10
        by_cases c13 : 0 ≤ x6_1
        ·rw [if_pos c13] at H
         have c13b0 : decide (0 ≤ x6_1) = true := decide_eq_true c13
         clear c13
         by_cases c14 : x6_1 < (t393.length : Int)
         ·rw [if_pos c14] at H
          have c14b0 : decide (x6_1 < (t393.length : Int)) = true := decide_eq_true c14
          clear c14
          by_cases c15 : ((rd_T59 t393 x7_1).f1.f0) ≥ ((rd_T59 t393 x6_1).f1.f0)
          ·rw [if_pos c15] at H
           have c15b0 : decide (((rd_T59 t393 x6_1).f1.f0) ≤ ((rd_T59 t393 x7_1).f1.f0)) = true := decide_eq_true c15
           clear c15
           have H' := Aside0.mk H
           clear H
           obtain ⟨Ao16, co16, eo16⟩ := Kd.R_slice HO_4.out
           subst eo16
           have p397 : 0 ≤ (x7_1 : Int) := of_decide_eq_true q5_
           have q397 : x7_1 < (t393.length : Int) := of_decide_eq_true q5_
           obtain ⟨ad397, e397, hx397_0, hx397_1, hx397_2, hx397_3, hx397_4⟩ := at_T59 (Kd.R_reads' HO_4.out).2.2 x7_1 p397 q397
           cases e397
           replace p397 := eq_true p397
           replace q397 := eq_true q397
           go_wp2_with (first | (go_at_call 78; (with_reducible refine (skiffref1_Good.calls k1 a0 ((rd_T59 t393 x7_1).f1.f0) ((rd_T59 t393 x7_1).f1.f1) ((rd_T59 t393 x7_1).f1.f2) ((rd_T59 t393 x7_1).f1.f3) true t399 _ A8.out).mono ?_); rintro e w17 ⟨rfl, hb⟩; have n0_ := Aside0.mk (Kd.R_below q6_ hb); have n1_ := Aside0.mk (blk_below (g := gb392) (o := .cells #[.int .i64 0, .int .i64 0, .int .i64 0, .int .i64 0, .int .i64 0] 59 (0, 0)) (by (with_reducible repeat (first | refine blk_drewN ?_ _ | refine blk_drew ?_ | refine blk_alloc ?_ _)); exact BK392.out) hb); have n2_ := Aside0.mk (below_step (by repeat (first | (with_reducible first | exact HB.out | apply below_alloc | apply pw_below_drewN | apply below_drew1 | refine below_set ?_ GE392.out) | exact HB.out)) hb); clear HO_4; clear BK392; clear HB; have HO_4 := n0_; have BK392 := n1_; have HB := n2_; clear n0_ n1_ n2_; (try clear hb); (try clear hb2); (try clear hk); (try clear hi); have p400 : 0 ≤ (x7_1 : Int) := of_decide_eq_true q5_; have q400 : x7_1 < (t393.length : Int) := of_decide_eq_true q5_; obtain ⟨ad400, e400, hx400_0, hx400_1, hx400_2, hx400_3, hx400_4⟩ := at_T59 (Kd.R_reads' HO_4.out).2.2 x7_1 p400 q400; obtain rfl : ad397 = ad400 := (by injection e400); replace p400 := eq_true p400; replace q400 := eq_true q400; have p401 : 0 ≤ (x6_1 : Int) := of_decide_eq_true q5_; have q401 : x6_1 < (t393.length : Int) := of_decide_eq_true q5_; obtain ⟨ad401, e401, hx401_0, hx401_1, hx401_2, hx401_3, hx401_4⟩ := at_T59 (Kd.R_reads' HO_4.out).2.2 x6_1 p401 q401; obtain rfl : ad397 = ad401 := (by injection e401); replace p401 := eq_true p401; replace q401 := eq_true q401))
           repeat (go_quiet (first | (go_at_call 78; (with_reducible refine (skiffref1_Good.calls k1 a0 ((rd_T59 t393 x7_1).f1.f0) ((rd_T59 t393 x7_1).f1.f1) ((rd_T59 t393 x7_1).f1.f2) ((rd_T59 t393 x7_1).f1.f3) true t399 _ A8.out).mono ?_); rintro e w17 ⟨rfl, hb⟩; have n0_ := Aside0.mk (Kd.R_below q6_ hb); have n1_ := Aside0.mk (blk_below (g := gb392) (o := .cells #[.int .i64 0, .int .i64 0, .int .i64 0, .int .i64 0, .int .i64 0] 59 (0, 0)) (by (with_reducible repeat (first | refine blk_drewN ?_ _ | refine blk_drew ?_ | refine blk_alloc ?_ _)); exact BK392.out) hb); have n2_ := Aside0.mk (below_step (by repeat (first | (with_reducible first | exact HB.out | apply below_alloc | apply pw_below_drewN | apply below_drew1 | refine below_set ?_ GE392.out) | exact HB.out)) hb); clear HO_4; clear BK392; clear HB; have HO_4 := n0_; have BK392 := n1_; have HB := n2_; clear n0_ n1_ n2_; (try clear hb); (try clear hb2); (try clear hk); (try clear hi); have p400 : 0 ≤ (x7_1 : Int) := of_decide_eq_true q5_; have q400 : x7_1 < (t393.length : Int) := of_decide_eq_true q5_; obtain ⟨ad400, e400, hx400_0, hx400_1, hx400_2, hx400_3, hx400_4⟩ := at_T59 (Kd.R_reads' HO_4.out).2.2 x7_1 p400 q400; obtain rfl : ad397 = ad400 := (by injection e400); replace p400 := eq_true p400; replace q400 := eq_true q400; have p401 : 0 ≤ (x6_1 : Int) := of_decide_eq_true q5_; have q401 : x6_1 < (t393.length : Int) := of_decide_eq_true q5_; obtain ⟨ad401, e401, hx401_0, hx401_1, hx401_2, hx401_3, hx401_4⟩ := at_T59 (Kd.R_reads' HO_4.out).2.2 x6_1 p401 q401; obtain rfl : ad397 = ad401 := (by injection e401); replace p401 := eq_true p401; replace q401 := eq_true q401)); try go_wp2_with (first | (go_at_call 78; (with_reducible refine (skiffref1_Good.calls k1 a0 ((rd_T59 t393 x7_1).f1.f0) ((rd_T59 t393 x7_1).f1.f1) ((rd_T59 t393 x7_1).f1.f2) ((rd_T59 t393 x7_1).f1.f3) true t399 _ A8.out).mono ?_); rintro e w17 ⟨rfl, hb⟩; have n0_ := Aside0.mk (Kd.R_below q6_ hb); have n1_ := Aside0.mk (blk_below (g := gb392) (o := .cells #[.int .i64 0, .int .i64 0, .int .i64 0, .int .i64 0, .int .i64 0] 59 (0, 0)) (by (with_reducible repeat (first | refine blk_drewN ?_ _ | refine blk_drew ?_ | refine blk_alloc ?_ _)); exact BK392.out) hb); have n2_ := Aside0.mk (below_step (by repeat (first | (with_reducible first | exact HB.out | apply below_alloc | apply pw_below_drewN | apply below_drew1 | refine below_set ?_ GE392.out) | exact HB.out)) hb); clear HO_4; clear BK392; clear HB; have HO_4 := n0_; have BK392 := n1_; have HB := n2_; clear n0_ n1_ n2_; (try clear hb); (try clear hb2); (try clear hk); (try clear hi); have p400 : 0 ≤ (x7_1 : Int) := of_decide_eq_true q5_; have q400 : x7_1 < (t393.length : Int) := of_decide_eq_true q5_; obtain ⟨ad400, e400, hx400_0, hx400_1, hx400_2, hx400_3, hx400_4⟩ := at_T59 (Kd.R_reads' HO_4.out).2.2 x7_1 p400 q400; obtain rfl : ad397 = ad400 := (by injection e400); replace p400 := eq_true p400; replace q400 := eq_true q400; have p401 : 0 ≤ (x6_1 : Int) := of_decide_eq_true q5_; have q401 : x6_1 < (t393.length : Int) := of_decide_eq_true q5_; obtain ⟨ad401, e401, hx401_0, hx401_1, hx401_2, hx401_3, hx401_4⟩ := at_T59 (Kd.R_reads' HO_4.out).2.2 x6_1 p401 q401; obtain rfl : ad397 = ad401 := (by injection e401); replace p401 := eq_true p401; replace q401 := eq_true q401)))
           go_roundg k1
           case measure => have := HK1.out; omega
           case rel => exact ⟨(x7_1), (wrap64 (x7_1 + 1)), q4_, q4_, H', ⟨by have := HK1.out; omega⟩, ⟨by (with_reducible repeat (first | apply Kd.R_alloc | apply Kd.R_drewN | apply Kd.R_drew)); exact HO_4.out⟩, ⟨by (with_reducible repeat (first | refine blk_drewN ?_ _ | refine blk_drew ?_ | refine blk_alloc ?_ _)); exact BK392.out⟩, ⟨by repeat (first | (with_reducible first | exact HB.out | apply below_alloc | apply pw_below_drewN | apply below_drew1 | refine below_set ?_ GE392.out) | exact HB.out)⟩⟩
          ·rw [if_neg c15] at H
           have c15b0 : decide (((rd_T59 t393 x6_1).f1.f0) ≤ ((rd_T59 t393 x7_1).f1.f0)) = false := decide_eq_false c15
           clear c15
           have H' := Aside0.mk H
           clear H
           obtain ⟨Ao18, co18, eo18⟩ := Kd.R_slice HO_4.out
           subst eo18
           have p397 : 0 ≤ (x7_1 : Int) := of_decide_eq_true q5_
           have q397 : x7_1 < (t393.length : Int) := of_decide_eq_true q5_
           obtain ⟨ad397, e397, hx397_0, hx397_1, hx397_2, hx397_3, hx397_4⟩ := at_T59 (Kd.R_reads' HO_4.out).2.2 x7_1 p397 q397
           cases e397
           replace p397 := eq_true p397
           replace q397 := eq_true q397
           go_wp2_with (first | (go_at_call 78; (with_reducible refine (skiffref1_Good.calls k1 a0 ((rd_T59 t393 x7_1).f1.f0) ((rd_T59 t393 x7_1).f1.f1) ((rd_T59 t393 x7_1).f1.f2) ((rd_T59 t393 x7_1).f1.f3) true t399 _ A8.out).mono ?_); rintro e w19 ⟨rfl, hb⟩; have n0_ := Aside0.mk (Kd.R_below q6_ hb); have n1_ := Aside0.mk (blk_below (g := gb392) (o := .cells #[.int .i64 0, .int .i64 0, .int .i64 0, .int .i64 0, .int .i64 0] 59 (0, 0)) (by (with_reducible repeat (first | refine blk_drewN ?_ _ | refine blk_drew ?_ | refine blk_alloc ?_ _)); exact BK392.out) hb); have n2_ := Aside0.mk (below_step (by repeat (first | (with_reducible first | exact HB.out | apply below_alloc | apply pw_below_drewN | apply below_drew1 | refine below_set ?_ GE392.out) | exact HB.out)) hb); clear HO_4; clear BK392; clear HB; have HO_4 := n0_; have BK392 := n1_; have HB := n2_; clear n0_ n1_ n2_; (try clear hb); (try clear hb2); (try clear hk); (try clear hi); have p400 : 0 ≤ (x7_1 : Int) := of_decide_eq_true q5_; have q400 : x7_1 < (t393.length : Int) := of_decide_eq_true q5_; obtain ⟨ad400, e400, hx400_0, hx400_1, hx400_2, hx400_3, hx400_4⟩ := at_T59 (Kd.R_reads' HO_4.out).2.2 x7_1 p400 q400; obtain rfl : ad397 = ad400 := (by injection e400); replace p400 := eq_true p400; replace q400 := eq_true q400; have p401 : 0 ≤ (x6_1 : Int) := of_decide_eq_true q5_; have q401 : x6_1 < (t393.length : Int) := of_decide_eq_true q5_; obtain ⟨ad401, e401, hx401_0, hx401_1, hx401_2, hx401_3, hx401_4⟩ := at_T59 (Kd.R_reads' HO_4.out).2.2 x6_1 p401 q401; obtain rfl : ad397 = ad401 := (by injection e401); replace p401 := eq_true p401; replace q401 := eq_true q401))
           repeat (go_quiet (first | (go_at_call 78; (with_reducible refine (skiffref1_Good.calls k1 a0 ((rd_T59 t393 x7_1).f1.f0) ((rd_T59 t393 x7_1).f1.f1) ((rd_T59 t393 x7_1).f1.f2) ((rd_T59 t393 x7_1).f1.f3) true t399 _ A8.out).mono ?_); rintro e w19 ⟨rfl, hb⟩; have n0_ := Aside0.mk (Kd.R_below q6_ hb); have n1_ := Aside0.mk (blk_below (g := gb392) (o := .cells #[.int .i64 0, .int .i64 0, .int .i64 0, .int .i64 0, .int .i64 0] 59 (0, 0)) (by (with_reducible repeat (first | refine blk_drewN ?_ _ | refine blk_drew ?_ | refine blk_alloc ?_ _)); exact BK392.out) hb); have n2_ := Aside0.mk (below_step (by repeat (first | (with_reducible first | exact HB.out | apply below_alloc | apply pw_below_drewN | apply below_drew1 | refine below_set ?_ GE392.out) | exact HB.out)) hb); clear HO_4; clear BK392; clear HB; have HO_4 := n0_; have BK392 := n1_; have HB := n2_; clear n0_ n1_ n2_; (try clear hb); (try clear hb2); (try clear hk); (try clear hi); have p400 : 0 ≤ (x7_1 : Int) := of_decide_eq_true q5_; have q400 : x7_1 < (t393.length : Int) := of_decide_eq_true q5_; obtain ⟨ad400, e400, hx400_0, hx400_1, hx400_2, hx400_3, hx400_4⟩ := at_T59 (Kd.R_reads' HO_4.out).2.2 x7_1 p400 q400; obtain rfl : ad397 = ad400 := (by injection e400); replace p400 := eq_true p400; replace q400 := eq_true q400; have p401 : 0 ≤ (x6_1 : Int) := of_decide_eq_true q5_; have q401 : x6_1 < (t393.length : Int) := of_decide_eq_true q5_; obtain ⟨ad401, e401, hx401_0, hx401_1, hx401_2, hx401_3, hx401_4⟩ := at_T59 (Kd.R_reads' HO_4.out).2.2 x6_1 p401 q401; obtain rfl : ad397 = ad401 := (by injection e401); replace p401 := eq_true p401; replace q401 := eq_true q401)); try go_wp2_with (first | (go_at_call 78; (with_reducible refine (skiffref1_Good.calls k1 a0 ((rd_T59 t393 x7_1).f1.f0) ((rd_T59 t393 x7_1).f1.f1) ((rd_T59 t393 x7_1).f1.f2) ((rd_T59 t393 x7_1).f1.f3) true t399 _ A8.out).mono ?_); rintro e w19 ⟨rfl, hb⟩; have n0_ := Aside0.mk (Kd.R_below q6_ hb); have n1_ := Aside0.mk (blk_below (g := gb392) (o := .cells #[.int .i64 0, .int .i64 0, .int .i64 0, .int .i64 0, .int .i64 0] 59 (0, 0)) (by (with_reducible repeat (first | refine blk_drewN ?_ _ | refine blk_drew ?_ | refine blk_alloc ?_ _)); exact BK392.out) hb); have n2_ := Aside0.mk (below_step (by repeat (first | (with_reducible first | exact HB.out | apply below_alloc | apply pw_below_drewN | apply below_drew1 | refine below_set ?_ GE392.out) | exact HB.out)) hb); clear HO_4; clear BK392; clear HB; have HO_4 := n0_; have BK392 := n1_; have HB := n2_; clear n0_ n1_ n2_; (try clear hb); (try clear hb2); (try clear hk); (try clear hi); have p400 : 0 ≤ (x7_1 : Int) := of_decide_eq_true q5_; have q400 : x7_1 < (t393.length : Int) := of_decide_eq_true q5_; obtain ⟨ad400, e400, hx400_0, hx400_1, hx400_2, hx400_3, hx400_4⟩ := at_T59 (Kd.R_reads' HO_4.out).2.2 x7_1 p400 q400; obtain rfl : ad397 = ad400 := (by injection e400); replace p400 := eq_true p400; replace q400 := eq_true q400; have p401 : 0 ≤ (x6_1 : Int) := of_decide_eq_true q5_; have q401 : x6_1 < (t393.length : Int) := of_decide_eq_true q5_; obtain ⟨ad401, e401, hx401_0, hx401_1, hx401_2, hx401_3, hx401_4⟩ := at_T59 (Kd.R_reads' HO_4.out).2.2 x6_1 p401 q401; obtain rfl : ad397 = ad401 := (by injection e401); replace p401 := eq_true p401; replace q401 := eq_true q401)))
           go_roundg k1
           case measure => have := HK1.out; omega
           case rel => exact ⟨(x6_1), (wrap64 (x7_1 + 1)), q4_, q4_, H', ⟨by have := HK1.out; omega⟩, ⟨by (with_reducible repeat (first | apply Kd.R_alloc | apply Kd.R_drewN | apply Kd.R_drew)); exact HO_4.out⟩, ⟨by (with_reducible repeat (first | refine blk_drewN ?_ _ | refine blk_drew ?_ | refine blk_alloc ?_ _)); exact BK392.out⟩, ⟨by repeat (first | (with_reducible first | exact HB.out | apply below_alloc | apply pw_below_drewN | apply below_drew1 | refine below_set ?_ GE392.out) | exact HB.out)⟩⟩
         ·rw [if_neg c14] at H
          exact absurd H (by simp)
        ·rw [if_neg c13] at H
         exact absurd H (by simp)
      ·replace c9 := Bool.eq_false_iff.mpr c9
       subst c9
       have H1 : (skiffref1_Active.l0 k1 a0 t393 x6_1 (wrap64 (x7_1 + 1))) = some (r1, r2, r3, r4, r5, r6) := by rw [if_neg (show ¬ (false = true) by decide)] at H; exact H
       clear H
       have H := H1
       clear H1
       have H' := Aside0.mk H
       clear H
       obtain ⟨Ao20, co20, eo20⟩ := Kd.R_slice HO_4.out
       subst eo20
       have p397 : 0 ≤ (x7_1 : Int) := of_decide_eq_true q5_
       have q397 : x7_1 < (t393.length : Int) := of_decide_eq_true q5_
       obtain ⟨ad397, e397, hx397_0, hx397_1, hx397_2, hx397_3, hx397_4⟩ := at_T59 (Kd.R_reads' HO_4.out).2.2 x7_1 p397 q397
       cases e397
       replace p397 := eq_true p397
       replace q397 := eq_true q397
       go_wp2_with (first | (go_at_call 78; (with_reducible refine (skiffref1_Good.calls k1 a0 ((rd_T59 t393 x7_1).f1.f0) ((rd_T59 t393 x7_1).f1.f1) ((rd_T59 t393 x7_1).f1.f2) ((rd_T59 t393 x7_1).f1.f3) false t399 _ A8.out).mono ?_); rintro e w21 ⟨rfl, hb⟩; have n0_ := Aside0.mk (Kd.R_below q6_ hb); have n1_ := Aside0.mk (blk_below (g := gb392) (o := .cells #[.int .i64 0, .int .i64 0, .int .i64 0, .int .i64 0, .int .i64 0] 59 (0, 0)) (by (with_reducible repeat (first | refine blk_drewN ?_ _ | refine blk_drew ?_ | refine blk_alloc ?_ _)); exact BK392.out) hb); have n2_ := Aside0.mk (below_step (by repeat (first | (with_reducible first | exact HB.out | apply below_alloc | apply pw_below_drewN | apply below_drew1 | refine below_set ?_ GE392.out) | exact HB.out)) hb); clear HO_4; clear BK392; clear HB; have HO_4 := n0_; have BK392 := n1_; have HB := n2_; clear n0_ n1_ n2_; (try clear hb); (try clear hb2); (try clear hk); (try clear hi)))
       repeat (go_quiet (first | (go_at_call 78; (with_reducible refine (skiffref1_Good.calls k1 a0 ((rd_T59 t393 x7_1).f1.f0) ((rd_T59 t393 x7_1).f1.f1) ((rd_T59 t393 x7_1).f1.f2) ((rd_T59 t393 x7_1).f1.f3) false t399 _ A8.out).mono ?_); rintro e w21 ⟨rfl, hb⟩; have n0_ := Aside0.mk (Kd.R_below q6_ hb); have n1_ := Aside0.mk (blk_below (g := gb392) (o := .cells #[.int .i64 0, .int .i64 0, .int .i64 0, .int .i64 0, .int .i64 0] 59 (0, 0)) (by (with_reducible repeat (first | refine blk_drewN ?_ _ | refine blk_drew ?_ | refine blk_alloc ?_ _)); exact BK392.out) hb); have n2_ := Aside0.mk (below_step (by repeat (first | (with_reducible first | exact HB.out | apply below_alloc | apply pw_below_drewN | apply below_drew1 | refine below_set ?_ GE392.out) | exact HB.out)) hb); clear HO_4; clear BK392; clear HB; have HO_4 := n0_; have BK392 := n1_; have HB := n2_; clear n0_ n1_ n2_; (try clear hb); (try clear hb2); (try clear hk); (try clear hi))); try go_wp2_with (first | (go_at_call 78; (with_reducible refine (skiffref1_Good.calls k1 a0 ((rd_T59 t393 x7_1).f1.f0) ((rd_T59 t393 x7_1).f1.f1) ((rd_T59 t393 x7_1).f1.f2) ((rd_T59 t393 x7_1).f1.f3) false t399 _ A8.out).mono ?_); rintro e w21 ⟨rfl, hb⟩; have n0_ := Aside0.mk (Kd.R_below q6_ hb); have n1_ := Aside0.mk (blk_below (g := gb392) (o := .cells #[.int .i64 0, .int .i64 0, .int .i64 0, .int .i64 0, .int .i64 0] 59 (0, 0)) (by (with_reducible repeat (first | refine blk_drewN ?_ _ | refine blk_drew ?_ | refine blk_alloc ?_ _)); exact BK392.out) hb); have n2_ := Aside0.mk (below_step (by repeat (first | (with_reducible first | exact HB.out | apply below_alloc | apply pw_below_drewN | apply below_drew1 | refine below_set ?_ GE392.out) | exact HB.out)) hb); clear HO_4; clear BK392; clear HB; have HO_4 := n0_; have BK392 := n1_; have HB := n2_; clear n0_ n1_ n2_; (try clear hb); (try clear hb2); (try clear hk); (try clear hi))))
       go_roundg k1
       case measure => have := HK1.out; omega
       case rel => exact ⟨(x6_1), (wrap64 (x7_1 + 1)), q4_, q4_, H', ⟨by have := HK1.out; omega⟩, ⟨by (with_reducible repeat (first | apply Kd.R_alloc | apply Kd.R_drewN | apply Kd.R_drew)); exact HO_4.out⟩, ⟨by (with_reducible repeat (first | refine blk_drewN ?_ _ | refine blk_drew ?_ | refine blk_alloc ?_ _)); exact BK392.out⟩, ⟨by repeat (first | (with_reducible first | exact HB.out | apply below_alloc | apply pw_below_drewN | apply below_drew1 | refine below_set ?_ GE392.out) | exact HB.out)⟩⟩
     ·rw [if_neg c7] at H
      exact absurd H (by simp)
    ·rw [if_neg c6] at H
     have c6b0 : decide (x7_1 < (t393.length : Int)) = false := decide_eq_false c6
     clear c6
     by_cases c22 : x6_1 < 0
     ·rw [if_pos c22] at H
      have c22b0 : decide (x6_1 < 0) = true := decide_eq_true c22
      clear c22
      simp only [Option.some.injEq, Prod.mk.injEq] at H
      obtain ⟨rfl, rfl, rfl, rfl, rfl, rfl⟩ := H
      obtain ⟨Ao23, co23, eo23⟩ := Kd.R_slice HO_4.out
      subst eo23
      have hcz24_0 : wr.cell? ⟨gb392, 0, none⟩ = some (.int .i64 0) := (blk_cell BK392.out 0).trans rfl
      have hcz24_1 : wr.cell? ⟨gb392, 1, none⟩ = some (.int .i64 0) := (blk_cell BK392.out 1).trans rfl
      have hcz24_2 : wr.cell? ⟨gb392, 2, none⟩ = some (.int .i64 0) := (blk_cell BK392.out 2).trans rfl
      have hcz24_3 : wr.cell? ⟨gb392, 3, none⟩ = some (.int .i64 0) := (blk_cell BK392.out 3).trans rfl
      have hcz24_4 : wr.cell? ⟨gb392, 4, none⟩ = some (.int .i64 0) := (blk_cell BK392.out 4).trans rfl
      have hfz24_0 := blk_frozen BK392.out 0
      have hfz24_1 := blk_frozen BK392.out 1
      have hfz24_2 := blk_frozen BK392.out 2
      have hfz24_3 := blk_frozen BK392.out 3
      have hfz24_4 := blk_frozen BK392.out 4
      go_wp2
      repeat (go_quiet (fail); try go_wp2)
      refine bodyPost_ret (results_ct rfl _ _ gb392 59 #[.int .i64 0, .int .i64 0, .int .i64 0, .int .i64 0, .int .i64 0] (0, 0) _ rfl (by (with_reducible repeat (first | refine blk_drewN ?_ _ | refine blk_drew ?_ | refine blk_alloc ?_ _)); refine blk_put (cs := #[.int .i64 0, .int .i64 0, .int .i64 0, .int .i64 0, .int .i64 0]) ?_ 4 _ rfl; (with_reducible repeat (first | refine blk_drewN ?_ _ | refine blk_drew ?_ | refine blk_alloc ?_ _)); refine blk_put (cs := #[.int .i64 0, .int .i64 0, .int .i64 0, .int .i64 0, .int .i64 0]) ?_ 3 _ rfl; (with_reducible repeat (first | refine blk_drewN ?_ _ | refine blk_drew ?_ | refine blk_alloc ?_ _)); refine blk_put (cs := #[.int .i64 0, .int .i64 0, .int .i64 0, .int .i64 0, .int .i64 0]) ?_ 2 _ rfl; (with_reducible repeat (first | refine blk_drewN ?_ _ | refine blk_drew ?_ | refine blk_alloc ?_ _)); refine blk_put (cs := #[.int .i64 0, .int .i64 0, .int .i64 0, .int .i64 0, .int .i64 0]) ?_ 1 _ rfl; (with_reducible repeat (first | refine blk_drewN ?_ _ | refine blk_drew ?_ | refine blk_alloc ?_ _)); refine blk_put (cs := #[.int .i64 0, .int .i64 0, .int .i64 0, .int .i64 0, .int .i64 0]) ?_ 0 _ rfl; (with_reducible repeat (first | refine blk_drewN ?_ _ | refine blk_drew ?_ | refine blk_alloc ?_ _)); exact BK392.out) Try.underlying59 rfl (by kernel_rfl)) rfl ?_
      exact ⟨by first | rfl | (simp [errW_none, errW_some] <;> rfl) | (simp [*, errW_none, errW_some] <;> rfl), by repeat (first | (with_reducible first | exact HB.out | apply below_alloc | apply pw_below_drewN | apply below_drew1 | refine below_set ?_ GE392.out) | exact HB.out)⟩
     ·rw [if_neg c22] at H
      have c22b0 : decide (x6_1 < 0) = false := decide_eq_false c22
      clear c22
      by_cases c25 : 0 ≤ x6_1
      ·rw [if_pos c25] at H
       have c25b0 : decide (0 ≤ x6_1) = true := decide_eq_true c25
       clear c25
       by_cases c26 : x6_1 < (t393.length : Int)
       ·rw [if_pos c26] at H
        have c26b0 : decide (x6_1 < (t393.length : Int)) = true := decide_eq_true c26
        clear c26
        simp only [Option.some.injEq, Prod.mk.injEq] at H
        obtain ⟨rfl, rfl, rfl, rfl, rfl, rfl⟩ := H
        obtain ⟨Ao27, co27, eo27⟩ := Kd.R_slice HO_4.out
        subst eo27
        have p402 : 0 ≤ (x6_1 : Int) := of_decide_eq_true q5_
        have q402 : x6_1 < (t393.length : Int) := of_decide_eq_true q5_
        obtain ⟨ad402, e402, hx402_0, hx402_1, hx402_2, hx402_3, hx402_4⟩ := at_T59 (Kd.R_reads' HO_4.out).2.2 x6_1 p402 q402
        cases e402
        replace p402 := eq_true p402
        replace q402 := eq_true q402
        have hcz28_0 : wr.cell? ⟨gb392, 0, none⟩ = some (.int .i64 0) := (blk_cell BK392.out 0).trans rfl
        have hcz28_1 : wr.cell? ⟨gb392, 1, none⟩ = some (.int .i64 0) := (blk_cell BK392.out 1).trans rfl
        have hcz28_2 : wr.cell? ⟨gb392, 2, none⟩ = some (.int .i64 0) := (blk_cell BK392.out 2).trans rfl
        have hcz28_3 : wr.cell? ⟨gb392, 3, none⟩ = some (.int .i64 0) := (blk_cell BK392.out 3).trans rfl
        have hcz28_4 : wr.cell? ⟨gb392, 4, none⟩ = some (.int .i64 0) := (blk_cell BK392.out 4).trans rfl
        have hfz28_0 := blk_frozen BK392.out 0
        have hfz28_1 := blk_frozen BK392.out 1
        have hfz28_2 := blk_frozen BK392.out 2
        have hfz28_3 := blk_frozen BK392.out 3
        have hfz28_4 := blk_frozen BK392.out 4
        go_wp2
        repeat (go_quiet (fail); try go_wp2)
        refine bodyPost_ret (results_ct rfl _ _ gb392 59 #[.int .i64 ((rd_T59 t393 x6_1).f0), .int .i64 ((rd_T59 t393 x6_1).f1.f0), .int .i64 ((rd_T59 t393 x6_1).f1.f1), .int .i64 ((rd_T59 t393 x6_1).f1.f2), .int .i64 ((rd_T59 t393 x6_1).f1.f3)] (0, 0) _ rfl (by (with_reducible repeat (first | refine blk_drewN ?_ _ | refine blk_drew ?_ | refine blk_alloc ?_ _)); refine blk_put (cs := #[.int .i64 ((rd_T59 t393 x6_1).f0), .int .i64 ((rd_T59 t393 x6_1).f1.f0), .int .i64 ((rd_T59 t393 x6_1).f1.f1), .int .i64 ((rd_T59 t393 x6_1).f1.f2), .int .i64 0]) ?_ 4 _ rfl; (with_reducible repeat (first | refine blk_drewN ?_ _ | refine blk_drew ?_ | refine blk_alloc ?_ _)); refine blk_put (cs := #[.int .i64 ((rd_T59 t393 x6_1).f0), .int .i64 ((rd_T59 t393 x6_1).f1.f0), .int .i64 ((rd_T59 t393 x6_1).f1.f1), .int .i64 0, .int .i64 0]) ?_ 3 _ rfl; (with_reducible repeat (first | refine blk_drewN ?_ _ | refine blk_drew ?_ | refine blk_alloc ?_ _)); refine blk_put (cs := #[.int .i64 ((rd_T59 t393 x6_1).f0), .int .i64 ((rd_T59 t393 x6_1).f1.f0), .int .i64 0, .int .i64 0, .int .i64 0]) ?_ 2 _ rfl; (with_reducible repeat (first | refine blk_drewN ?_ _ | refine blk_drew ?_ | refine blk_alloc ?_ _)); refine blk_put (cs := #[.int .i64 ((rd_T59 t393 x6_1).f0), .int .i64 0, .int .i64 0, .int .i64 0, .int .i64 0]) ?_ 1 _ rfl; (with_reducible repeat (first | refine blk_drewN ?_ _ | refine blk_drew ?_ | refine blk_alloc ?_ _)); refine blk_put (cs := #[.int .i64 0, .int .i64 0, .int .i64 0, .int .i64 0, .int .i64 0]) ?_ 0 _ rfl; (with_reducible repeat (first | refine blk_drewN ?_ _ | refine blk_drew ?_ | refine blk_alloc ?_ _)); exact BK392.out) Try.underlying59 rfl (by kernel_rfl)) rfl ?_
        exact ⟨by first | rfl | (simp [errW_none, errW_some] <;> rfl) | (simp [*, errW_none, errW_some] <;> rfl), by repeat (first | (with_reducible first | exact HB.out | apply below_alloc | apply pw_below_drewN | apply below_drew1 | refine below_set ?_ GE392.out) | exact HB.out)⟩
       ·rw [if_neg c26] at H
        exact absurd H (by simp)
      ·rw [if_neg c25] at H
       exact absurd H (by simp)
 ·rw [if_neg c3] at H
  have c3b0 : (t394 == 0) = false := beq_eq_false_iff_ne.mpr c3
  have c3b1 : (t394 != 0) = true := bne_iff_ne.mpr c3
  simp only [Option.some.injEq, Prod.mk.injEq] at H
  obtain ⟨rfl, rfl, rfl, rfl, rfl, rfl⟩ := H
  go_enter Try.func64, Try.ntmps64
  go_wp2_with (first | ((with_reducible refine gate_dst (N := 2) rfl ?_); refine box_event ?hg (N := 2) ?hd (cs := #[.int .i64 0, .int .i64 0, .int .i64 0, .int .i64 0, .int .i64 0]) (t := 59) ?hr ?_; (case hd => rfl); (case hg => rfl); (case hr => first | (go_simp; done) | (go_simp; rfl)); intro gb392 hg w29 hbox hb; have n0_ := Aside0.mk (below_step q2_ hb); have n1_ := Aside0.mk (hbox); have n2_ := Aside0.mk ((by rw [hg]; exact (below_size q2_) : w.heap.size ≤ gb392)); have n3_ := Aside0.mk ((by rw [hg]; exact (below_size q2_) : w.heap.size ≤ gb392)); clear HB; have HB := n0_; have BK392 := n1_; have GW392 := n2_; have GE392 := n3_; clear n0_ n1_ n2_ n3_; clear hb hbox hg) | (go_at_call 77; (with_reducible refine (skiffref1_Scan.calls k a0 t393 t394 _ A2.out).mono ?_); rintro e w30 ⟨v395, rfl, ho0, hb⟩; have n0_ := Aside0.mk (Kd.R_lower (Kd.R_newB ho0 (g := gb392) (o := .cells #[.int .i64 0, .int .i64 0, .int .i64 0, .int .i64 0, .int .i64 0] 59 (0, 0)) (by (with_reducible repeat (first | refine blk_drewN ?_ _ | refine blk_drew ?_ | refine blk_alloc ?_ _)); exact BK392.out)) (below_size (by repeat (first | (with_reducible first | exact HB.out | apply below_alloc | apply pw_below_drewN | apply below_drew1 | refine below_set ?_ GE392.out) | exact HB.out)))); have n1_ := Aside0.mk (blk_below (g := gb392) (o := .cells #[.int .i64 0, .int .i64 0, .int .i64 0, .int .i64 0, .int .i64 0] 59 (0, 0)) (by (with_reducible repeat (first | refine blk_drewN ?_ _ | refine blk_drew ?_ | refine blk_alloc ?_ _)); exact BK392.out) hb); have n2_ := Aside0.mk (below_step (by repeat (first | (with_reducible first | exact HB.out | apply below_alloc | apply pw_below_drewN | apply below_drew1 | refine below_set ?_ GE392.out) | exact HB.out)) hb); clear BK392; clear HB; have HO396 := n0_; have BK392 := n1_; have HB := n2_; clear n0_ n1_ n2_; (try clear hb); (try clear hb2); (try clear hk); (try clear hi); (try clear ho0); have hcz31_0 : w30.cell? ⟨gb392, 0, none⟩ = some (.int .i64 0) := (blk_cell BK392.out 0).trans rfl; have hcz31_1 : w30.cell? ⟨gb392, 1, none⟩ = some (.int .i64 0) := (blk_cell BK392.out 1).trans rfl; have hcz31_2 : w30.cell? ⟨gb392, 2, none⟩ = some (.int .i64 0) := (blk_cell BK392.out 2).trans rfl; have hcz31_3 : w30.cell? ⟨gb392, 3, none⟩ = some (.int .i64 0) := (blk_cell BK392.out 3).trans rfl; have hcz31_4 : w30.cell? ⟨gb392, 4, none⟩ = some (.int .i64 0) := (blk_cell BK392.out 4).trans rfl; have hfz31_0 := blk_frozen BK392.out 0; have hfz31_1 := blk_frozen BK392.out 1; have hfz31_2 := blk_frozen BK392.out 2; have hfz31_3 := blk_frozen BK392.out 3; have hfz31_4 := blk_frozen BK392.out 4))
  repeat (go_quiet (first | ((with_reducible refine gate_dst (N := 2) rfl ?_); refine box_event ?hg (N := 2) ?hd (cs := #[.int .i64 0, .int .i64 0, .int .i64 0, .int .i64 0, .int .i64 0]) (t := 59) ?hr ?_; (case hd => rfl); (case hg => rfl); (case hr => first | (go_simp; done) | (go_simp; rfl)); intro gb392 hg w29 hbox hb; have n0_ := Aside0.mk (below_step q2_ hb); have n1_ := Aside0.mk (hbox); have n2_ := Aside0.mk ((by rw [hg]; exact (below_size q2_) : w.heap.size ≤ gb392)); have n3_ := Aside0.mk ((by rw [hg]; exact (below_size q2_) : w.heap.size ≤ gb392)); clear HB; have HB := n0_; have BK392 := n1_; have GW392 := n2_; have GE392 := n3_; clear n0_ n1_ n2_ n3_; clear hb hbox hg) | (go_at_call 77; (with_reducible refine (skiffref1_Scan.calls k a0 t393 t394 _ A2.out).mono ?_); rintro e w30 ⟨v395, rfl, ho0, hb⟩; have n0_ := Aside0.mk (Kd.R_lower (Kd.R_newB ho0 (g := gb392) (o := .cells #[.int .i64 0, .int .i64 0, .int .i64 0, .int .i64 0, .int .i64 0] 59 (0, 0)) (by (with_reducible repeat (first | refine blk_drewN ?_ _ | refine blk_drew ?_ | refine blk_alloc ?_ _)); exact BK392.out)) (below_size (by repeat (first | (with_reducible first | exact HB.out | apply below_alloc | apply pw_below_drewN | apply below_drew1 | refine below_set ?_ GE392.out) | exact HB.out)))); have n1_ := Aside0.mk (blk_below (g := gb392) (o := .cells #[.int .i64 0, .int .i64 0, .int .i64 0, .int .i64 0, .int .i64 0] 59 (0, 0)) (by (with_reducible repeat (first | refine blk_drewN ?_ _ | refine blk_drew ?_ | refine blk_alloc ?_ _)); exact BK392.out) hb); have n2_ := Aside0.mk (below_step (by repeat (first | (with_reducible first | exact HB.out | apply below_alloc | apply pw_below_drewN | apply below_drew1 | refine below_set ?_ GE392.out) | exact HB.out)) hb); clear BK392; clear HB; have HO396 := n0_; have BK392 := n1_; have HB := n2_; clear n0_ n1_ n2_; (try clear hb); (try clear hb2); (try clear hk); (try clear hi); (try clear ho0); have hcz31_0 : w30.cell? ⟨gb392, 0, none⟩ = some (.int .i64 0) := (blk_cell BK392.out 0).trans rfl; have hcz31_1 : w30.cell? ⟨gb392, 1, none⟩ = some (.int .i64 0) := (blk_cell BK392.out 1).trans rfl; have hcz31_2 : w30.cell? ⟨gb392, 2, none⟩ = some (.int .i64 0) := (blk_cell BK392.out 2).trans rfl; have hcz31_3 : w30.cell? ⟨gb392, 3, none⟩ = some (.int .i64 0) := (blk_cell BK392.out 3).trans rfl; have hcz31_4 : w30.cell? ⟨gb392, 4, none⟩ = some (.int .i64 0) := (blk_cell BK392.out 4).trans rfl; have hfz31_0 := blk_frozen BK392.out 0; have hfz31_1 := blk_frozen BK392.out 1; have hfz31_2 := blk_frozen BK392.out 2; have hfz31_3 := blk_frozen BK392.out 3; have hfz31_4 := blk_frozen BK392.out 4)); try go_wp2_with (first | ((with_reducible refine gate_dst (N := 2) rfl ?_); refine box_event ?hg (N := 2) ?hd (cs := #[.int .i64 0, .int .i64 0, .int .i64 0, .int .i64 0, .int .i64 0]) (t := 59) ?hr ?_; (case hd => rfl); (case hg => rfl); (case hr => first | (go_simp; done) | (go_simp; rfl)); intro gb392 hg w29 hbox hb; have n0_ := Aside0.mk (below_step q2_ hb); have n1_ := Aside0.mk (hbox); have n2_ := Aside0.mk ((by rw [hg]; exact (below_size q2_) : w.heap.size ≤ gb392)); have n3_ := Aside0.mk ((by rw [hg]; exact (below_size q2_) : w.heap.size ≤ gb392)); clear HB; have HB := n0_; have BK392 := n1_; have GW392 := n2_; have GE392 := n3_; clear n0_ n1_ n2_ n3_; clear hb hbox hg) | (go_at_call 77; (with_reducible refine (skiffref1_Scan.calls k a0 t393 t394 _ A2.out).mono ?_); rintro e w30 ⟨v395, rfl, ho0, hb⟩; have n0_ := Aside0.mk (Kd.R_lower (Kd.R_newB ho0 (g := gb392) (o := .cells #[.int .i64 0, .int .i64 0, .int .i64 0, .int .i64 0, .int .i64 0] 59 (0, 0)) (by (with_reducible repeat (first | refine blk_drewN ?_ _ | refine blk_drew ?_ | refine blk_alloc ?_ _)); exact BK392.out)) (below_size (by repeat (first | (with_reducible first | exact HB.out | apply below_alloc | apply pw_below_drewN | apply below_drew1 | refine below_set ?_ GE392.out) | exact HB.out)))); have n1_ := Aside0.mk (blk_below (g := gb392) (o := .cells #[.int .i64 0, .int .i64 0, .int .i64 0, .int .i64 0, .int .i64 0] 59 (0, 0)) (by (with_reducible repeat (first | refine blk_drewN ?_ _ | refine blk_drew ?_ | refine blk_alloc ?_ _)); exact BK392.out) hb); have n2_ := Aside0.mk (below_step (by repeat (first | (with_reducible first | exact HB.out | apply below_alloc | apply pw_below_drewN | apply below_drew1 | refine below_set ?_ GE392.out) | exact HB.out)) hb); clear BK392; clear HB; have HO396 := n0_; have BK392 := n1_; have HB := n2_; clear n0_ n1_ n2_; (try clear hb); (try clear hb2); (try clear hk); (try clear hi); (try clear ho0); have hcz31_0 : w30.cell? ⟨gb392, 0, none⟩ = some (.int .i64 0) := (blk_cell BK392.out 0).trans rfl; have hcz31_1 : w30.cell? ⟨gb392, 1, none⟩ = some (.int .i64 0) := (blk_cell BK392.out 1).trans rfl; have hcz31_2 : w30.cell? ⟨gb392, 2, none⟩ = some (.int .i64 0) := (blk_cell BK392.out 2).trans rfl; have hcz31_3 : w30.cell? ⟨gb392, 3, none⟩ = some (.int .i64 0) := (blk_cell BK392.out 3).trans rfl; have hcz31_4 : w30.cell? ⟨gb392, 4, none⟩ = some (.int .i64 0) := (blk_cell BK392.out 4).trans rfl; have hfz31_0 := blk_frozen BK392.out 0; have hfz31_1 := blk_frozen BK392.out 1; have hfz31_2 := blk_frozen BK392.out 2; have hfz31_3 := blk_frozen BK392.out 3; have hfz31_4 := blk_frozen BK392.out 4)))
  refine bodyPost_ret (results_ct rfl _ _ gb392 59 #[.int .i64 0, .int .i64 0, .int .i64 0, .int .i64 0, .int .i64 0] (0, 0) _ rfl (by (with_reducible repeat (first | refine blk_drewN ?_ _ | refine blk_drew ?_ | refine blk_alloc ?_ _)); refine blk_put (cs := #[.int .i64 0, .int .i64 0, .int .i64 0, .int .i64 0, .int .i64 0]) ?_ 4 _ rfl; (with_reducible repeat (first | refine blk_drewN ?_ _ | refine blk_drew ?_ | refine blk_alloc ?_ _)); refine blk_put (cs := #[.int .i64 0, .int .i64 0, .int .i64 0, .int .i64 0, .int .i64 0]) ?_ 3 _ rfl; (with_reducible repeat (first | refine blk_drewN ?_ _ | refine blk_drew ?_ | refine blk_alloc ?_ _)); refine blk_put (cs := #[.int .i64 0, .int .i64 0, .int .i64 0, .int .i64 0, .int .i64 0]) ?_ 2 _ rfl; (with_reducible repeat (first | refine blk_drewN ?_ _ | refine blk_drew ?_ | refine blk_alloc ?_ _)); refine blk_put (cs := #[.int .i64 0, .int .i64 0, .int .i64 0, .int .i64 0, .int .i64 0]) ?_ 1 _ rfl; (with_reducible repeat (first | refine blk_drewN ?_ _ | refine blk_drew ?_ | refine blk_alloc ?_ _)); refine blk_put (cs := #[.int .i64 0, .int .i64 0, .int .i64 0, .int .i64 0, .int .i64 0]) ?_ 0 _ rfl; (with_reducible repeat (first | refine blk_drewN ?_ _ | refine blk_drew ?_ | refine blk_alloc ?_ _)); exact BK392.out) Try.underlying59 rfl (by kernel_rfl)) rfl ?_
  exact ⟨by first | rfl | (simp [errW_none, errW_some] <;> rfl) | (simp [*, errW_none, errW_some] <;> rfl), by repeat (first | (with_reducible first | exact HB.out | apply below_alloc | apply pw_below_drewN | apply below_drew1 | refine below_set ?_ GE392.out) | exact HB.out)⟩
mutual
def skiffref1_FreePlace.j0 : Nat → ByteArray → Int → Bool → Option (Int × Bool × Int)
 | 0, _, _, _ => none
 | k + 1, x0, x1, x15 => if x15 = true then (some (0, false, 500)) else (skiffref1_FreePlace.l0 k x0 x1 (wrap64 (x1 * 96)))
def skiffref1_FreePlace.l0 : Nat → ByteArray → Int → Int → Option (Int × Bool × Int)
 | 0, _, _, _ => none
 | k + 1, x0, x1, x7 => if (wrap64 (x7 + 24)) ≤ (wrap64 ((wrap64 (x1 + 1)) * 96)) then (if 0 ≤ x7 then (if x7 ≤ (wrap64 (x7 + 24)) then (if (wrap64 (x7 + 24)) ≤ (x0.size : Int) then ((skiffref1_full.f k 24).bind fun t405 => (if (x0.extract (x7 : Int).toNat ((wrap64 (x7 + 24)) : Int).toNat).toList = t405.toList then (some (x7, true, 0)) else (skiffref1_FreePlace.l0 k x0 x1 (wrap64 (x7 + 24))))) else (none)) else (none)) else (none)) else (some (0, false, 0))
end
def skiffref1_FreePlace.f (k : Nat) (a0 : ByteArray) (a1 : Int) : Option (Int × Bool × Int) := (skiffref1_FlashMay.f a0).bind fun t403 => (if t403 = true then ((PBase.skiffref1_upTo.f a1 0 1).bind fun t404 => (skiffref1_FreePlace.j0 k a0 a1 (!t404))) else (skiffref1_FreePlace.j0 k a0 a1 true))
set_option maxHeartbeats 8000000 in
set_option maxRecDepth 100000 in
theorem skiffref1_FreePlace.calls (k : Nat) (a0 : ByteArray) (a1 : Int) (r1 : Int) (r2 : Bool) (r3 : Int) (w : World) (h : skiffref1_FreePlace.f k a0 a1 = some (r1, r2, r3)) :
  Calls Try.prog 65 #[.string a0, .int .i64 a1] w fun e w' => e = .returned (.tuple #[.int .i64 r1, .bool r2, .int .i64 r3]) ∧ Below w.heap.size w w' := by
 have HB := Aside0.mk (Below.refl w.heap.size w)
 have H : ((skiffref1_FlashMay.f a0).bind fun t403 => (if t403 = true then ((PBase.skiffref1_upTo.f a1 0 1).bind fun t404 => (skiffref1_FreePlace.j0 k a0 a1 (!t404))) else (skiffref1_FreePlace.j0 k a0 a1 true))) = some (r1, r2, r3) := h
 clear h
 have HC3 := Aside0.mk H
 clear H
 go_enter Try.func65, Try.ntmps65
 go_upto_region 1 with (fail)
 go_cut [15] (fun v15 wc => ∃ (kq : Nat) (x15_2 : Bool), v15 = .bool x15_2 ∧ Aside0 (skiffref1_FreePlace.j0 kq a0 a1 x15_2 = some (r1, r2, r3)) ∧ Aside0 (kq ≤ k) ∧ Aside0 (Below w.heap.size w wc))
 case first =>
  have H := HC3.out
  clear HC3
  replace H := Option.bind_eq_some_iff.mp H
  obtain ⟨t403, A40, H⟩ := H
  replace H : (if t403 = true then ((PBase.skiffref1_upTo.f a1 0 1).bind fun t404 => (skiffref1_FreePlace.j0 k a0 a1 (!t404))) else (skiffref1_FreePlace.j0 k a0 a1 true)) = some (r1, r2, r3) := H
  have A4 := Aside0.mk A40
  clear A40
  by_cases c5 : t403 = true
  ·subst c5
   have H1 : ((PBase.skiffref1_upTo.f a1 0 1).bind fun t404 => (skiffref1_FreePlace.j0 k a0 a1 (!t404))) = some (r1, r2, r3) := by rw [if_pos rfl] at H; exact H
   clear H
   have H := H1
   clear H1
   replace H := Option.bind_eq_some_iff.mp H
   obtain ⟨t404, A60, H⟩ := H
   replace H : (skiffref1_FreePlace.j0 k a0 a1 (!t404)) = some (r1, r2, r3) := H
   have A6 := Aside0.mk A60
   clear A60
   have H' := Aside0.mk H
   clear H
   go_wp2_with (first | ((with_reducible refine gate_callee (f := 48) rfl ?_); refine goesL_ (some 9) rfl rfl Try.func48 (by kernel_rfl) rfl #[.string a0] rfl q1_ ?_; (with_reducible refine (skiffref1_FlashMay.calls a0 true _ A4.out).mono ?_); rintro e w' ⟨rfl, ⟨nd, rfl⟩⟩; refine ⟨_, rfl, ?_⟩) | (go_at_call 43; (with_reducible refine (PBase.skiffref1_upTo.calls a1 0 1 t404 _ A6.out).mono ?_); rintro e w' ⟨rfl, ⟨nd, rfl⟩⟩))
   go_meet
   case rel => exact ⟨_, (!t404), q4_, H', ⟨by first | omega | exact Nat.le_refl _⟩, ⟨by repeat (first | (with_reducible first | exact HB.out | apply below_alloc | apply pw_below_drewN | apply below_drew1) | exact HB.out)⟩⟩
  ·replace c5 := Bool.eq_false_iff.mpr c5
   subst c5
   have H1 : (skiffref1_FreePlace.j0 k a0 a1 true) = some (r1, r2, r3) := by rw [if_neg (show ¬ (false = true) by decide)] at H; exact H
   clear H
   have H := H1
   clear H1
   have H' := Aside0.mk H
   clear H
   go_wp2_with (first | ((with_reducible refine gate_callee (f := 48) rfl ?_); refine goesL_ (some 9) rfl rfl Try.func48 (by kernel_rfl) rfl #[.string a0] rfl q1_ ?_; (with_reducible refine (skiffref1_FlashMay.calls a0 false _ A4.out).mono ?_); rintro e w' ⟨rfl, ⟨nd, rfl⟩⟩; refine ⟨_, rfl, ?_⟩))
   go_meet
   case rel => exact ⟨_, (true), q4_, H', ⟨by first | omega | exact Nat.le_refl _⟩, ⟨by repeat (first | (with_reducible first | exact HB.out | apply below_alloc | apply pw_below_drewN | apply below_drew1) | exact HB.out)⟩⟩
 case rest =>
  clear HC3
  try clear p2
  try clear c4
  try clear c5
  try clear c6
  obtain ⟨kq, x15_2, rfl, HA, HJ2, HB⟩ := hcut
  cases kq with
  | zero => exact absurd HA.out (by simp [skiffref1_FreePlace.j0])
  | succ kj2 =>
   have H := HA.out
   clear HA
   simp only [skiffref1_FreePlace.j0] at H
   by_cases c7 : x15_2 = true
   ·subst c7
    have H1 : (some (0, false, 500)) = some (r1, r2, r3) := by rw [if_pos rfl] at H; exact H
    clear H
    have H := H1
    clear H1
    simp only [Option.some.injEq, Prod.mk.injEq] at H
    obtain ⟨rfl, rfl, rfl⟩ := H
    go_wp2
    go_ret3
    exact ⟨by first | rfl | (simp [errW_none, errW_some] <;> rfl) | (simp [*, errW_none, errW_some] <;> rfl), by repeat (first | (with_reducible first | exact HB.out | apply below_alloc | apply pw_below_drewN | apply below_drew1) | exact HB.out)⟩
   ·replace c7 := Bool.eq_false_iff.mpr c7
    subst c7
    have H1 : (skiffref1_FreePlace.l0 kj2 a0 a1 (wrap64 (a1 * 96))) = some (r1, r2, r3) := by rw [if_neg (show ¬ (false = true) by decide)] at H; exact H
    clear H
    have H := H1
    clear H1
    have H' := Aside0.mk H
    clear H
    go_wp2
    go_loopg [7] kj2 (fun kq v7 w' => ∃ (x7_2 : Int), v7 = .int .i64 x7_2 ∧ Aside0 (skiffref1_FreePlace.l0 kq a0 a1 x7_2 = some (r1, r2, r3)) ∧ Aside0 (kq ≤ kj2) ∧ Aside0 (Below w.heap.size w w'))
    case atStart => exact ⟨(wrap64 (a1 * 96)), q4_, H', ⟨Nat.le_refl _⟩, ⟨by repeat (first | (with_reducible first | exact HB.out | apply below_alloc | apply pw_below_drewN | apply below_drew1) | exact HB.out)⟩⟩
    case round =>
     clear H'
     try clear p2
     try clear c4
     try clear c5
     try clear c6
     try clear p6
     try clear c7
     try clear p2
     obtain ⟨x7_2, rfl, HA, HK2, HB⟩ := hrel
     cases gk with
     | zero => exact absurd HA.out (by simp [skiffref1_FreePlace.l0])
     | succ k2 =>
      have H := HA.out
      clear HA
      simp only [skiffref1_FreePlace.l0] at H
      by_cases c8 : (wrap64 (x7_2 + 24)) ≤ (wrap64 ((wrap64 (a1 + 1)) * 96))
      ·rw [if_pos c8] at H
       have c8b0 : decide ((wrap64 (x7_2 + 24)) ≤ (wrap64 ((wrap64 (a1 + 1)) * 96))) = true := decide_eq_true c8
       clear c8
       by_cases c9 : 0 ≤ x7_2
       ·rw [if_pos c9] at H
        have c9b0 := eq_true c9
        have c9b1 : decide (0 ≤ x7_2) = true := decide_eq_true c9
        clear c9
        by_cases c10 : x7_2 ≤ (wrap64 (x7_2 + 24))
        ·rw [if_pos c10] at H
         have c10b0 := eq_true c10
         have c10b1 : decide (x7_2 ≤ (wrap64 (x7_2 + 24))) = true := decide_eq_true c10
         by_cases c11 : (wrap64 (x7_2 + 24)) ≤ (a0.size : Int)
         ·rw [if_pos c11] at H
          have c11b0 := eq_true c11
          have c11b1 : decide ((wrap64 (x7_2 + 24)) ≤ (a0.size : Int)) = true := decide_eq_true c11
          replace H := Option.bind_eq_some_iff.mp H
          obtain ⟨t405, A120, H⟩ := H
          replace H : (if (a0.extract (x7_2 : Int).toNat ((wrap64 (x7_2 + 24)) : Int).toNat).toList = t405.toList then (some (x7_2, true, 0)) else (skiffref1_FreePlace.l0 k2 a0 a1 (wrap64 (x7_2 + 24)))) = some (r1, r2, r3) := H
          have A12 := Aside0.mk A120
          clear A120
          by_cases c13 : (a0.extract (x7_2 : Int).toNat ((wrap64 (x7_2 + 24)) : Int).toNat).toList = t405.toList
          ·rw [if_pos c13] at H
           have c13b0 : ((a0.extract (x7_2 : Int).toNat ((wrap64 (x7_2 + 24)) : Int).toNat).toList == t405.toList) = true := beq_iff_eq.mpr c13
           have c13b1 : ((a0.extract (x7_2 : Int).toNat ((wrap64 (x7_2 + 24)) : Int).toNat).toList != t405.toList) = false := bne_eq_false_iff_eq.mpr c13
           clear c13
           simp only [Option.some.injEq, Prod.mk.injEq] at H
           obtain ⟨rfl, rfl, rfl⟩ := H
           try go_wp2
           have n0_ := Aside0.mk (below_drew1 HB.out)
           clear HB
           have HB := n0_
           clear n0_
           refine start_ (n := 7) (S := fun w' => True) (ds := []) #[false, false, false, false, false, false, false] (by kernel_rfl) rfl rfl trivial (fun hHeld => ?_)
           generalize wr.drew = w14 at HB hHeld ⊢
           refine pure_ (i := 0) (N := some 26) (v := ?_) (a' := ?_) #[true, false, false, false, false, false, false] rfl rfl (by kernel_rfl) (fun _ _ _ h => h) (Or.inl ⟨by rfl, ?_⟩) ?_ ?_
           rotate_left
           ·intro w'
            go_simp
            with_reducible rfl
           rotate_left
           ·simp only [Act.put, List.setIfInBounds_toArray, List.set_cons_zero, List.set_cons_succ, i64_w, i32_w]
            rfl
           refine pure_ (i := 1) (N := some 27) (v := ?_) (a' := ?_) #[true, true, false, false, false, false, false] rfl rfl (by kernel_rfl) (fun _ _ _ h => h) (Or.inl ⟨by rfl, ?_⟩) ?_ ?_
           rotate_left
           ·intro w'
            go_simp
            with_reducible rfl
           rotate_left
           ·simp only [Act.put, List.setIfInBounds_toArray, List.set_cons_zero, List.set_cons_succ, i64_w, i32_w]
            rfl
           refine pure_ (i := 2) (N := some 28) (v := ?_) (a' := ?_) #[true, true, true, false, false, false, false] rfl rfl (by kernel_rfl) (fun _ _ _ h => h) (Or.inl ⟨by rfl, ?_⟩) ?_ ?_
           rotate_left
           ·intro w'
            go_simp
            with_reducible rfl
           rotate_left
           ·simp only [Act.put, List.setIfInBounds_toArray, List.set_cons_zero, List.set_cons_succ, i64_w, i32_w]
            rfl
           refine pure_ (i := 3) (N := some 29) (v := ?_) (a' := ?_) #[true, true, true, true, false, false, false] rfl rfl (by kernel_rfl) (fun _ _ _ h => h) (Or.inl ⟨by rfl, ?_⟩) ?_ ?_
           rotate_left
           ·intro w'
            go_simp
            with_reducible rfl
           rotate_left
           ·simp only [Act.put, List.setIfInBounds_toArray, List.set_cons_zero, List.set_cons_succ, i64_w, i32_w]
            rfl
           refine pure_ (i := 4) (N := some 30) (v := ?_) (a' := ?_) #[true, true, true, true, true, false, false] rfl rfl (by kernel_rfl) (fun _ _ _ h => h) (Or.inl ⟨by rfl, ?_⟩) ?_ ?_
           rotate_left
           ·intro w'
            go_simp
            with_reducible rfl
           rotate_left
           ·simp only [Act.put, List.setIfInBounds_toArray, List.set_cons_zero, List.set_cons_succ, i64_w, i32_w]
            rfl
           refine one_ (i := 5) (N := some 31) #[true, true, true, true, true, true, false] rfl rfl (by kernel_rfl) (by decide) (fun K hK => ?_)
           refine goes_ Try.func44 (by kernel_rfl) rfl #[.int .i64 24] (by rfl) rfl rfl q1_ ?_
           with_reducible refine (skiffref1_full.calls k2 24 t405 _ A12.out).mono ?_
           rintro e w15 ⟨rfl, hb⟩
           refine ⟨_, rfl, ?_⟩
           have n0_ := Aside0.mk (below_step q2_ hb)
           clear HB
           have HB := n0_
           clear n0_
           (try clear hb)
           (try clear hb2)
           (try clear hk)
           (try clear hi)
           refine hK.out _ _ trivial (fun hHeld => ?_)
           clear hK K
           refine norm_ (a' := ?_) ?_ ?_
           rotate_left
           ·show Act.put _ (some 31) _ = _
            simp only [Act.put, List.setIfInBounds_toArray, List.set_cons_zero, List.set_cons_succ, i64_w, i32_w]
            rfl
           refine pure_ (i := 6) (N := some 32) (v := ?_) (a' := ?_) #[true, true, true, true, true, true, true] rfl rfl (by kernel_rfl) (fun _ _ _ h => h) (Or.inl ⟨by rfl, ?_⟩) ?_ ?_
           rotate_left
           ·intro w'
            go_simp
            with_reducible rfl
           rotate_left
           ·simp only [Act.put, List.setIfInBounds_toArray, List.set_cons_zero, List.set_cons_succ, i64_w, i32_w]
            rfl
           refine done_ (by kernel_rfl) ?_
           try go_wp2
           go_ret3
           exact ⟨by first | rfl | (simp [errW_none, errW_some] <;> rfl) | (simp [*, errW_none, errW_some] <;> rfl), by repeat (first | (with_reducible first | exact HB.out | apply below_alloc | apply pw_below_drewN | apply below_drew1) | exact HB.out)⟩
          ·rw [if_neg c13] at H
           have c13b0 : ((a0.extract (x7_2 : Int).toNat ((wrap64 (x7_2 + 24)) : Int).toNat).toList == t405.toList) = false := beq_eq_false_iff_ne.mpr c13
           have c13b1 : ((a0.extract (x7_2 : Int).toNat ((wrap64 (x7_2 + 24)) : Int).toNat).toList != t405.toList) = true := bne_iff_ne.mpr c13
           have H' := Aside0.mk H
           clear H
           try go_wp2
           have n0_ := Aside0.mk (below_drew1 HB.out)
           clear HB
           have HB := n0_
           clear n0_
           refine start_ (n := 7) (S := fun w' => True) (ds := []) #[false, false, false, false, false, false, false] (by kernel_rfl) rfl rfl trivial (fun hHeld => ?_)
           generalize wr.drew = w16 at HB hHeld ⊢
           refine pure_ (i := 0) (N := some 26) (v := ?_) (a' := ?_) #[true, false, false, false, false, false, false] rfl rfl (by kernel_rfl) (fun _ _ _ h => h) (Or.inl ⟨by rfl, ?_⟩) ?_ ?_
           rotate_left
           ·intro w'
            go_simp
            with_reducible rfl
           rotate_left
           ·simp only [Act.put, List.setIfInBounds_toArray, List.set_cons_zero, List.set_cons_succ, i64_w, i32_w]
            rfl
           refine pure_ (i := 1) (N := some 27) (v := ?_) (a' := ?_) #[true, true, false, false, false, false, false] rfl rfl (by kernel_rfl) (fun _ _ _ h => h) (Or.inl ⟨by rfl, ?_⟩) ?_ ?_
           rotate_left
           ·intro w'
            go_simp
            with_reducible rfl
           rotate_left
           ·simp only [Act.put, List.setIfInBounds_toArray, List.set_cons_zero, List.set_cons_succ, i64_w, i32_w]
            rfl
           refine pure_ (i := 2) (N := some 28) (v := ?_) (a' := ?_) #[true, true, true, false, false, false, false] rfl rfl (by kernel_rfl) (fun _ _ _ h => h) (Or.inl ⟨by rfl, ?_⟩) ?_ ?_
           rotate_left
           ·intro w'
            go_simp
            with_reducible rfl
           rotate_left
           ·simp only [Act.put, List.setIfInBounds_toArray, List.set_cons_zero, List.set_cons_succ, i64_w, i32_w]
            rfl
           refine pure_ (i := 3) (N := some 29) (v := ?_) (a' := ?_) #[true, true, true, true, false, false, false] rfl rfl (by kernel_rfl) (fun _ _ _ h => h) (Or.inl ⟨by rfl, ?_⟩) ?_ ?_
           rotate_left
           ·intro w'
            go_simp
            with_reducible rfl
           rotate_left
           ·simp only [Act.put, List.setIfInBounds_toArray, List.set_cons_zero, List.set_cons_succ, i64_w, i32_w]
            rfl
           refine pure_ (i := 4) (N := some 30) (v := ?_) (a' := ?_) #[true, true, true, true, true, false, false] rfl rfl (by kernel_rfl) (fun _ _ _ h => h) (Or.inl ⟨by rfl, ?_⟩) ?_ ?_
           rotate_left
           ·intro w'
            go_simp
            with_reducible rfl
           rotate_left
           ·simp only [Act.put, List.setIfInBounds_toArray, List.set_cons_zero, List.set_cons_succ, i64_w, i32_w]
            rfl
           refine one_ (i := 5) (N := some 31) #[true, true, true, true, true, true, false] rfl rfl (by kernel_rfl) (by decide) (fun K hK => ?_)
           refine goes_ Try.func44 (by kernel_rfl) rfl #[.int .i64 24] (by rfl) rfl rfl q1_ ?_
           with_reducible refine (skiffref1_full.calls k2 24 t405 _ A12.out).mono ?_
           rintro e w17 ⟨rfl, hb⟩
           refine ⟨_, rfl, ?_⟩
           have n0_ := Aside0.mk (below_step q2_ hb)
           clear HB
           have HB := n0_
           clear n0_
           (try clear hb)
           (try clear hb2)
           (try clear hk)
           (try clear hi)
           refine hK.out _ _ trivial (fun hHeld => ?_)
           clear hK K
           refine norm_ (a' := ?_) ?_ ?_
           rotate_left
           ·show Act.put _ (some 31) _ = _
            simp only [Act.put, List.setIfInBounds_toArray, List.set_cons_zero, List.set_cons_succ, i64_w, i32_w]
            rfl
           refine pure_ (i := 6) (N := some 32) (v := ?_) (a' := ?_) #[true, true, true, true, true, true, true] rfl rfl (by kernel_rfl) (fun _ _ _ h => h) (Or.inl ⟨by rfl, ?_⟩) ?_ ?_
           rotate_left
           ·intro w'
            go_simp
            with_reducible rfl
           rotate_left
           ·simp only [Act.put, List.setIfInBounds_toArray, List.set_cons_zero, List.set_cons_succ, i64_w, i32_w]
            rfl
           refine done_ (by kernel_rfl) ?_
           try go_wp2
           go_roundg k2
           case measure => have := HJ2.out; have := HK2.out; omega
           case rel => exact ⟨(wrap64 (x7_2 + 24)), q4_, H', ⟨by have := HJ2.out; have := HK2.out; omega⟩, ⟨by repeat (first | (with_reducible first | exact HB.out | apply below_alloc | apply pw_below_drewN | apply below_drew1) | exact HB.out)⟩⟩
         ·rw [if_neg c11] at H
          exact absurd H (by simp)
        ·rw [if_neg c10] at H
         exact absurd H (by simp)
       ·rw [if_neg c9] at H
        exact absurd H (by simp)
      ·rw [if_neg c8] at H
       have c8b0 : decide ((wrap64 (x7_2 + 24)) ≤ (wrap64 ((wrap64 (a1 + 1)) * 96))) = false := decide_eq_false c8
       clear c8
       simp only [Option.some.injEq, Prod.mk.injEq] at H
       obtain ⟨rfl, rfl, rfl⟩ := H
       go_wp2
       go_ret3
       exact ⟨by first | rfl | (simp [errW_none, errW_some] <;> rfl) | (simp [*, errW_none, errW_some] <;> rfl), by repeat (first | (with_reducible first | exact HB.out | apply below_alloc | apply pw_below_drewN | apply below_drew1) | exact HB.out)⟩
end Go.Proofs.Ytjihlabmddfjhaa.PAll

/- Plain facts: the records of a flash, by the program and by the reference: the same; the first free place; no memory in sight. -/
set_option linter.unnecessarySimpa false
set_option linter.unusedSimpArgs false
set_option linter.unusedVariables false
namespace Go.Proofs.Ytjihlabmddfjhaa.M
open Go.RowKit Go.Proofs.YtjihlabmddfjhaaW.PrintWords Go.Proofs.YtjihlabmddfjhaaW.PrintLast Go.Proofs.YtjihlabmddfjhaaW.PrintMore Go.Proofs.Ytjihlabmddfjhaa.Hand Go.Proofs.Ytjihlabmddfjhaa.PAll
/-- The bytes of place j. -/
def pl (f : ByteArray) (j : Nat) : ByteArray := f.extract (24 * j) (24 * j + 24)
/-- What is told of one place. -/
def told (j : Nat) (g : Int × Int × Int × Int × Int) : List S59 := if g.2.2.2.2 = 0 then [⟨24 * (j : Int), ⟨g.1, g.2.1, g.2.2.1, g.2.2.2.1⟩⟩] else []
def scanL (f : ByteArray) : Nat → List S59
 | 0 => []
 | n + 1 => scanL f n ++ told n (getV (pl f n))
def scanV (f : ByteArray) : List S59 × Int := if f.size = 768 then (scanL f 8, 0) else ([], 500)
theorem told_length (j : Nat) (g : Int × Int × Int × Int × Int) : (told j g).length ≤ 1 := by unfold told; split <;> simp
theorem scanL_length (f : ByteArray) (n : Nat) : (scanL f n).length ≤ n := by
 induction n with
 | zero => simp [scanL]
 | succ n ih => have := told_length n (getV (pl f n)); simp only [scanL, List.length_append]; omega
theorem at_eq (f : ByteArray) (j : Nat) (hf : f.size = 768) (hj : j < 8) (a : Int) (ha : a = 24 * (j : Int)) : journal_at.f f a = some (pl f j) := by
 subst ha
 unfold journal_at.f
 have w : wrap64 (24 * (j : Int) + 24) = 24 * (j : Int) + 24 := wrap_id (by omega)
 rw [w, if_pos (by omega), if_pos (by omega), if_pos (by omega)]
 congr 2 <;> omega
theorem scan_go (f : ByteArray) (hf : f.size = 768) (d : Nat) : ∀ (j : Nat), j + d = 8 → Ev (fun k => journal_Scan.l0 k f (scanL f j) (j : Int)) (scanL f 8, 0) := by
 induction d with
 | zero =>
  intro j hj
  obtain rfl : j = 8 := by omega
  exact Ev.one fun k => by rw [journal_Scan.l0, if_neg (by omega)]
 | succ d ih =>
  intro j hj
  have h1 := ih (j + 1) (by omega)
  have w : wrap64 ((j : Int) + 1) = ((j + 1 : Nat) : Int) := by rw [wrap_id (by omega)]; omega
  refine Ev.step (f := fun k => (entry_Get.f k (pl f j)).bind fun bt339 => (if bt339.2.2.2.2 = 0 then (if (scanL f j).length < 3518437208883 then (journal_Scan.l0 k f (scanL f j ++ [(⟨24 * (j : Int), (⟨bt339.1, bt339.2.1, bt339.2.2.1, bt339.2.2.2.1⟩ : S25)⟩ : S59)]) ((j + 1 : Nat) : Int)) else (none)) else (journal_Scan.l0 k f (scanL f j) ((j + 1 : Nat) : Int)))) (fun k => ?_) ?_
  ·rw [journal_Scan.l0, if_pos (by omega), at_eq f j hf (by omega) _ (by rw [wrap_id (by omega)]; omega), Option.bind_some, w, wrap_id (x := (j : Int) * 24) (by omega), Int.mul_comm (j : Int) 24]
  ·refine Ev.bind (Get_ev (pl f j)) ?_
   have hl := scanL_length f j
   unfold scanL told at h1
   by_cases c : (getV (pl f j)).2.2.2.2 = 0
   ·rw [if_pos c] at h1
    simp only [if_pos c, if_pos (show (scanL f j).length < 3518437208883 by omega)]
    exact h1
   ·rw [if_neg c, List.append_nil] at h1
    simp only [if_neg c]
    exact h1
theorem Scan_ev (f : ByteArray) : Ev (fun k => journal_Scan.f k f) (scanV f) := by
 unfold journal_Scan.f scanV nor_May.f
 by_cases h : f.size = 768
 ·have e : ((f.size : Int) == 768) = true := by simp; omega
  simp only [Option.bind_some, e, if_true, if_pos h]
  exact scan_go f h 8 0 rfl
 ·have e : ((f.size : Int) == 768) = false := by simp; omega
  simp only [Option.bind_some, e, if_neg h]
  exact Ev.now _
theorem rscan_go (f : ByteArray) (hf : f.size = 768) (s : Nat) (hs : s < 2) (r : List S59 × Int) (hn : Ev (fun k => skiffref1_Scan.l0 k f (scanL f (4 * s + 4)) ((s + 1 : Nat) : Int)) r) (d : Nat) :
  ∀ (j : Nat), j + d = 4 * s + 4 → 4 * s ≤ j → Ev (fun k => skiffref1_Scan.l1 k f (scanL f j) (s : Int) (24 * (j : Int))) r := by
 have w1 : wrap64 ((s : Int) + 1) = ((s + 1 : Nat) : Int) := by rw [wrap_id (by omega)]; omega
 have w2 : wrap64 (((s + 1 : Nat) : Int) * 96) = 96 * (s : Int) + 96 := by rw [wrap_id (by omega)]; omega
 induction d with
 | zero =>
  intro j hj _
  obtain rfl : j = 4 * s + 4 := by omega
  refine Ev.step (fun k => ?_) hn
  rw [skiffref1_Scan.l1, w1, w2, if_neg (by rw [wrap_id (by omega)]; omega)]
 | succ d ih =>
  intro j hj h4
  have h1 := ih (j + 1) (by omega) (by omega)
  have w : wrap64 (24 * (j : Int) + 24) = 24 * ((j + 1 : Nat) : Int) := by rw [wrap_id (by omega)]; omega
  refine Ev.step (f := fun k => (skiffref1_GetEntry.f k (pl f j)).bind fun bt361 => (if bt361.2.2.2.2 = 0 then (if (scanL f j).length < 3518437208883 then (skiffref1_Scan.l1 k f (scanL f j ++ [(⟨24 * (j : Int), (⟨bt361.1, bt361.2.1, bt361.2.2.1, bt361.2.2.2.1⟩ : S25)⟩ : S59)]) (s : Int) (24 * ((j + 1 : Nat) : Int))) else (none)) else (skiffref1_Scan.l1 k f (scanL f j) (s : Int) (24 * ((j + 1 : Nat) : Int))))) (fun k => ?_) ?_
  ·rw [skiffref1_Scan.l1, w1, w2, w, if_pos (by omega), if_pos (by omega), if_pos (by omega), if_pos (by omega), show f.extract (24 * (j : Int)).toNat (24 * ((j + 1 : Nat) : Int)).toNat = pl f j by unfold pl; congr 1 <;> omega]
  ·refine Ev.bind (GetEntry_ev (pl f j)) ?_
   have hl := scanL_length f j
   unfold scanL told at h1
   by_cases c : (getV (pl f j)).2.2.2.2 = 0
   ·rw [if_pos c] at h1
    simp only [if_pos c, if_pos (show (scanL f j).length < 3518437208883 by omega)]
    exact h1
   ·rw [if_neg c, List.append_nil] at h1
    simp only [if_neg c]
    exact h1
theorem rscan_all (f : ByteArray) (hf : f.size = 768) : Ev (fun k => skiffref1_Scan.l0 k f [] 0) (scanL f 8, 0) := by
 have e2 : Ev (fun k => skiffref1_Scan.l0 k f (scanL f 8) ((2 : Nat) : Int)) (scanL f 8, 0) := Ev.one fun k => by rw [skiffref1_Scan.l0, if_neg (by omega)]
 have e1 : Ev (fun k => skiffref1_Scan.l0 k f (scanL f 4) ((1 : Nat) : Int)) (scanL f 8, 0) :=
  Ev.step (fun k => by rw [skiffref1_Scan.l0, if_pos (by omega), show wrap64 (((1 : Nat) : Int) * 96) = 24 * ((4 : Nat) : Int) by unfold wrap64; omega]) (rscan_go f hf 1 (by omega) _ e2 4 4 (by omega) (by omega))
 exact Ev.step (fun k => by rw [skiffref1_Scan.l0, if_pos (by omega), show wrap64 ((0 : Int) * 96) = 24 * ((0 : Nat) : Int) by unfold wrap64; omega]; rfl) (rscan_go f hf 0 (by omega) _ e1 4 0 (by omega) (by omega))
theorem ref_Scan_ev (f : ByteArray) : Ev (fun k => skiffref1_Scan.f k f) (scanV f) := by
 unfold skiffref1_Scan.f scanV skiffref1_FlashMay.f
 by_cases h : f.size = 768
 ·have e : ((f.size : Int) == 768) = true := by simp; omega
  simp only [Option.bind_some, e, if_true, if_pos h]
  exact rscan_all f h
 ·have e : ((f.size : Int) == 768) = false := by simp; omega
  simp only [Option.bind_some, e, if_neg h]
  exact Ev.now _
/-- The first place from j on, of n, that is blank. -/
def freeL (f : ByteArray) (j : Nat) : Nat → Int × Bool × Int
 | 0 => (0, false, 0)
 | n + 1 => if pl f j = ff 24 then (24 * (j : Int), true, 0) else freeL f (j + 1) n
def freeV (f : ByteArray) (s : Int) : Int × Bool × Int := if f.size = 768 ∧ 0 ≤ s ∧ s < 2 then freeL f (4 * s.toNat) 4 else (0, false, 500)
theorem rfree_go (f : ByteArray) (hf : f.size = 768) (s : Nat) (hs : s < 2) (n : Nat) : ∀ (j : Nat), j + n = 4 * s + 4 → Ev (fun k => skiffref1_FreePlace.l0 k f (s : Int) (24 * (j : Int))) (freeL f j n) := by
 have w1 : wrap64 ((s : Int) + 1) = ((s + 1 : Nat) : Int) := by rw [wrap_id (by omega)]; omega
 have w2 : wrap64 (((s + 1 : Nat) : Int) * 96) = 96 * (s : Int) + 96 := by rw [wrap_id (by omega)]; omega
 induction n with
 | zero =>
  intro j hj
  obtain rfl : j = 4 * s + 4 := by omega
  exact Ev.one fun k => by rw [skiffref1_FreePlace.l0, w1, w2, if_neg (by rw [wrap_id (by omega)]; omega)]; rfl
 | succ n ih =>
  intro j hj
  have h1 := ih (j + 1) (by omega)
  have w : wrap64 (24 * (j : Int) + 24) = 24 * ((j + 1 : Nat) : Int) := by rw [wrap_id (by omega)]; omega
  refine Ev.step (f := fun k => (skiffref1_full.f k 24).bind fun t405 => (if (pl f j).toList = t405.toList then (some (24 * (j : Int), true, 0)) else (skiffref1_FreePlace.l0 k f (s : Int) (24 * ((j + 1 : Nat) : Int))))) (fun k => ?_) ?_
  ·rw [skiffref1_FreePlace.l0, w1, w2, w, if_pos (by omega), if_pos (by omega), if_pos (by omega), if_pos (by omega), show f.extract (24 * (j : Int)).toNat (24 * ((j + 1 : Nat) : Int)).toNat = pl f j by unfold pl; congr 1 <;> omega]
  ·refine Ev.bind (full_ev 24 (by omega) (by omega)) ?_
   unfold freeL
   by_cases c : pl f j = ff 24
   ·have e : (pl f j).toList = (ff (24 : Int).toNat).toList := by rw [c]; rfl
    simp only [if_pos c, if_pos e]; exact Ev.now _
   ·have e : ¬ (pl f j).toList = (ff (24 : Int).toNat).toList := fun x => c (toList_inj.1 x)
    simp only [if_neg c, if_neg e]; exact h1
theorem ref_Free_ev (f : ByteArray) (s : Int) : Ev (fun k => skiffref1_FreePlace.f k f s) (freeV f s) := by
 have no : Ev (fun k => skiffref1_FreePlace.j0 k f s true) (0, false, 500) := Ev.one fun k => by rw [skiffref1_FreePlace.j0, if_pos rfl]
 unfold skiffref1_FreePlace.f freeV skiffref1_FlashMay.f
 by_cases h : f.size = 768
 ·have e : ((f.size : Int) == 768) = true := by simp; omega
  simp only [Option.bind_some, e, if_true, upTo_eq]
  by_cases h1 : 0 ≤ s ∧ s ≤ 1
  ·rw [if_pos (by omega), decide_eq_true h1]
   obtain ⟨n, rfl⟩ := Int.eq_ofNat_of_zero_le h1.1
   exact Ev.step (fun k => by rw [skiffref1_FreePlace.j0, if_neg (by decide), wrap_id (x := (n : Int) * 96) (by omega), show (n : Int) * 96 = 24 * ((4 * n : Nat) : Int) by omega]) (rfree_go f h n (by omega) 4 (4 * n) rfl)
  ·rw [if_neg (by omega), decide_eq_false h1]
   exact no
 ·have e : ((f.size : Int) == 768) = false := by simp; omega
  simp only [Option.bind_some, e]
  rw [if_neg (by omega)]
  exact no
end Go.Proofs.Ytjihlabmddfjhaa.M

/- Plain facts: a text in words, by the program and by the reference: the same; no memory in sight. -/
set_option linter.unnecessarySimpa false
set_option linter.unusedSimpArgs false
set_option linter.unusedVariables false
namespace Go.Proofs.Ytjihlabmddfjhaa.M
open Go.RowKit Go.Proofs.YtjihlabmddfjhaaW.PrintWords Go.Proofs.YtjihlabmddfjhaaW.PrintLast Go.Proofs.YtjihlabmddfjhaaW.PrintMore Go.Proofs.Ytjihlabmddfjhaa.Hand Go.Proofs.Ytjihlabmddfjhaa.PAll
/-- Word i of a text: its four bytes from 4 i on, the last ones 255. -/
def wordAt (t : ByteArray) (i : Nat) : ByteArray := t.extract (4 * i) (4 * i + 4) ++ ff (4 - (t.size - 4 * i))
def many (t : ByteArray) : Nat := (t.size + 3) / 4
/-- A text in words. -/
def wl (a : Int) (t : ByteArray) (n : Nat) : List S35 := (List.range n).map fun (i : Nat) => (⟨false, a + 4 * (i : Int), wordAt t i⟩ : S35)
theorem wl_succ (a : Int) (t : ByteArray) (n : Nat) : wl a t (n + 1) = wl a t n ++ [⟨false, a + 4 * (n : Int), wordAt t n⟩] := by
 unfold wl; rw [List.range_succ, List.map_append]; rfl
theorem wl_length (a : Int) (t : ByteArray) (n : Nat) : (wl a t n).length = n := by simp [wl]
theorem wl_rd (a : Int) (t : ByteArray) (n i : Nat) (h : i < n) : rd_T35 (wl a t n) i = ⟨false, a + 4 * (i : Int), wordAt t i⟩ := by
 unfold rd_T35 wl
 simp [List.getD_eq_getElem?_getD, h]
theorem wordAt_size (t : ByteArray) (i : Nat) (h : 4 * i < t.size) : (wordAt t i).size = 4 := by
 unfold wordAt; rw [ByteArray.size_append, ByteArray.size_extract, ff_size]; omega
theorem wordAt_bt (t : ByteArray) (i j : Nat) (h : 4 * i < t.size) (hj : j < 4) : bt (wordAt t i) j = if 4 * i + j < t.size then bt t ((4 * i + j : Nat) : Int) else 255 := by
 have s1 : (t.extract (4 * i) (4 * i + 4)).size = min (4 * i + 4) t.size - 4 * i := by rw [ByteArray.size_extract]
 unfold wordAt
 rw [bt_append, s1]
 by_cases c : 4 * i + j < t.size
 ·rw [if_pos (by omega), if_pos c, bt_extract _ _ _ _ (by omega)]
 ·rw [if_neg (by omega), if_neg c, ff_bt _ _ (by omega)]
def wordsOk (a : Int) (t : ByteArray) : Prop := 0 ≤ a ∧ a ≤ 768 ∧ a % 4 = 0 ∧ (t.size : Int) ≤ 768 - a
instance (a : Int) (t : ByteArray) : Decidable (wordsOk a t) := by unfold wordsOk; exact inferInstance
def wordsV (a : Int) (t : ByteArray) : List S35 × Int := if wordsOk a t then (wl a t (many t), 0) else ([], 300)
theorem refwords_go (a : Int) (t u : ByteArray) (h0 : 0 ≤ a) (h1 : a ≤ 768) (ht : t.size ≤ 768) (hu : u.size = 4 * many t) (hut : ∀ i, i < many t → u.extract (4 * i) (4 * i + 4) = wordAt t i) (d : Nat) : ∀ (k i : Nat), i ≤ many t → many t - i = d → d < k →
  skiffref1_Words.l0 k a u (wl a t i) (4 * (i : Int)) = some (wl a t (many t), 0) := by
 have hmt : many t ≤ 192 := by unfold many; omega
 induction d with
 | zero =>
  intro k i hi hd hk
  obtain ⟨k, rfl⟩ : ∃ m, k = m + 1 := ⟨k - 1, by omega⟩
  obtain rfl : i = many t := by omega
  simp only [skiffref1_Words.l0]
  rw [if_neg (by omega)]
 | succ d ih =>
  intro k i hi hd hk
  obtain ⟨k, rfl⟩ : ∃ m, k = m + 1 := ⟨k - 1, by omega⟩
  simp only [skiffref1_Words.l0]
  have hw : wrap64 (4 * (i : Int) + 4) = 4 * (i : Int) + 4 := wrap_id (by omega)
  have hw2 : wrap64 (a + 4 * (i : Int)) = a + 4 * (i : Int) := wrap_id (by omega)
  rw [if_pos (by omega), if_pos (by omega), hw, hw2, if_pos (by omega), if_pos (by omega), if_pos (by rw [wl_length]; omega)]
  rw [show (4 * (i : Int)).toNat = 4 * i by omega, show (4 * (i : Int) + 4).toNat = 4 * i + 4 by omega, hut i (by omega)]
  have := ih k (i + 1) (by omega) (by omega) (by omega)
  rw [wl_succ, show 4 * ((i + 1 : Nat) : Int) = 4 * (i : Int) + 4 by omega] at this
  exact this
theorem ref_Words_no (a : Int) (t : ByteArray) : Ev (fun k => skiffref1_Words.j0 k a t true) ([], 300) := Ev.one fun k => by simp only [skiffref1_Words.j0, if_true]
theorem ref_Words_ev (a : Int) (t : ByteArray) (ha : I64 a) (ht : t.size ≤ 140737488351232) : Ev (fun k => skiffref1_Words.f k a t) (wordsV a t) := by
 unfold skiffref1_Words.f wordsV
 simp only [upTo_eq, Option.bind_some]
 by_cases h0 : 0 ≤ a ∧ a ≤ 768
 ·have e0 : decide (0 ≤ a ∧ a ≤ 768) = true := decide_eq_true h0
  simp only [e0, if_true]
  have hm : Int.tmod a 4 = a % 4 := Int.tmod_eq_emod_of_nonneg (by omega)
  simp only [hm]
  by_cases h2 : a % 4 = 0
  ·simp only [if_pos h2]
   have hw : wrap64 (768 - a) = 768 - a := wrap_id (by omega)
   simp only [hw]
   by_cases h3 : (t.size : Int) > 768 - a
   ·have e3 : decide ((t.size : Int) > 768 - a) = true := decide_eq_true h3
    simp only [e3]
    rw [if_neg (by unfold wordsOk; omega)]
    exact ref_Words_no a t
   ·have e3 : decide ((t.size : Int) > 768 - a) = false := decide_eq_false h3
    simp only [e3]
    rw [if_pos ⟨by omega, by omega, h2, by omega⟩]
    refine Ev.step (f := fun k => (skiffref1_full.f k ((4 - ((t.size : Int) % 4)) % 4)).bind fun t150 => (if t.size + t150.size ≤ 9223372036854775807 then (skiffref1_Words.l0 k a (t ++ t150) ([] : List (S35)) 0) else (none))) (fun k => by simp only [skiffref1_Words.j0, Bool.false_eq_true, if_false]) ?_
    refine Ev.bind (full_ev _ (by omega) (by omega)) ?_
    obtain ⟨p, hp⟩ : ∃ p : Nat, ((4 - ((t.size : Int) % 4)) % 4).toNat = p := ⟨_, rfl⟩
    rw [hp]
    have hpm : t.size + p = 4 * many t := by unfold many; omega
    simp only [ff_size, if_pos (show t.size + p ≤ 9223372036854775807 by omega)]
    refine Ev.of (fun k => (skiffref1_Words.mono_l k).2 _ _ _ _) (k := many t + 1) ?_
    have hu : (t ++ ff p).size = 4 * many t := by rw [ByteArray.size_append, ff_size]; omega
    have := refwords_go a t (t ++ ff p) (by omega) (by omega) (by omega) hu (fun i hi => ?_) (many t) (many t + 1) 0 (by omega) (by omega) (by omega)
    ·simpa [wl] using this
    ·have hlt : 4 * i < t.size := by unfold many at hi; omega
     apply bt_ext
     ·rw [wordAt_size t i hlt, ByteArray.size_extract, hu]; omega
     ·intro j hj
      rw [ByteArray.size_extract, hu] at hj
      rw [wordAt_bt t i j hlt (by omega), bt_extract _ _ _ _ (by omega), bt_append]
      by_cases c : 4 * i + j < t.size
      ·rw [if_pos c, if_pos c]
      ·rw [if_neg c, if_neg c, ff_bt _ _ (by omega)]
  ·simp only [if_neg h2]
   rw [if_neg (by unfold wordsOk; omega)]
   exact ref_Words_no a t
 ·have e0 : decide (0 ≤ a ∧ a ≤ 768) = false := decide_eq_false h0
  simp only [e0, Bool.false_eq_true, if_false]
  rw [if_neg (by unfold wordsOk; omega)]
  exact ref_Words_no a t
end Go.Proofs.Ytjihlabmddfjhaa.M

-- Written by this session's own program (wip/tools/myprint.py), which runs the kit's print over functions proved by hand.
namespace Go.Proofs.Ytjihlabmddfjhaa.PAll
open Go.RowKit Go.Proofs.YtjihlabmddfjhaaW.PrintWords Go.Proofs.YtjihlabmddfjhaaW.PrintLast Go.Proofs.YtjihlabmddfjhaaW.PrintMore
attribute [local go_sem] max2_int min2_int max_two min_two max_three min_three max_four min_four   -- for this text's walks alone
set_option linter.unusedVariables false
set_option linter.unusedSimpArgs false
theorem eqA25 (d : Nat) (w : World) (x0 y0 : Int) (x1 y1 : Int) (x2 y2 : Int) (x3 y3 : Int) :
  (Op.equalIn (d + 2) 25 (.agg #[.int .i64 x0, .int .i64 x1, .int .i64 x2, .int .i64 x3]) (.agg #[.int .i64 y0, .int .i64 y1, .int .i64 y2, .int .i64 y3])).run Try.prog w = .ok (x0 == y0 && (x1 == y1 && (x2 == y2 && (x3 == y3)))) w := by
 refine eqA_of Try.underlying25 (by kernel_rfl) ?_
 refine eqf_cons (by rfl) (by go_simp; rfl) (by go_simp; rfl) (by go_simp) ?_
 refine eqf_cons (by rfl) (by go_simp; rfl) (by go_simp; rfl) (by go_simp) ?_
 refine eqf_cons (by rfl) (by go_simp; rfl) (by go_simp; rfl) (by go_simp) ?_
 exact eqf_last (by rfl) (by go_simp; rfl) (by go_simp; rfl) (by go_simp)
theorem eqA59 (d : Nat) (w : World) (x0 y0 : Int) (x1 y1 : Int) (x2 y2 : Int) (x3 y3 : Int) (x4 y4 : Int) :
  (Op.equalIn (d + 3) 59 (.agg #[.int .i64 x0, .int .i64 x1, .int .i64 x2, .int .i64 x3, .int .i64 x4]) (.agg #[.int .i64 y0, .int .i64 y1, .int .i64 y2, .int .i64 y3, .int .i64 y4])).run Try.prog w = .ok (x0 == y0 && ((x1 == y1 && (x2 == y2 && (x3 == y3 && (x4 == y4)))))) w := by
 refine eqA_of Try.underlying59 (by kernel_rfl) ?_
 refine eqf_cons (by rfl) (by go_simp; rfl) (by go_simp; rfl) (by go_simp) ?_
 exact eqf_last (by rfl) (by go_simp) (by go_simp) (eqA25 (d + 0) w _ _ _ _ _ _ _ _)
end Go.Proofs.Ytjihlabmddfjhaa.PAll

-- Written by this session's own program (wip/tools/myprint.py), which runs the kit's print over functions proved by hand.
namespace Go.Proofs.Ytjihlabmddfjhaa.PAll
open Go.RowKit Go.Proofs.YtjihlabmddfjhaaW.PrintWords Go.Proofs.YtjihlabmddfjhaaW.PrintLast Go.Proofs.YtjihlabmddfjhaaW.PrintMore
attribute [local go_sem] max2_int min2_int max_two min_two max_three min_three max_four min_four   -- for this text's walks alone
set_option linter.unusedVariables false
set_option linter.unusedSimpArgs false
attribute [local go_sem high] eqA59
mutual
def skiffref1_Append.j0 : Nat → ByteArray → ByteArray → Bool → Option ((List (S35)) × Int)
 | 0, _, _, _ => none
 | k + 1, x0, x6, x27 => if x27 = true then (some (([] : List (S35)), 800)) else ((skiffref1_Active.f k x0).bind fun bt410 => (if bt410.2.2.2.2.2 = 0 then (skiffref1_Append.j1 k x0 x6 (wrap64 (Int.tdiv bt410.1 96))) else (skiffref1_Append.j1 k x0 x6 0)))
def skiffref1_Append.j1 : Nat → ByteArray → ByteArray → Int → Option ((List (S35)) × Int)
 | 0, _, _, _ => none
 | k + 1, x0, x6, x8 => (skiffref1_FreePlace.f k x0 x8).bind fun bt417 => (if bt417.2.1 = true then ((skiffref1_Words.f k bt417.1 x6).bind fun bt420 => (if ([] : List (S35)).length + bt420.1.length < 4398046511104 then (some ((([] : List (S35)) ++ bt420.1), 0)) else (none))) else (if ([] : List (S35)).length < 4398046511104 then ((some (([] : List (S35)) ++ [(⟨true, wrap64 ((wrap64 (1 - x8)) * 96), (⟨#[]⟩ : ByteArray)⟩ : S35)] : List (S35))).bind fun y427 => ((skiffref1_Words.f k (wrap64 ((wrap64 (1 - x8)) * 96)) x6).bind fun bt430 => (if y427.length + bt430.1.length < 4398046511104 then (some ((y427 ++ bt430.1), 0)) else (none)))) else (none)))
end
def skiffref1_Append.f (k : Nat) (a0 : ByteArray) (a1_0 : Int) (a1_1 : Int) (a1_2 : Int) (a1_3 : Int) : Option ((List (S35)) × Int) := (Hand.skiffref1_PutEntry.f k a1_0 a1_1 a1_2 a1_3).bind fun bt407 => ((skiffref1_FlashMay.f a0).bind fun t409 => (if t409 = true then (skiffref1_Append.j0 k a0 bt407.1 (bt407.2 != 0)) else (skiffref1_Append.j0 k a0 bt407.1 true)))
set_option maxHeartbeats 8000000 in
set_option maxRecDepth 100000 in
theorem skiffref1_Append.calls (k : Nat) (a0 : ByteArray) (a1_0 : Int) (a1_1 : Int) (a1_2 : Int) (a1_3 : Int) (r1 : List (S35)) (r2 : Int) (w : World) (h : skiffref1_Append.f k a0 a1_0 a1_1 a1_2 a1_3 = some (r1, r2)) :
  Calls Try.prog 41 #[.string a0, .agg #[.int .i64 a1_0, .int .i64 a1_1, .int .i64 a1_2, .int .i64 a1_3]] w fun e w' => ∃ v0_ : Value, e = .returned (.tuple #[v0_, .int .i64 r2]) ∧ Kd.R k35 35 w' w.heap.size (fun _ => True) v0_ r1 ∧ Below w.heap.size w w' := by
 have hu25 := Try.underlying25
 have hu59 := Try.underlying59
 have hu35 := Try.underlying35
 have HB := Aside0.mk (Below.refl w.heap.size w)
 have H : ((Hand.skiffref1_PutEntry.f k a1_0 a1_1 a1_2 a1_3).bind fun bt407 => ((skiffref1_FlashMay.f a0).bind fun t409 => (if t409 = true then (skiffref1_Append.j0 k a0 bt407.1 (bt407.2 != 0)) else (skiffref1_Append.j0 k a0 bt407.1 true)))) = some (r1, r2) := h
 clear h
 replace H := Option.bind_eq_some_iff.mp H
 obtain ⟨⟨t407, t408⟩, A30, H⟩ := H
 replace H : ((skiffref1_FlashMay.f a0).bind fun t409 => (if t409 = true then (skiffref1_Append.j0 k a0 t407 (t408 != 0)) else (skiffref1_Append.j0 k a0 t407 true))) = some (r1, r2) := H
 have A3 := Aside0.mk A30
 clear A30
 have HC4 := Aside0.mk H
 clear H
 go_enter Try.func41, Try.ntmps41
 go_upto_region 2 with (first | ((with_reducible refine gate_dst (N := 3) rfl ?_); refine box_event ?hg (N := 3) ?hd (cs := #[.int .i64 a1_0, .int .i64 a1_1, .int .i64 a1_2, .int .i64 a1_3]) (t := 25) ?hr ?_; (case hd => rfl); (case hg => rfl); (case hr => first | (go_simp; done) | (go_simp; rfl)); intro gb406 hg w5 hbox hb; have n0_ := Aside0.mk (below_step q2_ hb); have n1_ := Aside0.mk (hbox); have n2_ := Aside0.mk ((by rw [hg]; exact (below_size q2_) : w.heap.size ≤ gb406)); have n3_ := Aside0.mk ((by rw [hg]; exact (below_size q2_) : w.heap.size ≤ gb406)); clear HB; have HB := n0_; have BK406 := n1_; have GW406 := n2_; have GE406 := n3_; clear n0_ n1_ n2_ n3_; clear hb hbox hg; have hcz6_0 : w5.cell? ⟨gb406, 0, none⟩ = some (.int .i64 a1_0) := (blk_cell BK406.out 0).trans rfl; have hcz6_1 : w5.cell? ⟨gb406, 1, none⟩ = some (.int .i64 a1_1) := (blk_cell BK406.out 1).trans rfl; have hcz6_2 : w5.cell? ⟨gb406, 2, none⟩ = some (.int .i64 a1_2) := (blk_cell BK406.out 2).trans rfl; have hcz6_3 : w5.cell? ⟨gb406, 3, none⟩ = some (.int .i64 a1_3) := (blk_cell BK406.out 3).trans rfl; have hfz6_0 := blk_frozen BK406.out 0; have hfz6_1 := blk_frozen BK406.out 1; have hfz6_2 := blk_frozen BK406.out 2; have hfz6_3 := blk_frozen BK406.out 3) | ((with_reducible refine gate_callee (f := 29) rfl ?_); refine goesL_ (some 18) rfl rfl Try.func29 (by kernel_rfl) rfl #[.agg #[.int .i64 a1_0, .int .i64 a1_1, .int .i64 a1_2, .int .i64 a1_3]] rfl q1_ ?_; (with_reducible refine (Hand.skiffref1_PutEntry.calls k a1_0 a1_1 a1_2 a1_3 t407 t408 _ A3.out).mono ?_); rintro e w7 ⟨rfl, hb⟩; refine ⟨_, rfl, ?_⟩; have n0_ := Aside0.mk (blk_below (g := gb406) (o := .cells #[.int .i64 a1_0, .int .i64 a1_1, .int .i64 a1_2, .int .i64 a1_3] 25 (0, 0)) (by (with_reducible repeat (first | refine blk_drewN ?_ _ | refine blk_drew ?_ | refine blk_alloc ?_ _)); exact BK406.out) hb); have n1_ := Aside0.mk (below_step (by repeat (first | (with_reducible first | exact HB.out | apply below_alloc | apply pw_below_drewN | apply below_drew1 | refine below_set ?_ GE406.out) | exact HB.out)) hb); clear BK406; clear HB; have BK406 := n0_; have HB := n1_; clear n0_ n1_; (try clear hb); (try clear hb2); (try clear hk); (try clear hi)))
 (try simp only [Act.put, List.setIfInBounds_toArray, List.set_cons_zero, List.set_cons_succ])
 go_cut [27] (fun v27 wc => ∃ (kq : Nat) (x27_3 : Bool), v27 = .bool x27_3 ∧ Aside0 (skiffref1_Append.j0 kq a0 t407 x27_3 = some (r1, r2)) ∧ Aside0 (kq ≤ k) ∧ Aside0 (wc.heap[gb406]? = some (.cells #[.int .i64 a1_0, .int .i64 a1_1, .int .i64 a1_2, .int .i64 a1_3] 25 (0, 0))) ∧ Aside0 (Below w.heap.size w wc))
 case first =>
  have H := HC4.out
  clear HC4
  replace H := Option.bind_eq_some_iff.mp H
  obtain ⟨t409, A80, H⟩ := H
  replace H : (if t409 = true then (skiffref1_Append.j0 k a0 t407 (t408 != 0)) else (skiffref1_Append.j0 k a0 t407 true)) = some (r1, r2) := H
  have A8 := Aside0.mk A80
  clear A80
  by_cases c9 : t409 = true
  ·subst c9
   have H1 : (skiffref1_Append.j0 k a0 t407 (t408 != 0)) = some (r1, r2) := by rw [if_pos rfl] at H; exact H
   clear H
   have H := H1
   clear H1
   have H' := Aside0.mk H
   clear H
   go_wp2_with (first | ((with_reducible refine gate_callee (f := 48) rfl ?_); refine goesL_ (some 22) rfl rfl Try.func48 (by kernel_rfl) rfl #[.string a0] rfl q1_ ?_; (with_reducible refine (skiffref1_FlashMay.calls a0 true _ A8.out).mono ?_); rintro e w' ⟨rfl, ⟨nd, rfl⟩⟩; refine ⟨_, rfl, ?_⟩))
   go_meet
   case rel => exact ⟨_, ((t408 != 0)), q4_, H', ⟨by first | omega | exact Nat.le_refl _⟩, ⟨by (with_reducible repeat (first | refine blk_drewN ?_ _ | refine blk_drew ?_ | refine blk_alloc ?_ _)); exact BK406.out⟩, ⟨by repeat (first | (with_reducible first | exact HB.out | apply below_alloc | apply pw_below_drewN | apply below_drew1 | refine below_set ?_ GE406.out) | exact HB.out)⟩⟩
  ·replace c9 := Bool.eq_false_iff.mpr c9
   subst c9
   have H1 : (skiffref1_Append.j0 k a0 t407 true) = some (r1, r2) := by rw [if_neg (show ¬ (false = true) by decide)] at H; exact H
   clear H
   have H := H1
   clear H1
   have H' := Aside0.mk H
   clear H
   go_wp2_with (first | ((with_reducible refine gate_callee (f := 48) rfl ?_); refine goesL_ (some 22) rfl rfl Try.func48 (by kernel_rfl) rfl #[.string a0] rfl q1_ ?_; (with_reducible refine (skiffref1_FlashMay.calls a0 false _ A8.out).mono ?_); rintro e w' ⟨rfl, ⟨nd, rfl⟩⟩; refine ⟨_, rfl, ?_⟩))
   go_meet
   case rel => exact ⟨_, (true), q4_, H', ⟨by first | omega | exact Nat.le_refl _⟩, ⟨by (with_reducible repeat (first | refine blk_drewN ?_ _ | refine blk_drew ?_ | refine blk_alloc ?_ _)); exact BK406.out⟩, ⟨by repeat (first | (with_reducible first | exact HB.out | apply below_alloc | apply pw_below_drewN | apply below_drew1 | refine below_set ?_ GE406.out) | exact HB.out)⟩⟩
 case rest =>
  clear HC4
  try clear c2
  try clear p2
  try clear c4
  try clear c9
  try clear hcz6_0
  try clear hcz6_1
  try clear hcz6_2
  try clear hcz6_3
  try clear hfz6_0
  try clear hfz6_1
  try clear hfz6_2
  try clear hfz6_3
  obtain ⟨kq, x27_3, rfl, HA, HJ3, BK406, HB⟩ := hcut
  cases kq with
  | zero => exact absurd HA.out (by simp [skiffref1_Append.j0])
  | succ kj3 =>
   have H := HA.out
   clear HA
   simp only [skiffref1_Append.j0] at H
   by_cases c10 : x27_3 = true
   ·subst c10
    have H1 : (some (([] : List (S35)), 800)) = some (r1, r2) := by rw [if_pos rfl] at H; exact H
    clear H
    have H := H1
    clear H1
    simp only [Option.some.injEq, Prod.mk.injEq] at H
    obtain ⟨rfl, rfl⟩ := H
    go_wp2
    go_ret2
    exact ⟨_, by first | rfl | (simp [errW_none, errW_some] <;> rfl) | (simp [*, errW_none, errW_some] <;> rfl), by first | exact Kd.R_nil _ _ _ _ _ | exact Kd.N_nil _ _ _ _ _ | exact Kd.V_nil _ _ _ _ _ | exact Kd.Q_nil _ _ _ _ _ | exact Kd.S_nil _ _ _ _ _, by repeat (first | (with_reducible first | exact HB.out | apply below_alloc | apply pw_below_drewN | apply below_drew1 | refine below_set ?_ GE406.out) | exact HB.out)⟩
   ·replace c10 := Bool.eq_false_iff.mpr c10
    subst c10
    have H1 : ((skiffref1_Active.f kj3 a0).bind fun bt410 => (if bt410.2.2.2.2.2 = 0 then (skiffref1_Append.j1 kj3 a0 t407 (wrap64 (Int.tdiv bt410.1 96))) else (skiffref1_Append.j1 kj3 a0 t407 0))) = some (r1, r2) := by rw [if_neg (show ¬ (false = true) by decide)] at H; exact H
    clear H
    have H := H1
    clear H1
    replace H := Option.bind_eq_some_iff.mp H
    obtain ⟨⟨t410, t411, t412, t413, t414, t415⟩, A110, H⟩ := H
    replace H : (if t415 = 0 then (skiffref1_Append.j1 kj3 a0 t407 (wrap64 (Int.tdiv t410 96))) else (skiffref1_Append.j1 kj3 a0 t407 0)) = some (r1, r2) := H
    have A11 := Aside0.mk A110
    clear A110
    have HC12 := Aside0.mk H
    clear H
    go_upto_if 34 with (first | ((with_reducible refine gate_callee (f := 64) rfl ?_); refine goesL_ (some 30) rfl rfl Try.func64 (by kernel_rfl) rfl #[.string a0] rfl q1_ ?_; (with_reducible refine (skiffref1_Active.calls kj3 a0 t410 t411 t412 t413 t414 t415 _ A11.out).mono ?_); rintro e w13 ⟨rfl, hb⟩; refine ⟨_, rfl, ?_⟩; have n0_ := Aside0.mk (blk_below (g := gb406) (o := .cells #[.int .i64 a1_0, .int .i64 a1_1, .int .i64 a1_2, .int .i64 a1_3] 25 (0, 0)) (by (with_reducible repeat (first | refine blk_drewN ?_ _ | refine blk_drew ?_ | refine blk_alloc ?_ _)); exact BK406.out) hb); have n1_ := Aside0.mk (below_step (by repeat (first | (with_reducible first | exact HB.out | apply below_alloc | apply pw_below_drewN | apply below_drew1 | refine below_set ?_ GE406.out) | exact HB.out)) hb); clear BK406; clear HB; have BK406 := n0_; have HB := n1_; clear n0_ n1_; (try clear hb); (try clear hb2); (try clear hk); (try clear hi)) | ((with_reducible refine gate_dst (N := 9) rfl ?_); refine box_event ?hg (N := 9) ?hd (cs := #[.int .i64 0, .int .i64 0, .int .i64 0, .int .i64 0, .int .i64 0]) (t := 59) ?hr ?_; (case hd => rfl); (case hg => rfl); (case hr => first | (go_simp; done) | (go_simp; rfl)); intro gb416 hg w14 hbox hb; have n0_ := Aside0.mk (blk_below (g := gb406) (o := .cells #[.int .i64 a1_0, .int .i64 a1_1, .int .i64 a1_2, .int .i64 a1_3] 25 (0, 0)) (by (with_reducible repeat (first | refine blk_drewN ?_ _ | refine blk_drew ?_ | refine blk_alloc ?_ _)); exact BK406.out) hb); have n1_ := Aside0.mk (below_step (by repeat (first | (with_reducible first | exact HB.out | apply below_alloc | apply pw_below_drewN | apply below_drew1 | refine below_set ?_ GE406.out) | exact HB.out)) hb); have n2_ := Aside0.mk (hbox); have n3_ := Aside0.mk ((by rw [hg]; exact (below_size (by repeat (first | (with_reducible first | exact HB.out | apply below_alloc | apply pw_below_drewN | apply below_drew1 | refine below_set ?_ GE406.out) | exact HB.out))) : w.heap.size ≤ gb416)); have n4_ := Aside0.mk ((by rw [hg]; exact (below_size (by repeat (first | (with_reducible first | exact HB.out | apply below_alloc | apply pw_below_drewN | apply below_drew1 | refine below_set ?_ GE406.out) | exact HB.out))) : w.heap.size ≤ gb416)); have n5_ := Aside0.mk ((by rw [hg]; exact Nat.ne_of_lt (blk_lt (g := gb406) (o := .cells #[.int .i64 a1_0, .int .i64 a1_1, .int .i64 a1_2, .int .i64 a1_3] 25 (0, 0)) (by (with_reducible repeat (first | refine blk_drewN ?_ _ | refine blk_drew ?_ | refine blk_alloc ?_ _)); exact BK406.out)) : gb406 ≠ gb416)); have n6_ := Aside0.mk ((by rw [hg]; exact Nat.ne_of_gt (blk_lt (g := gb406) (o := .cells #[.int .i64 a1_0, .int .i64 a1_1, .int .i64 a1_2, .int .i64 a1_3] 25 (0, 0)) (by (with_reducible repeat (first | refine blk_drewN ?_ _ | refine blk_drew ?_ | refine blk_alloc ?_ _)); exact BK406.out)) : gb416 ≠ gb406)); clear BK406; clear HB; have BK406 := n0_; have HB := n1_; have BK416 := n2_; have GW416 := n3_; have GE416 := n4_; have NB406_416 := n5_; have NB416_406 := n6_; clear n0_ n1_ n2_ n3_ n4_ n5_ n6_; clear hb hbox hg; have hnb15 := NB416_406.out; have hnc15 := NB406_416.out; have hcz16_0 : w14.cell? ⟨gb416, 0, none⟩ = some (.int .i64 0) := (blk_cell BK416.out 0).trans rfl; have hcz16_1 : w14.cell? ⟨gb416, 1, none⟩ = some (.int .i64 0) := (blk_cell BK416.out 1).trans rfl; have hcz16_2 : w14.cell? ⟨gb416, 2, none⟩ = some (.int .i64 0) := (blk_cell BK416.out 2).trans rfl; have hcz16_3 : w14.cell? ⟨gb416, 3, none⟩ = some (.int .i64 0) := (blk_cell BK416.out 3).trans rfl; have hcz16_4 : w14.cell? ⟨gb416, 4, none⟩ = some (.int .i64 0) := (blk_cell BK416.out 4).trans rfl; have hfz16_0 := blk_frozen BK416.out 0; have hfz16_1 := blk_frozen BK416.out 1; have hfz16_2 := blk_frozen BK416.out 2; have hfz16_3 := blk_frozen BK416.out 3; have hfz16_4 := blk_frozen BK416.out 4))
    (try simp only [Act.put, List.setIfInBounds_toArray, List.set_cons_zero, List.set_cons_succ])
    go_cut [8] (fun v8 wc => ∃ (kq : Nat) (x8_11 : Int), v8 = .int .i64 x8_11 ∧ Aside0 (skiffref1_Append.j1 kq a0 t407 x8_11 = some (r1, r2)) ∧ Aside0 (kq ≤ kj3) ∧ Aside0 (wc.heap[gb406]? = some (.cells #[.int .i64 a1_0, .int .i64 a1_1, .int .i64 a1_2, .int .i64 a1_3] 25 (0, 0))) ∧ Aside0 (wc.heap[gb416]? = some (.cells #[.int .i64 t410, .int .i64 t411, .int .i64 t412, .int .i64 t413, .int .i64 t414] 59 (0, 0))) ∧ Aside0 (Below w.heap.size w wc))
    case first =>
     have H := HC12.out
     clear HC12
     by_cases c17 : t415 = 0
     ·rw [if_pos c17] at H
      have c17b0 : (t415 == 0) = true := beq_iff_eq.mpr c17
      have c17b1 : (t415 != 0) = false := bne_eq_false_iff_eq.mpr c17
      clear c17
      (first | rw [c17b0] | (simp only [i64_w, i32_w]; rw [c17b0]) | skip)
      have H' := Aside0.mk H
      clear H
      have hnb18 := NB416_406.out
      have hnc18 := NB406_416.out
      have hcz19_0 : w14.cell? ⟨gb416, 0, none⟩ = some (.int .i64 0) := (blk_cell BK416.out 0).trans rfl
      have hcz19_1 : w14.cell? ⟨gb416, 1, none⟩ = some (.int .i64 0) := (blk_cell BK416.out 1).trans rfl
      have hcz19_2 : w14.cell? ⟨gb416, 2, none⟩ = some (.int .i64 0) := (blk_cell BK416.out 2).trans rfl
      have hcz19_3 : w14.cell? ⟨gb416, 3, none⟩ = some (.int .i64 0) := (blk_cell BK416.out 3).trans rfl
      have hcz19_4 : w14.cell? ⟨gb416, 4, none⟩ = some (.int .i64 0) := (blk_cell BK416.out 4).trans rfl
      have hfz19_0 := blk_frozen BK416.out 0
      have hfz19_1 := blk_frozen BK416.out 1
      have hfz19_2 := blk_frozen BK416.out 2
      have hfz19_3 := blk_frozen BK416.out 3
      have hfz19_4 := blk_frozen BK416.out 4
      go_wp2
      go_meet
      case rel => exact ⟨_, (wrap64 (Int.tdiv t410 96)), q4_, H', ⟨by have := HJ3.out; first | omega | exact Nat.le_refl _⟩, ⟨by (with_reducible repeat (first | refine blk_drewN ?_ _ | refine blk_drew ?_ | refine blk_alloc ?_ _)); refine blk_far ?_ NB406_416.out _; (with_reducible repeat (first | refine blk_drewN ?_ _ | refine blk_drew ?_ | refine blk_alloc ?_ _)); refine blk_far ?_ NB406_416.out _; (with_reducible repeat (first | refine blk_drewN ?_ _ | refine blk_drew ?_ | refine blk_alloc ?_ _)); refine blk_far ?_ NB406_416.out _; (with_reducible repeat (first | refine blk_drewN ?_ _ | refine blk_drew ?_ | refine blk_alloc ?_ _)); refine blk_far ?_ NB406_416.out _; (with_reducible repeat (first | refine blk_drewN ?_ _ | refine blk_drew ?_ | refine blk_alloc ?_ _)); refine blk_far ?_ NB406_416.out _; (with_reducible repeat (first | refine blk_drewN ?_ _ | refine blk_drew ?_ | refine blk_alloc ?_ _)); exact BK406.out⟩, ⟨by (with_reducible repeat (first | refine blk_drewN ?_ _ | refine blk_drew ?_ | refine blk_alloc ?_ _)); refine blk_put (cs := #[.int .i64 t410, .int .i64 t411, .int .i64 t412, .int .i64 t413, .int .i64 0]) ?_ 4 _ rfl; (with_reducible repeat (first | refine blk_drewN ?_ _ | refine blk_drew ?_ | refine blk_alloc ?_ _)); refine blk_put (cs := #[.int .i64 t410, .int .i64 t411, .int .i64 t412, .int .i64 0, .int .i64 0]) ?_ 3 _ rfl; (with_reducible repeat (first | refine blk_drewN ?_ _ | refine blk_drew ?_ | refine blk_alloc ?_ _)); refine blk_put (cs := #[.int .i64 t410, .int .i64 t411, .int .i64 0, .int .i64 0, .int .i64 0]) ?_ 2 _ rfl; (with_reducible repeat (first | refine blk_drewN ?_ _ | refine blk_drew ?_ | refine blk_alloc ?_ _)); refine blk_put (cs := #[.int .i64 t410, .int .i64 0, .int .i64 0, .int .i64 0, .int .i64 0]) ?_ 1 _ rfl; (with_reducible repeat (first | refine blk_drewN ?_ _ | refine blk_drew ?_ | refine blk_alloc ?_ _)); refine blk_put (cs := #[.int .i64 0, .int .i64 0, .int .i64 0, .int .i64 0, .int .i64 0]) ?_ 0 _ rfl; (with_reducible repeat (first | refine blk_drewN ?_ _ | refine blk_drew ?_ | refine blk_alloc ?_ _)); exact BK416.out⟩, ⟨by repeat (first | (with_reducible first | exact HB.out | apply below_alloc | apply pw_below_drewN | apply below_drew1 | refine below_set ?_ GE406.out | refine below_set ?_ GE416.out) | exact HB.out)⟩⟩
     ·rw [if_neg c17] at H
      have c17b0 : (t415 == 0) = false := beq_eq_false_iff_ne.mpr c17
      have c17b1 : (t415 != 0) = true := bne_iff_ne.mpr c17
      (first | rw [c17b0] | (simp only [i64_w, i32_w]; rw [c17b0]) | skip)
      have H' := Aside0.mk H
      clear H
      go_wp2
      go_meet
      case rel => exact ⟨_, (0), q4_, H', ⟨by have := HJ3.out; first | omega | exact Nat.le_refl _⟩, ⟨by (with_reducible repeat (first | refine blk_drewN ?_ _ | refine blk_drew ?_ | refine blk_alloc ?_ _)); refine blk_far ?_ NB406_416.out _; (with_reducible repeat (first | refine blk_drewN ?_ _ | refine blk_drew ?_ | refine blk_alloc ?_ _)); refine blk_far ?_ NB406_416.out _; (with_reducible repeat (first | refine blk_drewN ?_ _ | refine blk_drew ?_ | refine blk_alloc ?_ _)); refine blk_far ?_ NB406_416.out _; (with_reducible repeat (first | refine blk_drewN ?_ _ | refine blk_drew ?_ | refine blk_alloc ?_ _)); refine blk_far ?_ NB406_416.out _; (with_reducible repeat (first | refine blk_drewN ?_ _ | refine blk_drew ?_ | refine blk_alloc ?_ _)); refine blk_far ?_ NB406_416.out _; (with_reducible repeat (first | refine blk_drewN ?_ _ | refine blk_drew ?_ | refine blk_alloc ?_ _)); exact BK406.out⟩, ⟨by (with_reducible repeat (first | refine blk_drewN ?_ _ | refine blk_drew ?_ | refine blk_alloc ?_ _)); refine blk_put (cs := #[.int .i64 t410, .int .i64 t411, .int .i64 t412, .int .i64 t413, .int .i64 0]) ?_ 4 _ rfl; (with_reducible repeat (first | refine blk_drewN ?_ _ | refine blk_drew ?_ | refine blk_alloc ?_ _)); refine blk_put (cs := #[.int .i64 t410, .int .i64 t411, .int .i64 t412, .int .i64 0, .int .i64 0]) ?_ 3 _ rfl; (with_reducible repeat (first | refine blk_drewN ?_ _ | refine blk_drew ?_ | refine blk_alloc ?_ _)); refine blk_put (cs := #[.int .i64 t410, .int .i64 t411, .int .i64 0, .int .i64 0, .int .i64 0]) ?_ 2 _ rfl; (with_reducible repeat (first | refine blk_drewN ?_ _ | refine blk_drew ?_ | refine blk_alloc ?_ _)); refine blk_put (cs := #[.int .i64 t410, .int .i64 0, .int .i64 0, .int .i64 0, .int .i64 0]) ?_ 1 _ rfl; (with_reducible repeat (first | refine blk_drewN ?_ _ | refine blk_drew ?_ | refine blk_alloc ?_ _)); refine blk_put (cs := #[.int .i64 0, .int .i64 0, .int .i64 0, .int .i64 0, .int .i64 0]) ?_ 0 _ rfl; (with_reducible repeat (first | refine blk_drewN ?_ _ | refine blk_drew ?_ | refine blk_alloc ?_ _)); exact BK416.out⟩, ⟨by repeat (first | (with_reducible first | exact HB.out | apply below_alloc | apply pw_below_drewN | apply below_drew1 | refine below_set ?_ GE406.out | refine below_set ?_ GE416.out) | exact HB.out)⟩⟩
    case rest =>
     clear HC12
     try clear c1
     try clear c2
     try clear p2
     try clear c4
     try clear c6
     try clear p6
     try clear c9
     try clear c10
     try clear c15
     try clear c17
     try clear c17b0
     try clear c17b1
     try clear c18
     try clear hcz16_0
     try clear hcz16_1
     try clear hcz16_2
     try clear hcz16_3
     try clear hcz16_4
     try clear hcz19_0
     try clear hcz19_1
     try clear hcz19_2
     try clear hcz19_3
     try clear hcz19_4
     try clear hcz6_0
     try clear hcz6_1
     try clear hcz6_2
     try clear hcz6_3
     try clear hfz16_0
     try clear hfz16_1
     try clear hfz16_2
     try clear hfz16_3
     try clear hfz16_4
     try clear hfz19_0
     try clear hfz19_1
     try clear hfz19_2
     try clear hfz19_3
     try clear hfz19_4
     try clear hfz6_0
     try clear hfz6_1
     try clear hfz6_2
     try clear hfz6_3
     try clear p2
     obtain ⟨kq, x8_11, rfl, HA, HJ11, BK406, BK416, HB⟩ := hcut
     cases kq with
     | zero => exact absurd HA.out (by simp [skiffref1_Append.j1])
     | succ kj11 =>
      have H := HA.out
      clear HA
      simp only [skiffref1_Append.j1] at H
      replace H := Option.bind_eq_some_iff.mp H
      obtain ⟨⟨t417, t418, t419⟩, A200, H⟩ := H
      replace H : (if t418 = true then ((skiffref1_Words.f kj11 t417 t407).bind fun bt420 => (if ([] : List (S35)).length + bt420.1.length < 4398046511104 then (some ((([] : List (S35)) ++ bt420.1), 0)) else (none))) else (if ([] : List (S35)).length < 4398046511104 then ((some (([] : List (S35)) ++ [(⟨true, wrap64 ((wrap64 (1 - x8_11)) * 96), (⟨#[]⟩ : ByteArray)⟩ : S35)] : List (S35))).bind fun y427 => ((skiffref1_Words.f kj11 (wrap64 ((wrap64 (1 - x8_11)) * 96)) t407).bind fun bt430 => (if y427.length + bt430.1.length < 4398046511104 then (some ((y427 ++ bt430.1), 0)) else (none)))) else (none))) = some (r1, r2) := H
      have A20 := Aside0.mk A200
      clear A200
      by_cases c21 : t418 = true
      ·subst c21
       have H1 : ((skiffref1_Words.f kj11 t417 t407).bind fun bt420 => (if ([] : List (S35)).length + bt420.1.length < 4398046511104 then (some ((([] : List (S35)) ++ bt420.1), 0)) else (none))) = some (r1, r2) := by rw [if_pos rfl] at H; exact H
       clear H
       have H := H1
       clear H1
       replace H := Option.bind_eq_some_iff.mp H
       obtain ⟨⟨t420, t421⟩, A220, H⟩ := H
       replace H : (if ([] : List (S35)).length + t420.length < 4398046511104 then (some ((([] : List (S35)) ++ t420), 0)) else (none)) = some (r1, r2) := H
       have A22 := Aside0.mk A220
       clear A220
       by_cases c23 : ([] : List (S35)).length + t420.length < 4398046511104
       ·rw [if_pos c23] at H
        have LMc23 := Aside0.mk c23
        clear c23
        obtain ⟨y424, hy424⟩ : ∃ y_ : List (S35), y_ = (([] : List (S35)) ++ t420) := ⟨_, rfl⟩
        replace H : (some (y424, 0)) = some (r1, r2) := by first | (rw [hy424]; with_reducible exact H) | (have H2_ := (Option.bind_some _ _).symm.trans H; rw [hy424]; with_reducible exact H2_) | (have H2_ := (Option.bind_some _ _).symm.trans H; with_reducible exact H2_) | with_reducible exact H | (rw [hy424]; exact H) | exact H
        have Ny424 := Aside0.mk hy424
        clear hy424
        simp only [Option.some.injEq, Prod.mk.injEq] at H
        obtain ⟨rfl, rfl⟩ := H
        go_wp2_with (first | ((with_reducible refine gate_callee (f := 65) rfl ?_); refine goesL_ (some 41) rfl rfl Try.func65 (by kernel_rfl) rfl #[.string a0, .int .i64 x8_11] rfl q1_ ?_; (with_reducible refine (skiffref1_FreePlace.calls kj11 a0 x8_11 t417 true t419 _ A20.out).mono ?_); rintro e w24 ⟨rfl, hb⟩; refine ⟨_, rfl, ?_⟩; have n0_ := Aside0.mk (blk_below (g := gb406) (o := .cells #[.int .i64 a1_0, .int .i64 a1_1, .int .i64 a1_2, .int .i64 a1_3] 25 (0, 0)) (by (with_reducible repeat (first | refine blk_drewN ?_ _ | refine blk_drew ?_ | refine blk_alloc ?_ _)); exact BK406.out) hb); have n1_ := Aside0.mk (blk_below (g := gb416) (o := .cells #[.int .i64 t410, .int .i64 t411, .int .i64 t412, .int .i64 t413, .int .i64 t414] 59 (0, 0)) (by (with_reducible repeat (first | refine blk_drewN ?_ _ | refine blk_drew ?_ | refine blk_alloc ?_ _)); exact BK416.out) hb); have n2_ := Aside0.mk (below_step (by repeat (first | (with_reducible first | exact HB.out | apply below_alloc | apply pw_below_drewN | apply below_drew1 | refine below_set ?_ GE406.out | refine below_set ?_ GE416.out) | exact HB.out)) hb); clear BK406; clear BK416; clear HB; have BK406 := n0_; have BK416 := n1_; have HB := n2_; clear n0_ n1_ n2_; (try clear hb); (try clear hb2); (try clear hk); (try clear hi)) | ((with_reducible refine gate_callee (f := 17) rfl ?_); refine goesL_ (some 58) rfl rfl Try.func17 (by kernel_rfl) rfl #[.int .i64 t417, .string t407] rfl q1_ ?_; (with_reducible refine (skiffref1_Words.calls kj11 t417 t407 t420 t421 _ A22.out).mono ?_); rintro e w25 ⟨v422, rfl, ho0, hb⟩; refine ⟨_, rfl, ?_⟩; have n0_ := Aside0.mk (Kd.R_lower ho0 (below_size (by repeat (first | (with_reducible first | exact HB.out | apply below_alloc | apply pw_below_drewN | apply below_drew1 | refine below_set ?_ GE406.out | refine below_set ?_ GE416.out) | exact HB.out)))); have n1_ := Aside0.mk (blk_below (g := gb406) (o := .cells #[.int .i64 a1_0, .int .i64 a1_1, .int .i64 a1_2, .int .i64 a1_3] 25 (0, 0)) (by (with_reducible repeat (first | refine blk_drewN ?_ _ | refine blk_drew ?_ | refine blk_alloc ?_ _)); exact BK406.out) hb); have n2_ := Aside0.mk (blk_below (g := gb416) (o := .cells #[.int .i64 t410, .int .i64 t411, .int .i64 t412, .int .i64 t413, .int .i64 t414] 59 (0, 0)) (by (with_reducible repeat (first | refine blk_drewN ?_ _ | refine blk_drew ?_ | refine blk_alloc ?_ _)); exact BK416.out) hb); have n3_ := Aside0.mk (below_step (by repeat (first | (with_reducible first | exact HB.out | apply below_alloc | apply pw_below_drewN | apply below_drew1 | refine below_set ?_ GE406.out | refine below_set ?_ GE416.out) | exact HB.out)) hb); clear BK406; clear BK416; clear HB; have HO423 := n0_; have BK406 := n1_; have BK416 := n2_; have HB := n3_; clear n0_ n1_ n2_ n3_; (try clear hb); (try clear hb2); (try clear hk); (try clear hi); (try clear ho0); obtain ⟨Ao27, co27, eo27⟩ := Kd.R_slice HO423.out; subst eo27) | ((with_reducible refine gate_builtin (b := .append) (xs := #[.tmp 61, .tmp 62]) rfl ?_); at_builtin; refine Kd.R_append_rows k35 (w0 := w) w.heap.size rfl (.tmp 61) (.tmp 62) 36 35 (.agg #[(.bool false), (.int .i64 0), (.string ⟨#[]⟩)]) 32 rfl Try.underlying36 info35 rfl (by decide) (by omega) (.slice none 0 0) ([] : List (S35)) t420 _ _ _ (fun k_ => some k_ ≠ (.slice Ao27 t420.length co27 : Value).ownBlock) (fun _ => False) rfl rfl ?aO ?aR (fun _ _ h => h) (fun _ h => h.elim) ?aF ?aB ?aS ?aL ?_; (case aR => repeat (first | exact (Kd.R_reads' HO423.out).2.2 | (with_reducible refine Kd.C_alloc ?_ _) | (with_reducible refine Kd.C_drewN ?_ _) | (with_reducible refine Kd.C_drew ?_))); (case aB => exact (by repeat (first | (with_reducible first | exact HB.out | apply below_alloc | apply pw_below_drewN | apply below_drew1 | refine below_set ?_ GE406.out | refine below_set ?_ GE416.out) | exact HB.out))); (case aF => exact (fun k_ hk => Kd.fresh' (Kd.R_lt (by (with_reducible repeat (first | apply Kd.R_alloc | apply Kd.R_drewN | apply Kd.R_drew)); exact HO423.out)) k_ hk)); (case aO => exact ((Kd.R_nil _ _ _ _ (fun k_ => some k_ ≠ (.slice Ao27 t420.length co27 : Value).ownBlock)))); (case aS => exact (below_size (by repeat (first | (with_reducible first | exact HB.out | apply below_alloc | apply pw_below_drewN | apply below_drew1 | refine below_set ?_ GE406.out | refine below_set ?_ GE416.out) | exact HB.out)))); (case aL => have := LMc23.out; omega); intro v425 w26 ho hb hg hat; rw [← Ny424.out] at ho; have n0_ := Aside0.mk (blk_grown (g := gb406) (o := .cells #[.int .i64 a1_0, .int .i64 a1_1, .int .i64 a1_2, .int .i64 a1_3] 25 (0, 0)) (by (with_reducible repeat (first | refine blk_drewN ?_ _ | refine blk_drew ?_ | refine blk_alloc ?_ _)); exact BK406.out) hg (by simp [Value.ownBlock])); have n1_ := Aside0.mk (blk_grown (g := gb416) (o := .cells #[.int .i64 t410, .int .i64 t411, .int .i64 t412, .int .i64 t413, .int .i64 t414] 59 (0, 0)) (by (with_reducible repeat (first | refine blk_drewN ?_ _ | refine blk_drew ?_ | refine blk_alloc ?_ _)); exact BK416.out) hg (by simp [Value.ownBlock])); have n2_ := Aside0.mk (Kd.R_after (Kd.R_apart_nil (by (with_reducible repeat (first | apply Kd.R_alloc | apply Kd.R_drewN | apply Kd.R_drew)); exact HO423.out)) hg hat); have n3_ := Aside0.mk (hb); have n4_ := Aside0.mk (ho); clear BK406; clear BK416; clear HO423; clear HB; have BK406 := n0_; have BK416 := n1_; have HO423 := n2_; have HB := n3_; have HO426 := n4_; clear n0_ n1_ n2_ n3_ n4_; clear ho hb hg hat))
        go_ret2
        exact ⟨_, by first | rfl | (simp [errW_none, errW_some] <;> rfl) | (simp [*, errW_none, errW_some] <;> rfl), by (with_reducible repeat (first | apply Kd.R_alloc | apply Kd.R_drewN | apply Kd.R_drew)); exact Kd.R_mono HO426.out (fun _ hk => trivial), by repeat (first | (with_reducible first | exact HB.out | apply below_alloc | apply pw_below_drewN | apply below_drew1 | refine below_set ?_ GE406.out | refine below_set ?_ GE416.out) | exact HB.out)⟩
       ·rw [if_neg c23] at H
        exact absurd H (by simp)
      ·replace c21 := Bool.eq_false_iff.mpr c21
       subst c21
       have H1 : (if ([] : List (S35)).length < 4398046511104 then ((some (([] : List (S35)) ++ [(⟨true, wrap64 ((wrap64 (1 - x8_11)) * 96), (⟨#[]⟩ : ByteArray)⟩ : S35)] : List (S35))).bind fun y427 => ((skiffref1_Words.f kj11 (wrap64 ((wrap64 (1 - x8_11)) * 96)) t407).bind fun bt430 => (if y427.length + bt430.1.length < 4398046511104 then (some ((y427 ++ bt430.1), 0)) else (none)))) else (none)) = some (r1, r2) := by rw [if_neg (show ¬ (false = true) by decide)] at H; exact H
       clear H
       have H := H1
       clear H1
       by_cases c28 : ([] : List (S35)).length < 4398046511104
       ·rw [if_pos c28] at H
        have LMc28 := Aside0.mk c28
        clear c28
        obtain ⟨y427, hy427⟩ : ∃ y_ : List (S35), y_ = (([] : List (S35)) ++ [(⟨true, wrap64 ((wrap64 (1 - x8_11)) * 96), (⟨#[]⟩ : ByteArray)⟩ : S35)]) := ⟨_, rfl⟩
        replace H : ((skiffref1_Words.f kj11 (wrap64 ((wrap64 (1 - x8_11)) * 96)) t407).bind fun bt430 => (if y427.length + bt430.1.length < 4398046511104 then (some ((y427 ++ bt430.1), 0)) else (none))) = some (r1, r2) := by first | (rw [hy427]; with_reducible exact H) | (have H2_ := (Option.bind_some _ _).symm.trans H; rw [hy427]; with_reducible exact H2_) | (have H2_ := (Option.bind_some _ _).symm.trans H; with_reducible exact H2_) | with_reducible exact H | (rw [hy427]; exact H) | exact H
        have Ny427 := Aside0.mk hy427
        clear hy427
        replace H := Option.bind_eq_some_iff.mp H
        obtain ⟨⟨t430, t431⟩, A290, H⟩ := H
        replace H : (if y427.length + t430.length < 4398046511104 then (some ((y427 ++ t430), 0)) else (none)) = some (r1, r2) := H
        have A29 := Aside0.mk A290
        clear A290
        by_cases c30 : y427.length + t430.length < 4398046511104
        ·rw [if_pos c30] at H
         have LMc30 := Aside0.mk c30
         clear c30
         obtain ⟨y434, hy434⟩ : ∃ y_ : List (S35), y_ = (y427 ++ t430) := ⟨_, rfl⟩
         replace H : (some (y434, 0)) = some (r1, r2) := by first | (rw [hy434]; with_reducible exact H) | (have H2_ := (Option.bind_some _ _).symm.trans H; rw [hy434]; with_reducible exact H2_) | (have H2_ := (Option.bind_some _ _).symm.trans H; with_reducible exact H2_) | with_reducible exact H | (rw [hy434]; exact H) | exact H
         have Ny434 := Aside0.mk hy434
         clear hy434
         simp only [Option.some.injEq, Prod.mk.injEq] at H
         obtain ⟨rfl, rfl⟩ := H
         go_wp2_with (first | ((with_reducible refine gate_callee (f := 65) rfl ?_); refine goesL_ (some 41) rfl rfl Try.func65 (by kernel_rfl) rfl #[.string a0, .int .i64 x8_11] rfl q1_ ?_; (with_reducible refine (skiffref1_FreePlace.calls kj11 a0 x8_11 t417 false t419 _ A20.out).mono ?_); rintro e w31 ⟨rfl, hb⟩; refine ⟨_, rfl, ?_⟩; have n0_ := Aside0.mk (blk_below (g := gb406) (o := .cells #[.int .i64 a1_0, .int .i64 a1_1, .int .i64 a1_2, .int .i64 a1_3] 25 (0, 0)) (by (with_reducible repeat (first | refine blk_drewN ?_ _ | refine blk_drew ?_ | refine blk_alloc ?_ _)); exact BK406.out) hb); have n1_ := Aside0.mk (blk_below (g := gb416) (o := .cells #[.int .i64 t410, .int .i64 t411, .int .i64 t412, .int .i64 t413, .int .i64 t414] 59 (0, 0)) (by (with_reducible repeat (first | refine blk_drewN ?_ _ | refine blk_drew ?_ | refine blk_alloc ?_ _)); exact BK416.out) hb); have n2_ := Aside0.mk (below_step (by repeat (first | (with_reducible first | exact HB.out | apply below_alloc | apply pw_below_drewN | apply below_drew1 | refine below_set ?_ GE406.out | refine below_set ?_ GE416.out) | exact HB.out)) hb); clear BK406; clear BK416; clear HB; have BK406 := n0_; have BK416 := n1_; have HB := n2_; clear n0_ n1_ n2_; (try clear hb); (try clear hb2); (try clear hk); (try clear hi)) | ((with_reducible refine gate_builtin (b := .append) (xs := #[.tmp 50, .tmp 53]) rfl ?_); at_builtin; refine Kd.R_append k35 (w0 := w) w.heap.size rfl (.tmp 50) (.tmp 53) 36 35 (.agg #[(.bool false), (.int .i64 0), (.string ⟨#[]⟩)]) 32 rfl Try.underlying36 info35 rfl (by decide) (by omega) (.slice none 0 0) ([] : List (S35)) (⟨true, wrap64 ((wrap64 (1 - x8_11)) * 96), (⟨#[]⟩ : ByteArray)⟩ : S35) [.bool true, .int .i64 (wrap64 ((wrap64 (1 - x8_11)) * 96)), .string (⟨#[]⟩ : ByteArray)] (fun _ => True) (fun _ => False) rfl rfl ?aP (fun _ hk => hk.elim) ?aF ?aO ?aB ?aS ?aL ?_; (case aP => exact k35_mkM _ _ _ (⟨true, wrap64 ((wrap64 (1 - x8_11)) * 96), (⟨#[]⟩ : ByteArray)⟩ : S35)); (case aB => exact (by repeat (first | (with_reducible first | exact HB.out | apply below_alloc | apply pw_below_drewN | apply below_drew1 | refine below_set ?_ GE406.out | refine below_set ?_ GE416.out) | exact HB.out))); (case aF => exact (fun _ _ => trivial)); (case aO => exact ((Kd.R_nil _ _ _ _ (fun _ => True)))); (case aS => exact (below_size (by repeat (first | (with_reducible first | exact HB.out | apply below_alloc | apply pw_below_drewN | apply below_drew1 | refine below_set ?_ GE406.out | refine below_set ?_ GE416.out) | exact HB.out)))); (case aL => have := LMc28.out; omega); intro v428 w32 ho hb hg hat; rw [← Ny427.out] at ho; have n0_ := Aside0.mk (blk_grown (g := gb406) (o := .cells #[.int .i64 a1_0, .int .i64 a1_1, .int .i64 a1_2, .int .i64 a1_3] 25 (0, 0)) (by (with_reducible repeat (first | refine blk_drewN ?_ _ | refine blk_drew ?_ | refine blk_alloc ?_ _)); exact BK406.out) hg (by simp [Value.ownBlock])); have n1_ := Aside0.mk (blk_grown (g := gb416) (o := .cells #[.int .i64 t410, .int .i64 t411, .int .i64 t412, .int .i64 t413, .int .i64 t414] 59 (0, 0)) (by (with_reducible repeat (first | refine blk_drewN ?_ _ | refine blk_drew ?_ | refine blk_alloc ?_ _)); exact BK416.out) hg (by simp [Value.ownBlock])); have n2_ := Aside0.mk (hb); have n3_ := Aside0.mk (ho); clear BK406; clear BK416; clear HB; have BK406 := n0_; have BK416 := n1_; have HB := n2_; have HO429 := n3_; clear n0_ n1_ n2_ n3_; clear ho hb hg hat) | ((with_reducible refine gate_callee (f := 17) rfl ?_); refine goesL_ (some 58) rfl rfl Try.func17 (by kernel_rfl) rfl #[.int .i64 (wrap64 ((wrap64 (1 - x8_11)) * 96)), .string t407] rfl q1_ ?_; (with_reducible refine (skiffref1_Words.calls kj11 (wrap64 ((wrap64 (1 - x8_11)) * 96)) t407 t430 t431 _ A29.out).mono ?_); rintro e w33 ⟨v432, rfl, ho0, hb⟩; refine ⟨_, rfl, ?_⟩; have n0_ := Aside0.mk (Kd.R_elder' (by (with_reducible repeat (first | apply Kd.R_alloc | apply Kd.R_drewN | apply Kd.R_drew)); exact HO429.out) (Kd.R_base ho0) hb); have n1_ := Aside0.mk (Kd.R_lower (Kd.R_new' ho0 (Kd.R_lt (by (with_reducible repeat (first | apply Kd.R_alloc | apply Kd.R_drewN | apply Kd.R_drew)); exact HO429.out))) (below_size (by repeat (first | (with_reducible first | exact HB.out | apply below_alloc | apply pw_below_drewN | apply below_drew1 | refine below_set ?_ GE406.out | refine below_set ?_ GE416.out) | exact HB.out)))); have n2_ := Aside0.mk (blk_below (g := gb406) (o := .cells #[.int .i64 a1_0, .int .i64 a1_1, .int .i64 a1_2, .int .i64 a1_3] 25 (0, 0)) (by (with_reducible repeat (first | refine blk_drewN ?_ _ | refine blk_drew ?_ | refine blk_alloc ?_ _)); exact BK406.out) hb); have n3_ := Aside0.mk (blk_below (g := gb416) (o := .cells #[.int .i64 t410, .int .i64 t411, .int .i64 t412, .int .i64 t413, .int .i64 t414] 59 (0, 0)) (by (with_reducible repeat (first | refine blk_drewN ?_ _ | refine blk_drew ?_ | refine blk_alloc ?_ _)); exact BK416.out) hb); have n4_ := Aside0.mk (below_step (by repeat (first | (with_reducible first | exact HB.out | apply below_alloc | apply pw_below_drewN | apply below_drew1 | refine below_set ?_ GE406.out | refine below_set ?_ GE416.out) | exact HB.out)) hb); clear HO429; clear BK406; clear BK416; clear HB; have HO429 := n0_; have HO433 := n1_; have BK406 := n2_; have BK416 := n3_; have HB := n4_; clear n0_ n1_ n2_ n3_ n4_; (try clear hb); (try clear hb2); (try clear hk); (try clear hi); (try clear ho0); obtain ⟨Ao35, co35, eo35⟩ := Kd.R_slice HO433.out; subst eo35) | ((with_reducible refine gate_builtin (b := .append) (xs := #[.tmp 61, .tmp 62]) rfl ?_); at_builtin; refine Kd.R_append_rows k35 (w0 := w) w.heap.size rfl (.tmp 61) (.tmp 62) 36 35 (.agg #[(.bool false), (.int .i64 0), (.string ⟨#[]⟩)]) 32 rfl Try.underlying36 info35 rfl (by decide) (by omega) v428 y427 t430 _ _ _ (fun k_ => some k_ ≠ (.slice Ao35 t430.length co35 : Value).ownBlock) (fun _ => False) rfl rfl ?aO ?aR (fun _ _ h => h) (fun _ h => h.elim) ?aF ?aB ?aS ?aL ?_; (case aR => repeat (first | exact (Kd.R_reads' HO433.out).2.2 | (with_reducible refine Kd.C_alloc ?_ _) | (with_reducible refine Kd.C_drewN ?_ _) | (with_reducible refine Kd.C_drew ?_))); (case aB => exact (by repeat (first | (with_reducible first | exact HB.out | apply below_alloc | apply pw_below_drewN | apply below_drew1 | refine below_set ?_ GE406.out | refine below_set ?_ GE416.out) | exact HB.out))); (case aF => exact (fun k_ hk => Kd.fresh' (Kd.R_lt (by (with_reducible repeat (first | apply Kd.R_alloc | apply Kd.R_drewN | apply Kd.R_drew)); exact HO433.out)) k_ hk)); (case aO => exact (by (with_reducible repeat (first | apply Kd.R_alloc | apply Kd.R_drewN | apply Kd.R_drew)); exact Kd.R_mono HO429.out (fun _ hk => hk.2))); (case aS => exact (below_size (by repeat (first | (with_reducible first | exact HB.out | apply below_alloc | apply pw_below_drewN | apply below_drew1 | refine below_set ?_ GE406.out | refine below_set ?_ GE416.out) | exact HB.out)))); (case aL => have := LMc30.out; omega); intro v435 w34 ho hb hg hat; rw [← Ny434.out] at ho; have n0_ := Aside0.mk (blk_grown (g := gb406) (o := .cells #[.int .i64 a1_0, .int .i64 a1_1, .int .i64 a1_2, .int .i64 a1_3] 25 (0, 0)) (by (with_reducible repeat (first | refine blk_drewN ?_ _ | refine blk_drew ?_ | refine blk_alloc ?_ _)); exact BK406.out) hg (Kd.R_ne HO429.out BK406.out (by decide))); have n1_ := Aside0.mk (blk_grown (g := gb416) (o := .cells #[.int .i64 t410, .int .i64 t411, .int .i64 t412, .int .i64 t413, .int .i64 t414] 59 (0, 0)) (by (with_reducible repeat (first | refine blk_drewN ?_ _ | refine blk_drew ?_ | refine blk_alloc ?_ _)); exact BK416.out) hg (Kd.R_ne HO429.out BK416.out (by decide))); have n2_ := Aside0.mk (Kd.R_after (ok := (fun _ => True)) (by (with_reducible repeat (first | apply Kd.R_alloc | apply Kd.R_drewN | apply Kd.R_drew)); exact HO433.out) hg hat); have n3_ := Aside0.mk (hb); have n4_ := Aside0.mk (ho); clear BK406; clear BK416; clear HO433; clear HB; clear HO429; have BK406 := n0_; have BK416 := n1_; have HO433 := n2_; have HB := n3_; have HO436 := n4_; clear n0_ n1_ n2_ n3_ n4_; clear ho hb hg hat))
         go_ret2
         exact ⟨_, by first | rfl | (simp [errW_none, errW_some] <;> rfl) | (simp [*, errW_none, errW_some] <;> rfl), by (with_reducible repeat (first | apply Kd.R_alloc | apply Kd.R_drewN | apply Kd.R_drew)); exact Kd.R_mono HO436.out (fun _ hk => trivial), by repeat (first | (with_reducible first | exact HB.out | apply below_alloc | apply pw_below_drewN | apply below_drew1 | refine below_set ?_ GE406.out | refine below_set ?_ GE416.out) | exact HB.out)⟩
        ·rw [if_neg c30] at H
         exact absurd H (by simp)
       ·rw [if_neg c28] at H
        exact absurd H (by simp)
end Go.Proofs.Ytjihlabmddfjhaa.PAll

/- Plain facts: the flash of one record that the laws begin with; no memory in sight. -/
set_option linter.unnecessarySimpa false
set_option linter.unusedSimpArgs false
set_option linter.unusedVariables false
namespace Go.Proofs.Ytjihlabmddfjhaa.M
open Go.RowKit Go.Proofs.YtjihlabmddfjhaaW.PrintWords Go.Proofs.YtjihlabmddfjhaaW.PrintLast Go.Proofs.YtjihlabmddfjhaaW.PrintMore Go.Proofs.Ytjihlabmddfjhaa.Hand Go.Proofs.Ytjihlabmddfjhaa.PAll
theorem tn_all (j : Nat) (h : j < 4) : tn 32 j = 8 := by rw [tn_eq _ _ (by omega)]; omega
/-- The first m bytes of t stand from a on in a flash that is G elsewhere. -/
def onto (G : ByteArray) (a : Nat) (t : ByteArray) (m : Nat) (F : ByteArray) : Prop := F.size = 768 ∧ ∀ i : Nat, i < 768 → bt F i = if a ≤ i ∧ i < a + m ∧ i - a < t.size then bt t ((i - a : Nat) : Int) else bt G i
theorem onto_step (G : ByteArray) (a : Nat) (t F : ByteArray) (j : Nat) (h : onto G a t (4 * j) F) (hG : ∀ i, a ≤ i → i < a + 4 * many t → bt G ((i : Nat) : Int) = 255) (hj : j < many t) (hr : a + 4 * many t ≤ 768) : onto G a t (4 * (j + 1)) (tornF F (a + 4 * j) (wordAt t j) 32) := by
 obtain ⟨h1, h2⟩ := h
 have hj4 : 4 * j < t.size := by unfold many at hj; omega
 refine ⟨by rw [tornF_size _ _ _ _ (by omega)]; exact h1, fun i hi => ?_⟩
 rw [tornF_bt _ _ _ _ (by omega) i (by omega), h2 i hi]
 by_cases c : a + 4 * j ≤ i ∧ i < a + 4 * j + 4
 ·rw [if_pos c, if_neg (by omega), tn_all _ (by omega), hG i (by omega) (by omega), clr_blank _ (bt_u8 _ _).1 (bt_u8 _ _).2 8 rfl, wordAt_bt t j _ hj4 (by omega)]
  by_cases c2 : i - a < t.size
  ·rw [if_pos (by omega), if_pos (by omega)]; congr 1; omega
  ·rw [if_neg (by omega), if_neg (by omega)]
 ·rw [if_neg c]
  by_cases c2 : a ≤ i ∧ i < a + 4 * j ∧ i - a < t.size
  ·rw [if_pos c2, if_pos (by omega)]
  ·rw [if_neg c2, if_neg (by omega)]
/-- All steps, one behind the other. -/
def doL (F : ByteArray) (l : List S35) : ByteArray := l.foldl (fun F o => (cutV F o.f0 o.f1 o.f2 96).1) F
theorem doL_cons (F : ByteArray) (o : S35) (l : List S35) : doL F (o :: l) = doL (cutV F o.f0 o.f1 o.f2 96).1 l := rfl
theorem doL_at (F : ByteArray) (l : List S35) (i : Nat) (h : i < l.length) : doL F (l.drop i) = doL (cutV F (rd_T35 l i).f0 (rd_T35 l i).f1 (rd_T35 l i).f2 96).1 (l.drop (i + 1)) := by
 have e : rd_T35 l i = l[i] := by simp [rd_T35, List.getD_eq_getElem?_getD, List.getElem?_eq_getElem h]
 rw [List.drop_eq_getElem_cons h, doL_cons, e]
theorem doL_end (F : ByteArray) (l : List S35) : doL F (l.drop l.length) = F := by rw [List.drop_length]; rfl
theorem onto_all (G : ByteArray) (a : Nat) (t : ByteArray) (ha : a % 4 = 0) (hG : ∀ i, a ≤ i → i < a + 4 * many t → bt G ((i : Nat) : Int) = 255) (hr : a + 4 * many t ≤ 768) (d : Nat) :
  ∀ (j : Nat) (F : ByteArray), j + d = many t → onto G a t (4 * j) F → onto G a t (4 * many t) (doL F ((wl a t (many t)).drop j)) := by
 induction d with
 | zero =>
  intro j F hj h
  obtain rfl : j = many t := by omega
  have := doL_end F (wl a t (many t))
  rw [wl_length] at this
  rw [this]
  exact h
 | succ d ih =>
  intro j F hj h
  have hs := onto_step G a t F j h hG (by omega) hr
  have hjm : j < many t := by omega
  have hj4 : 4 * j < t.size := by unfold many at hjm; omega
  have ok : cutOk F false ((a : Int) + 4 * (j : Int)) (wordAt t j) 96 := by
   refine ⟨h.1, ?_, by omega, by omega⟩
   unfold opMay
   rw [if_neg (by decide), decide_eq_true_eq]
   have := wordAt_size t j hj4
   omega
  have hv : (cutV F false ((a : Int) + 4 * (j : Int)) (wordAt t j) 96).1 = tornF F (a + 4 * j) (wordAt t j) 32 := by
   unfold cutV
   rw [if_pos ok]
   unfold doF
   rw [if_neg (by decide)]
   show tornF F ((a : Int) + 4 * (j : Int)).toNat (wordAt t j) (mn 96 32) = _
   rw [show ((a : Int) + 4 * (j : Int)).toNat = a + 4 * j by omega]
   rfl
  rw [doL_at F _ j (by rw [wl_length]; omega), wl_rd _ _ _ _ (by omega)]
  show onto G a t (4 * many t) (doL (cutV F false ((a : Int) + 4 * (j : Int)) (wordAt t j) 96).1 ((wl a t (many t)).drop (j + 1)))
  rw [hv]
  exact ih (j + 1) _ (by omega) hs
/-- A text laid down at a place that is blank. -/
theorem lay (G : ByteArray) (a : Nat) (t : ByteArray) (hs : G.size = 768) (ha : a % 4 = 0) (hG : ∀ i, a ≤ i → i < a + 4 * many t → bt G ((i : Nat) : Int) = 255) (hr : a + 4 * many t ≤ 768) :
  (doL G (wl a t (many t))).size = 768 ∧ ∀ i : Nat, i < 768 → bt (doL G (wl a t (many t))) i = if a ≤ i ∧ i < a + t.size then bt t ((i - a : Nat) : Int) else bt G i := by
 have h0 : onto G a t (4 * 0) G := ⟨hs, fun i hi => by rw [if_neg (by omega)]⟩
 obtain ⟨h1, h2⟩ := onto_all G a t ha hG hr (many t) 0 G (by omega) h0
 rw [List.drop_zero] at h1 h2
 refine ⟨h1, fun i hi => ?_⟩
 rw [h2 i hi]
 have : t.size ≤ 4 * many t := by unfold many; omega
 by_cases c : a ≤ i ∧ i < a + t.size
 ·rw [if_pos c, if_pos (by omega)]
 ·rw [if_neg c, if_neg (by omega)]
/-- "ab", six times. -/
def ab : ByteArray := ⟨#[97, 98, 97, 98, 97, 98, 97, 98, 97, 98, 97, 98]⟩
def abSum : Int := 3146506012
theorem ab_crc : Ev (fun k => skiffref1_Crc.f k ab) abSum := Ev.of (fun k => skiffref1_Crc.mono ab k) (k := 200) (by kernel_rfl)
theorem ab_many : many ab = 3 := rfl
theorem ab_size : ab.size = 12 := rfl
def held1 : ByteArray := doL (ff 768) (wl (192 : Nat) ab (many ab))
theorem held1_size : held1.size = 768 := (lay (ff 768) 192 ab (ff_size 768) rfl (fun i h1 h2 => ff_bt 768 i (by rw [ab_many] at h2; omega)) (by rw [ab_many]; omega)).1
theorem held1_bt (i : Nat) (hi : i < 768) : bt held1 i = if 192 ≤ i ∧ i < 204 then bt ab ((i - 192 : Nat) : Int) else 255 := by
 have := (lay (ff 768) 192 ab (ff_size 768) rfl (fun i h1 h2 => ff_bt 768 i (by rw [ab_many] at h2; omega)) (by rw [ab_many]; omega)).2 i hi
 rw [ab_size, ff_bt _ _ hi] at this
 exact this
def rec1 : ByteArray := ent 1 0 12 abSum
theorem rec1_size : rec1.size = 24 := ent_size _ _ _ _
theorem rec1_many : many rec1 = 6 := by unfold many; rw [rec1_size]
def heldF : ByteArray := doL held1 (wl (0 : Nat) rec1 (many rec1))
theorem heldF_lay : heldF.size = 768 ∧ ∀ i : Nat, i < 768 → bt heldF i = if 0 ≤ i ∧ i < 0 + rec1.size then bt rec1 ((i - 0 : Nat) : Int) else bt held1 i :=
 lay held1 0 rec1 held1_size rfl (fun i h1 h2 => by rw [rec1_many] at h2; rw [held1_bt i (by omega), if_neg (by omega)]) (by rw [rec1_many]; omega)
theorem heldF_size : heldF.size = 768 := heldF_lay.1
theorem heldF_bt (i : Nat) (hi : i < 768) : bt heldF i = if i < 24 then bt rec1 (i : Int) else if 192 ≤ i ∧ i < 204 then bt ab ((i - 192 : Nat) : Int) else 255 := by
 rw [heldF_lay.2 i hi, rec1_size, held1_bt i hi]
 by_cases c : i < 24
 ·rw [if_pos c, if_pos (by omega)]; rfl
 ·rw [if_neg c, if_neg (by omega)]
theorem pl_size (f : ByteArray) (j : Nat) (hf : f.size = 768) (hj : j < 8) : (pl f j).size = 24 := by unfold pl; rw [ByteArray.size_extract]; omega
theorem pl_bt (f : ByteArray) (j : Nat) (hf : f.size = 768) (hj : j < 8) (i : Nat) (hi : i < 24) : bt (pl f j) (i : Int) = bt f ((24 * j + i : Nat) : Int) := bt_extract f _ _ i (by omega)
theorem pl_blank (f : ByteArray) (j : Nat) (hf : f.size = 768) (hj : j < 8) (h : ∀ i, 24 * j ≤ i → i < 24 * j + 24 → bt f ((i : Nat) : Int) = 255) : pl f j = ff 24 := by
 apply bt_ext
 ·rw [pl_size f j hf hj, ff_size]
 ·intro i hi
  rw [pl_size f j hf hj] at hi
  rw [pl_bt f j hf hj i hi, h _ (by omega) (by omega), ff_bt _ _ hi]
theorem getV_ff : getV (ff 24) = (0, 0, 0, 0, 400) := by
 unfold getV
 rw [if_neg]
 rintro ⟨_, h, _⟩
 have := h 0 (by omega)
 rw [ff_bt 24 (12 + 0) (by omega), ff_bt 24 0 (by omega)] at this
 omega
theorem told_ff (j : Nat) : told j (getV (ff 24)) = [] := by rw [getV_ff]; rfl
/-- No records stand in a flash of which all places are blank. -/
theorem scanL_blank (f : ByteArray) (n : Nat) (h : ∀ j, j < n → pl f j = ff 24) : scanL f n = [] := by
 induction n with
 | zero => rfl
 | succ n ih => rw [scanL, ih (fun j hj => h j (by omega)), h n (by omega), told_ff]; rfl
theorem scanV_held1 : scanV held1 = ([], 0) := by
 unfold scanV
 rw [if_pos held1_size, scanL_blank held1 8 (fun j hj => pl_blank held1 j held1_size hj (fun i h1 h2 => by rw [held1_bt i (by omega), if_neg (by omega)]))]
theorem pl_heldF0 : pl heldF 0 = rec1 := by
 apply bt_ext
 ·rw [pl_size _ _ heldF_size (by omega), rec1_size]
 ·intro i hi
  rw [pl_size _ _ heldF_size (by omega)] at hi
  rw [pl_bt _ _ heldF_size (by omega) i hi, heldF_bt _ (by omega), if_pos (by omega)]
  congr 1; omega
theorem pl_heldF (j : Nat) (h0 : 0 < j) (h : j < 8) : pl heldF j = ff 24 := pl_blank heldF j heldF_size h (fun i h1 h2 => by rw [heldF_bt i (by omega), if_neg (by omega), if_neg (by omega)])
theorem rec1_may : recMay 1 0 12 abSum = true := by decide
def place1 : S59 := ⟨0, ⟨1, 0, 12, abSum⟩⟩
theorem scanL_heldF (n : Nat) (h0 : 0 < n) (h : n ≤ 8) : scanL heldF n = [place1] := by
 induction n with
 | zero => omega
 | succ n ih =>
  rw [scanL]
  by_cases c : n = 0
  ·subst c
   rw [pl_heldF0, rec1, getV_ent _ _ _ _ rec1_may]; rfl
  ·rw [ih (by omega) (by omega), pl_heldF n (by omega) (by omega), told_ff]; rfl
theorem freeV_held1 : freeV held1 0 = (0, true, 0) := by
 unfold freeV
 rw [if_pos ⟨held1_size, by omega, by omega⟩]
 show freeL held1 0 4 = _
 rw [freeL, pl_blank held1 0 held1_size (by omega) (fun i h1 h2 => by rw [held1_bt i (by omega), if_neg (by omega)]), if_pos rfl]; rfl
theorem held1_ab : held1.extract 192 204 = ab := by
 apply bt_ext
 ·rw [ByteArray.size_extract, held1_size, ab_size]; omega
 ·intro i hi
  rw [ByteArray.size_extract, held1_size] at hi
  rw [bt_extract _ _ _ _ (by rw [held1_size]; omega), held1_bt _ (by omega), if_pos (by omega), show 192 + i - 192 = i by omega]
theorem Next_held1 : Ev (fun k => skiffref1_NextSeq.f k held1) (1, 0) := by
 have h := ref_Scan_ev held1
 rw [scanV_held1] at h
 unfold skiffref1_NextSeq.f
 refine Ev.bind h ?_
 exact Ev.one fun k => by
  show skiffref1_NextSeq.l0 (k + 1) [] 0 0 = _
  rw [skiffref1_NextSeq.l0, if_neg (by decide), if_neg (by decide), show wrap64 (0 + 1) = 1 by unfold wrap64; omega]
theorem RecordOf_held1 : Ev (fun k => skiffref1_RecordOf.f k held1 0 12) (1, 0, 12, abSum, 0) := by
 have hb : skiffref1_Base.f 0 = some (192, 0) := by kernel_rfl
 have hs := held1_size
 have e : ((held1.size : Int) == 768) = true := by rw [hs]; rfl
 have w204 : wrap64 (192 + 12) = 204 := by unfold wrap64; omega
 have hx : held1.extract (192 : Int).toNat (204 : Int).toNat = ab := held1_ab
 unfold skiffref1_RecordOf.f skiffref1_FlashMay.f
 simp only [hb, Option.bind_some, e, if_true, upTo_eq]
 refine Ev.step (f := fun k => (skiffref1_NextSeq.f k held1).bind fun bt380 => (if bt380.2 = 0 then ((skiffref1_Crc.f k ab).bind fun t382 => (some (bt380.1, 0, 12, t382, 0))) else (some (0, 0, 0, 0, bt380.2)))) (fun k => ?_) ?_
 ·rw [skiffref1_RecordOf.j0, if_neg (by decide), w204, hx]
  simp only [if_pos (show (0 : Int) ≤ 192 by decide), if_pos (show (192 : Int) ≤ 204 by decide), if_pos (show (204 : Int) ≤ (held1.size : Int) by rw [hs]; decide)]
 ·refine Ev.bind Next_held1 ?_
  simp only [if_true]
  exact Ev.bind ab_crc (Ev.now _)
theorem Active_held1 : Ev (fun k => skiffref1_Active.f k held1) (0, 0, 0, 0, 0, 701) := by
 have h := ref_Scan_ev held1
 rw [scanV_held1] at h
 unfold skiffref1_Active.f
 refine Ev.bind h ?_
 exact Ev.one fun k => by
  show skiffref1_Active.l0 (k + 1) held1 [] (-1) 0 = _
  rw [skiffref1_Active.l0, if_neg (by decide), if_pos (by decide)]
theorem wordsV_rec1 : wordsV 0 rec1 = (wl (0 : Nat) rec1 (many rec1), 0) := by
 unfold wordsV
 rw [if_pos ⟨by omega, by omega, by decide, by rw [rec1_size]; omega⟩]; rfl
theorem wordsV_ab : wordsV 192 ab = (wl (192 : Nat) ab (many ab), 0) := by
 unfold wordsV
 rw [if_pos ⟨by omega, by omega, by decide, by rw [ab_size]; omega⟩]; rfl
theorem Append_held1 : Ev (fun k => skiffref1_Append.f k held1 1 0 12 abSum) (wl (0 : Nat) rec1 (many rec1), 0) := by
 have hp := PutEntry_ev 1 0 12 abSum
 rw [show putV 1 0 12 abSum = (rec1, 0) from by unfold putV; rw [if_pos rec1_may]; rfl] at hp
 have e : ((held1.size : Int) == 768) = true := by rw [held1_size]; rfl
 have hf := ref_Free_ev held1 0
 rw [freeV_held1] at hf
 have hw := ref_Words_ev 0 rec1 (by omega) (by rw [rec1_size]; omega)
 rw [wordsV_rec1] at hw
 unfold skiffref1_Append.f skiffref1_FlashMay.f
 refine Ev.bind hp ?_
 simp only [Option.bind_some, e, if_true]
 refine Ev.step (f := fun k => (skiffref1_Active.f k held1).bind fun bt410 => (if bt410.2.2.2.2.2 = 0 then (skiffref1_Append.j1 k held1 rec1 (wrap64 (Int.tdiv bt410.1 96))) else (skiffref1_Append.j1 k held1 rec1 0))) (fun k => by rw [skiffref1_Append.j0]; rfl) ?_
 refine Ev.bind Active_held1 ?_
 simp only [show ¬ ((701 : Int) = 0) by decide, if_false]
 refine Ev.step (fun k => by rw [skiffref1_Append.j1]) ?_
 refine Ev.bind hf ?_
 simp only [if_true]
 refine Ev.bind hw ?_
 have hl : ([] : List S35).length + (wl (0 : Nat) rec1 (many rec1)).length < 4398046511104 := by rw [wl_length, rec1_many]; decide
 simp only [if_pos hl]
 exact Ev.now _
end Go.Proofs.Ytjihlabmddfjhaa.M

/- Plain facts: the sum of a text, by the program and by the reference: the same; no memory in sight. -/
set_option linter.unnecessarySimpa false
set_option linter.unusedSimpArgs false
set_option linter.unusedVariables false
namespace Go.Proofs.Ytjihlabmddfjhaa.M
open Go.RowKit Go.Proofs.YtjihlabmddfjhaaW.PrintWords Go.Proofs.YtjihlabmddfjhaaW.PrintLast Go.Proofs.YtjihlabmddfjhaaW.PrintMore Go.Proofs.Ytjihlabmddfjhaa.Hand Go.Proofs.Ytjihlabmddfjhaa.PAll
abbrev B4 (x : Int) : BitVec 32 := BitVec.ofInt 32 x
theorem wrap32 (b : BitVec 32) : IntKind.u32.wrap (b.toNat : Int) = b.toNat := by
 rw [IntKind.wrap_u32]; have := b.isLt; omega
theorem bits_and_u32 (x y : Int) : Go.bits .and .u32 x y = ((B4 x &&& B4 y).toNat : Int) := wrap32 _
theorem bits_xor_u32 (x y : Int) : Go.bits .xor .u32 x y = ((B4 x ^^^ B4 y).toNat : Int) := wrap32 _
theorem and1_u32 (x : Int) : Go.bits .and .u32 x 1 = 0 ∨ Go.bits .and .u32 x 1 = 1 := by
 rw [bits_and_u32]
 have : (B4 x &&& B4 1).toNat = (B4 x).toNat % 2 := by rw [BitVec.toNat_and, show (B4 1).toNat = 1 from rfl, Nat.and_one_is_mod]
 rw [this]; omega
/-- One bit goes out of the sum. -/
def bitS (x : Int) : Int := if Go.bits .and .u32 x 1 = 0 then x / 2 else Go.bits .xor .u32 (x / 2) 3988292384
def itS : Nat → Int → Int
 | 0, x => x
 | n + 1, x => itS n (bitS x)
theorem stepl (d : Nat) : ∀ (k i : Nat) (x : Int), i + d = 8 → d < k → PBase.crc_step.l0 k x (i : Int) = some (itS d x) := by
 induction d with
 | zero =>
  intro k i x hi hk
  obtain ⟨k, rfl⟩ : ∃ m, k = m + 1 := ⟨k - 1, by omega⟩
  rw [PBase.crc_step.l0, if_neg (by omega)]; rfl
 | succ d ih =>
  intro k i x hi hk
  obtain ⟨k, rfl⟩ : ∃ m, k = m + 1 := ⟨k - 1, by omega⟩
  have hw : wrap64 ((i : Int) + 1) = ((i + 1 : Nat) : Int) := by unfold wrap64; omega
  rw [PBase.crc_step.l0, if_pos (by omega), hw, itS, bitS]
  by_cases c : Go.bits .and .u32 x 1 = 0
  ·rw [if_pos c, if_pos c]; exact ih k (i + 1) _ (by omega) (by omega)
  ·rw [if_neg c, if_neg c]; exact ih k (i + 1) _ (by omega) (by omega)
theorem crcStep_it (x b : Int) : crcStep x b = itS 8 (Go.bits .xor .u32 x (b % 4294967296)) := by
 have h := stepl 8 9 0 (Go.bits .xor .u32 x (b % 4294967296)) (by omega) (by omega)
 have h2 : PBase.crc_step.f 9 x b = some (itS 8 (Go.bits .xor .u32 x (b % 4294967296))) := h
 unfold crcStep
 rw [h2]; rfl
def crcV (s : ByteArray) : Int := wrap64 (Go.bits .xor .u32 IntKind.u32.max (crcL (bytesOf s)))
theorem crc_Sum_eq (s : ByteArray) (h : s.size ≤ 140737488355328) : crc_Sum.f s = some (crcV s) := by
 unfold crc_Sum.f; rw [if_pos h]; rfl
theorem Crc_bits (s : ByteArray) (j : Int) (r : Int) (d : Nat) : ∀ (i : Nat) (x : Int), i + d = 8 → Ev (fun k => skiffref1_Crc.l0 k s (itS d x) (wrap64 (j + 1))) r → Ev (fun k => skiffref1_Crc.l1 k s x j (i : Int)) r := by
 induction d with
 | zero =>
  intro i x hi h
  exact Ev.step (fun k => by rw [skiffref1_Crc.l1, if_neg (by omega)]; rfl) h
 | succ d ih =>
  intro i x hi h
  have hw : wrap64 ((i : Int) + 1) = ((i + 1 : Nat) : Int) := by unfold wrap64; omega
  have h1 := ih (i + 1) (bitS x) (by omega) h
  refine Ev.step (fun k => ?_) h1
  rw [skiffref1_Crc.l1, if_pos (by omega), hw, bitS]
  rcases and1_u32 x with c | c
  ·rw [if_neg (by omega), if_pos c]
  ·rw [if_pos c, if_neg (by omega)]
theorem Crc_go (s : ByteArray) (hs : s.size ≤ 140737488355328) (d : Nat) : ∀ (j : Nat) (x : Int), j + d = s.size → Ev (fun k => skiffref1_Crc.l0 k s x (j : Int)) (wrap64 (Go.bits .xor .u32 IntKind.u32.max (((bytesOf s).drop j).foldl crcStep x))) := by
 induction d with
 | zero =>
  intro j x hj
  refine Ev.one fun k => ?_
  rw [skiffref1_Crc.l0, if_neg (by omega), List.drop_eq_nil_of_le (by rw [bytesOf_length]; omega)]; rfl
 | succ d ih =>
  intro j x hj
  have hl : j < (bytesOf s).length := by rw [bytesOf_length]; omega
  have hw : wrap64 ((j : Int) + 1) = ((j + 1 : Nat) : Int) := by unfold wrap64; omega
  have e : (bytesOf s)[j] = bt s (j : Int) := by
   have := rd_bytesOf s (j : Int)
   rw [← this]; simp [rd, List.getElem?_eq_getElem hl]
  have h1 := ih (j + 1) (crcStep x (bt s (j : Int))) (by omega)
  rw [List.drop_eq_getElem_cons hl, List.foldl_cons, e]
  refine Ev.step (fun k => by rw [skiffref1_Crc.l0, if_pos (by omega), if_pos (by omega)]) ?_
  refine Crc_bits s (j : Int) _ 8 0 _ rfl ?_
  rw [hw, ← crcStep_it]
  exact h1
theorem Crc_ev (s : ByteArray) (hs : s.size ≤ 140737488355328) : Ev (fun k => skiffref1_Crc.f k s) (crcV s) := by
 unfold skiffref1_Crc.f crcV crcL
 exact Crc_go s hs s.size 0 4294967295 (by omega)
end Go.Proofs.Ytjihlabmddfjhaa.M

/- Plain facts: texts that differ in one byte have other sums; no memory in sight. -/
set_option linter.unnecessarySimpa false
set_option linter.unusedSimpArgs false
set_option linter.unusedVariables false
namespace Go.Proofs.Ytjihlabmddfjhaa.M
open Go.RowKit Go.Proofs.YtjihlabmddfjhaaW.PrintWords Go.Proofs.YtjihlabmddfjhaaW.PrintLast Go.Proofs.YtjihlabmddfjhaaW.PrintMore Go.Proofs.Ytjihlabmddfjhaa.Hand Go.Proofs.Ytjihlabmddfjhaa.PAll
theorem B4_inj {x y : Int} (h0 : 0 ≤ x) (h1 : x < 4294967296) (h2 : 0 ≤ y) (h3 : y < 4294967296) (h : B4 x = B4 y) : x = y := by
 obtain ⟨a, rfl⟩ := Int.eq_ofNat_of_zero_le h0
 obtain ⟨b, rfl⟩ := Int.eq_ofNat_of_zero_le h2
 have e := congrArg BitVec.toNat h
 have ea : (B4 (a : Int)).toNat = a := by show (BitVec.ofInt 32 (a : Int)).toNat = a; rw [BitVec.ofInt_natCast, BitVec.toNat_ofNat]; omega
 have eb : (B4 (b : Int)).toNat = b := by show (BitVec.ofInt 32 (b : Int)).toNat = b; rw [BitVec.ofInt_natCast, BitVec.toNat_ofNat]; omega
 rw [ea, eb] at e; omega
theorem xor_inj {a b c : BitVec 32} (h : a ^^^ c = b ^^^ c) : a = b := by
 have := congrArg (· ^^^ c) h
 simpa [BitVec.xor_assoc] using this
theorem xor32_inj {x y p : Int} (h0 : 0 ≤ x) (h1 : x < 4294967296) (h2 : 0 ≤ y) (h3 : y < 4294967296) (h : Go.bits .xor .u32 x p = Go.bits .xor .u32 y p) : x = y := by
 rw [bits_xor_u32, bits_xor_u32] at h
 exact B4_inj h0 h1 h2 h3 (xor_inj (BitVec.eq_of_toNat_eq (by exact_mod_cast h)))
theorem xor32_injr {x p q : Int} (h0 : 0 ≤ p) (h1 : p < 4294967296) (h2 : 0 ≤ q) (h3 : q < 4294967296) (h : Go.bits .xor .u32 x p = Go.bits .xor .u32 x q) : p = q := by
 rw [bits_xor_u32, bits_xor_u32, BitVec.xor_comm (B4 x), BitVec.xor_comm (B4 x)] at h
 exact B4_inj h0 h1 h2 h3 (xor_inj (BitVec.eq_of_toNat_eq (by exact_mod_cast h)))
theorem xor32_range (x y : Int) : 0 ≤ Go.bits .xor .u32 x y ∧ Go.bits .xor .u32 x y < 4294967296 := by
 rw [bits_xor_u32]; have := (B4 x ^^^ B4 y).isLt; omega
theorem and1_mod {x : Int} (h0 : 0 ≤ x) (h1 : x < 4294967296) : Go.bits .and .u32 x 1 = x % 2 := by
 rw [bits_and_u32]
 have e : (B4 x &&& B4 1).toNat = (B4 x).toNat % 2 := by rw [BitVec.toNat_and, show (B4 1).toNat = 1 from rfl, Nat.and_one_is_mod]
 rw [e]
 obtain ⟨a, rfl⟩ := Int.eq_ofNat_of_zero_le h0
 have ea : (B4 (a : Int)).toNat = a := by show (BitVec.ofInt 32 (a : Int)).toNat = a; rw [BitVec.ofInt_natCast, BitVec.toNat_ofNat]; omega
 rw [ea]; omega
theorem poly_high {y : Int} (h0 : 0 ≤ y) (h1 : y < 2147483648) : 2147483648 ≤ Go.bits .xor .u32 y 3988292384 := by
 rw [bits_xor_u32]
 have top : (B4 y ^^^ B4 3988292384).getLsbD 31 = true := by
  rw [BitVec.getLsbD_xor]
  have e1 : (B4 y).getLsbD 31 = false := by
   obtain ⟨a, rfl⟩ := Int.eq_ofNat_of_zero_le h0
   show (BitVec.ofInt 32 (a : Int)).getLsbD 31 = false
   rw [BitVec.ofInt_natCast, BitVec.getLsbD_ofNat, Nat.testBit_lt_two_pow (by omega)]; rfl
  have e2 : (B4 3988292384).getLsbD 31 = true := by decide
  rw [e1, e2]; rfl
 have := Nat.ge_two_pow_of_testBit (show (B4 y ^^^ B4 3988292384).toNat.testBit 31 = true from top)
 omega
theorem bitS_range {x : Int} (h0 : 0 ≤ x) (h1 : x < 4294967296) : 0 ≤ bitS x ∧ bitS x < 4294967296 := by
 unfold bitS; split
 ·omega
 ·exact xor32_range _ _
theorem bitS_inj {x y : Int} (h0 : 0 ≤ x) (h1 : x < 4294967296) (h2 : 0 ≤ y) (h3 : y < 4294967296) (h : bitS x = bitS y) : x = y := by
 unfold bitS at h
 rw [and1_mod h0 h1, and1_mod h2 h3] at h
 have px := poly_high (y := x / 2) (by omega) (by omega)
 have py := poly_high (y := y / 2) (by omega) (by omega)
 by_cases c : x % 2 = 0 <;> by_cases d : y % 2 = 0
 ·rw [if_pos c, if_pos d] at h; omega
 ·rw [if_pos c, if_neg d] at h; omega
 ·rw [if_neg c, if_pos d] at h; omega
 ·rw [if_neg c, if_neg d] at h
  have := xor32_inj (by omega) (by omega) (by omega) (by omega) h
  omega
theorem itS_range (n : Nat) : ∀ {x : Int}, 0 ≤ x → x < 4294967296 → 0 ≤ itS n x ∧ itS n x < 4294967296 := by
 induction n with
 | zero => intro x h0 h1; exact ⟨h0, h1⟩
 | succ n ih => intro x h0 h1; exact ih (bitS_range h0 h1).1 (bitS_range h0 h1).2
theorem itS_inj (n : Nat) : ∀ {x y : Int}, 0 ≤ x → x < 4294967296 → 0 ≤ y → y < 4294967296 → itS n x = itS n y → x = y := by
 induction n with
 | zero => intro x y _ _ _ _ h; exact h
 | succ n ih =>
  intro x y h0 h1 h2 h3 h
  exact bitS_inj h0 h1 h2 h3 (ih (bitS_range h0 h1).1 (bitS_range h0 h1).2 (bitS_range h2 h3).1 (bitS_range h2 h3).2 h)
theorem crcStep_range (x b : Int) : 0 ≤ crcStep x b ∧ crcStep x b < 4294967296 := by
 rw [crcStep_it]; exact itS_range 8 (xor32_range _ _).1 (xor32_range _ _).2
theorem crcStep_inj {x y b : Int} (h0 : 0 ≤ x) (h1 : x < 4294967296) (h2 : 0 ≤ y) (h3 : y < 4294967296) (h : crcStep x b = crcStep y b) : x = y := by
 rw [crcStep_it, crcStep_it] at h
 exact xor32_inj h0 h1 h2 h3 (itS_inj 8 (xor32_range _ _).1 (xor32_range _ _).2 (xor32_range _ _).1 (xor32_range _ _).2 h)
theorem crcStep_injr {x b c : Int} (h0 : 0 ≤ b) (h1 : b < 256) (h2 : 0 ≤ c) (h3 : c < 256) (h : crcStep x b = crcStep x c) : b = c := by
 rw [crcStep_it, crcStep_it] at h
 have := xor32_injr (by omega) (by omega) (by omega) (by omega) (itS_inj 8 (xor32_range _ _).1 (xor32_range _ _).2 (xor32_range _ _).1 (xor32_range _ _).2 h)
 omega
theorem fold_range (l : List Int) : ∀ {x : Int}, 0 ≤ x → x < 4294967296 → 0 ≤ l.foldl crcStep x ∧ l.foldl crcStep x < 4294967296 := by
 induction l with
 | nil => intro x h0 h1; exact ⟨h0, h1⟩
 | cons b l ih => intro x h0 h1; exact ih (crcStep_range x b).1 (crcStep_range x b).2
theorem fold_inj (l : List Int) : ∀ {x y : Int}, 0 ≤ x → x < 4294967296 → 0 ≤ y → y < 4294967296 → l.foldl crcStep x = l.foldl crcStep y → x = y := by
 induction l with
 | nil => intro x y _ _ _ _ h; exact h
 | cons b l ih =>
  intro x y h0 h1 h2 h3 h
  exact crcStep_inj h0 h1 h2 h3 (ih (crcStep_range x b).1 (crcStep_range x b).2 (crcStep_range y b).1 (crcStep_range y b).2 h)
theorem crcL_range (l : List Int) : 0 ≤ crcL l ∧ crcL l < 4294967296 := fold_range l (by omega) (by omega)
theorem crcV_inj {s t : ByteArray} (h : crcV s = crcV t) : crcL (bytesOf s) = crcL (bytesOf t) := by
 unfold crcV at h
 have a := xor32_range IntKind.u32.max (crcL (bytesOf s))
 have b := xor32_range IntKind.u32.max (crcL (bytesOf t))
 have e : Go.bits .xor .u32 IntKind.u32.max (crcL (bytesOf s)) = Go.bits .xor .u32 IntKind.u32.max (crcL (bytesOf t)) := by unfold wrap64 at h; omega
 have p := crcL_range (bytesOf s)
 have q := crcL_range (bytesOf t)
 exact xor32_injr p.1 p.2 q.1 q.2 e
theorem bytesOf_at (s : ByteArray) (j : Nat) (h : j < (bytesOf s).length) : (bytesOf s)[j] = bt s (j : Int) := by
 have := rd_bytesOf s (j : Int)
 rw [← this]; simp [rd, List.getElem?_eq_getElem h]
/-- One byte is another one: so is the sum. -/
theorem crc_diff {s t : ByteArray} (hs : s.size = t.size) (j : Nat) (hj : j < s.size) (hne : bt s (j : Int) ≠ bt t (j : Int)) (ho : ∀ i : Nat, i < s.size → i ≠ j → bt s (i : Int) = bt t (i : Int)) (hb : ∀ i : Nat, 0 ≤ bt s (i : Int) ∧ bt s (i : Int) < 256) (hc : ∀ i : Nat, 0 ≤ bt t (i : Int) ∧ bt t (i : Int) < 256) : crcV s ≠ crcV t := by
 intro h
 have h1 := crcV_inj h
 have l1 : (bytesOf s).length = s.size := bytesOf_length s
 have l2 : (bytesOf t).length = t.size := bytesOf_length t
 have js : j < (bytesOf s).length := by omega
 have jt : j < (bytesOf t).length := by omega
 have e1 : bytesOf s = (bytesOf s).take j ++ bt s (j : Int) :: (bytesOf s).drop (j + 1) := by
  rw [← bytesOf_at s j js, ← List.drop_eq_getElem_cons js, List.take_append_drop]
 have e2 : bytesOf t = (bytesOf t).take j ++ bt t (j : Int) :: (bytesOf t).drop (j + 1) := by
  rw [← bytesOf_at t j jt, ← List.drop_eq_getElem_cons jt, List.take_append_drop]
 have a1 : (bytesOf s).take j = (bytesOf t).take j := by
  apply List.ext_getElem
  ·rw [List.length_take, List.length_take, l1, l2, hs]
  ·intro i p q
   rw [List.length_take] at p q
   rw [List.getElem_take, List.getElem_take, bytesOf_at, bytesOf_at]
   exact ho i (by omega) (by omega)
 have a2 : (bytesOf s).drop (j + 1) = (bytesOf t).drop (j + 1) := by
  apply List.ext_getElem
  ·rw [List.length_drop, List.length_drop, l1, l2, hs]
  ·intro i p q
   rw [List.length_drop] at p q
   rw [List.getElem_drop, List.getElem_drop, bytesOf_at, bytesOf_at]
   exact ho _ (by omega) (by omega)
 rw [e1, e2, a1, a2] at h1
 unfold crcL at h1
 rw [List.foldl_append, List.foldl_append, List.foldl_cons, List.foldl_cons] at h1
 have r := fun x => crcStep_range (List.foldl crcStep 4294967295 ((bytesOf t).take j)) x
 have h2 := fold_inj _ (r _).1 (r _).2 (r _).1 (r _).2 h1
 exact hne (crcStep_injr (hb j).1 (hb j).2 (hc j).1 (hc j).2 h2)
end Go.Proofs.Ytjihlabmddfjhaa.M

-- Written by this session's own program (wip/tools/myprint.py), which runs the kit's print over functions proved by hand.
namespace Go.Proofs.Ytjihlabmddfjhaa.PAll
open Go.RowKit Go.Proofs.YtjihlabmddfjhaaW.PrintWords Go.Proofs.YtjihlabmddfjhaaW.PrintLast Go.Proofs.YtjihlabmddfjhaaW.PrintMore
attribute [local go_sem] max2_int min2_int max_two min_two max_three min_three max_four min_four   -- for this text's walks alone
set_option linter.unusedVariables false
set_option linter.unusedSimpArgs false
def place_Next.l0 : Nat → Int → List (S59) → Int → Int → Option (Int × Int)
 | 0, _, _, _, _ => none
 | k + 1, x6, x16, x17, x18 => if x18 < x17 then (if 0 ≤ x18 then (if x18 < (x16.length : Int) then (place_Next.l0 k (mx x6 ((rd_T59 x16 x18).f1.f0)) x16 x17 (wrap64 (x18 + 1))) else (none)) else (none)) else (if x6 ≥ 1048576 then (some (0, 801)) else (some (wrap64 (x6 + 1), 0)))
def place_Next.f (k : Nat) (a0 : ByteArray) : Option (Int × Int) := (journal_Scan.f k a0).bind fun bt503 => (if bt503.2 = 0 then (place_Next.l0 k 0 bt503.1 (bt503.1.length : Int) 0) else (some (0, 800)))
set_option maxHeartbeats 8000000 in
set_option maxRecDepth 100000 in
theorem place_Next.calls (k : Nat) (a0 : ByteArray) (r1 : Int) (r2 : Int) (w : World) (h : place_Next.f k a0 = some (r1, r2)) :
  Calls Try.prog 37 #[.string a0] w fun e w' => e = .returned (.tuple #[.int .i64 r1, .int .i64 r2]) ∧ Below w.heap.size w w' := by
 have hu59 := Try.underlying59
 have HB := Aside0.mk (Below.refl w.heap.size w)
 have H : ((journal_Scan.f k a0).bind fun bt503 => (if bt503.2 = 0 then (place_Next.l0 k 0 bt503.1 (bt503.1.length : Int) 0) else (some (0, 800)))) = some (r1, r2) := h
 clear h
 replace H := Option.bind_eq_some_iff.mp H
 obtain ⟨⟨t503, t504⟩, A20, H⟩ := H
 replace H : (if t504 = 0 then (place_Next.l0 k 0 t503 (t503.length : Int) 0) else (some (0, 800))) = some (r1, r2) := H
 have A2 := Aside0.mk A20
 clear A20
 by_cases c3 : t504 = 0
 ·rw [if_pos c3] at H
  have c3b0 : (t504 == 0) = true := beq_iff_eq.mpr c3
  have c3b1 : (t504 != 0) = false := bne_eq_false_iff_eq.mpr c3
  clear c3
  have H' := Aside0.mk H
  clear H
  go_enter Try.func37, Try.ntmps37
  go_wp2_with (first | ((with_reducible refine gate_callee (f := 30) rfl ?_); refine goesL_ (some 11) rfl rfl Try.func30 (by kernel_rfl) rfl #[.string a0] rfl q1_ ?_; (with_reducible refine (journal_Scan.calls k a0 t503 t504 _ A2.out).mono ?_); rintro e w4 ⟨v505, rfl, ho0, hb⟩; refine ⟨_, rfl, ?_⟩; have n0_ := Aside0.mk (Kd.R_lower ho0 (below_size q2_)); have n1_ := Aside0.mk (below_step q2_ hb); clear HB; have HO506 := n0_; have HB := n1_; clear n0_ n1_; (try clear hb); (try clear hb2); (try clear hk); (try clear hi); (try clear ho0); obtain ⟨Ao5, co5, eo5⟩ := Kd.R_slice HO506.out; subst eo5))
  go_loopg [6, 18] k (fun kq v6 v18 w' => ∃ (x6_1 : Int) (x18_1 : Int), v6 = .int .i64 x6_1 ∧ v18 = .int .i64 x18_1 ∧ Aside0 (place_Next.l0 kq x6_1 t503 (t503.length : Int) x18_1 = some (r1, r2)) ∧ Aside0 (kq ≤ k) ∧ Aside0 (Kd.R k59 59 w' w.heap.size (fun _ => True) (.slice Ao5 t503.length co5) t503) ∧ Aside0 (Below w.heap.size w w'))
  case atStart => exact ⟨(0), (0), q4_, q4_, H', ⟨Nat.le_refl _⟩, ⟨by (with_reducible repeat (first | apply Kd.R_alloc | apply Kd.R_drewN | apply Kd.R_drew)); exact HO506.out⟩, ⟨by repeat (first | (with_reducible first | exact HB.out | apply below_alloc | apply pw_below_drewN | apply below_drew1) | exact HB.out)⟩⟩
  case round =>
   clear H'
   try clear p2
   try clear c3
   try clear c3b0
   try clear c3b1
   obtain ⟨x6_1, x18_1, rfl, rfl, HA, HK1, HO_16, HB⟩ := hrel
   cases gk with
   | zero => exact absurd HA.out (by simp [place_Next.l0])
   | succ k1 =>
    have H := HA.out
    clear HA
    simp only [place_Next.l0] at H
    by_cases c6 : x18_1 < (t503.length : Int)
    ·rw [if_pos c6] at H
     have c6b0 : decide (x18_1 < (t503.length : Int)) = true := decide_eq_true c6
     clear c6
     by_cases c7 : 0 ≤ x18_1
     ·rw [if_pos c7] at H
      have c7b0 : decide (0 ≤ x18_1) = true := decide_eq_true c7
      clear c7
      by_cases c8 : x18_1 < (t503.length : Int)
      ·rw [if_pos c8] at H
       have c8b0 : decide (x18_1 < (t503.length : Int)) = true := decide_eq_true c8
       clear c8
       obtain ⟨ji9, hji9⟩ : ∃ j_ : Int, (mx x6_1 ((rd_T59 t503 x18_1).f1.f0)) = j_ := ⟨_, rfl⟩
       replace H : (place_Next.l0 k1 ji9 t503 (t503.length : Int) (wrap64 (x18_1 + 1))) = some (r1, r2) := by first | (rw [hji9] at H; exact H) | (simp only [hji9] at H ⊢; exact H)
       have hji9_ : (if x6_1 < ((rd_T59 t503 x18_1).f1.f0) then ((rd_T59 t503 x18_1).f1.f0) else x6_1) = ji9 := hji9
       have H' := Aside0.mk H
       clear H
       have p507 : 0 ≤ (x18_1 : Int) := of_decide_eq_true q5_
       have q507 : x18_1 < (t503.length : Int) := of_decide_eq_true q5_
       obtain ⟨ad507, e507, hx507_0, hx507_1, hx507_2, hx507_3, hx507_4⟩ := at_T59 (Kd.R_reads' HO_16.out).2.2 x18_1 p507 q507
       cases e507
       replace p507 := eq_true p507
       replace q507 := eq_true q507
       go_wp2_with (first | ((with_reducible refine gate_dst (N := 8) rfl ?_); refine box_event ?hg (N := 8) ?hd (cs := #[.int .i64 0, .int .i64 0, .int .i64 0, .int .i64 0, .int .i64 0]) (t := 59) ?hr ?_; (case hd => rfl); (case hg => rfl); (case hr => first | (go_simp; done) | (go_simp; rfl)); intro gb508 hg w10 hbox hb; have n0_ := Aside0.mk (Kd.R_below (Kd.R_elderB (by (with_reducible repeat (first | apply Kd.R_alloc | apply Kd.R_drewN | apply Kd.R_drew)); exact HO_16.out) gb508 (Nat.le_of_eq hg.symm)) hb); have n1_ := Aside0.mk (below_step q2_ hb); have n2_ := Aside0.mk (hbox); have n3_ := Aside0.mk ((by rw [hg]; exact (below_size q2_) : w.heap.size ≤ gb508)); have n4_ := Aside0.mk ((by rw [hg]; exact (below_size q2_) : w.heap.size ≤ gb508)); clear HO_16; clear HB; have HO_16 := n0_; have HB := n1_; have BK508 := n2_; have GW508 := n3_; have GE508 := n4_; clear n0_ n1_ n2_ n3_ n4_; clear hb hbox hg; have hcz11_0 : w10.cell? ⟨gb508, 0, none⟩ = some (.int .i64 0) := (blk_cell BK508.out 0).trans rfl; have hcz11_1 : w10.cell? ⟨gb508, 1, none⟩ = some (.int .i64 0) := (blk_cell BK508.out 1).trans rfl; have hcz11_2 : w10.cell? ⟨gb508, 2, none⟩ = some (.int .i64 0) := (blk_cell BK508.out 2).trans rfl; have hcz11_3 : w10.cell? ⟨gb508, 3, none⟩ = some (.int .i64 0) := (blk_cell BK508.out 3).trans rfl; have hcz11_4 : w10.cell? ⟨gb508, 4, none⟩ = some (.int .i64 0) := (blk_cell BK508.out 4).trans rfl; have hfz11_0 := blk_frozen BK508.out 0; have hfz11_1 := blk_frozen BK508.out 1; have hfz11_2 := blk_frozen BK508.out 2; have hfz11_3 := blk_frozen BK508.out 3; have hfz11_4 := blk_frozen BK508.out 4))
       go_roundg k1
       case measure => have := HK1.out; omega
       case rel => exact ⟨(ji9), (wrap64 (x18_1 + 1)), (by first | rfl | (simp; done) | (simp only [← hji9] <;> (first | rfl | simp)) | (simp [*]; done)), q4_, H', ⟨by have := HK1.out; omega⟩, ⟨by (with_reducible repeat (first | apply Kd.R_alloc | apply Kd.R_drewN | apply Kd.R_drew)); exact Kd.R_mono (Kd.R_far (p := ⟨gb508, 4, none⟩) (Kd.R_far (p := ⟨gb508, 3, none⟩) (Kd.R_far (p := ⟨gb508, 2, none⟩) (Kd.R_far (p := ⟨gb508, 1, none⟩) (Kd.R_far (p := ⟨gb508, 0, none⟩) (Kd.R_mono HO_16.out (fun k_ hk => (⟨hk, hk.2⟩ : _ ∧ k_ ≠ gb508))) (fun _ hk => hk.2) (.int .i64 ((rd_T59 t503 x18_1).f0))) (fun _ hk => hk.2) (.int .i64 ((rd_T59 t503 x18_1).f1.f0))) (fun _ hk => hk.2) (.int .i64 ((rd_T59 t503 x18_1).f1.f1))) (fun _ hk => hk.2) (.int .i64 ((rd_T59 t503 x18_1).f1.f2))) (fun _ hk => hk.2) (.int .i64 ((rd_T59 t503 x18_1).f1.f3))) (fun _ hk => trivial)⟩, ⟨by repeat (first | (with_reducible first | exact HB.out | apply below_alloc | apply pw_below_drewN | apply below_drew1 | refine below_set ?_ GE508.out) | exact HB.out)⟩⟩
      ·rw [if_neg c8] at H
       exact absurd H (by simp)
     ·rw [if_neg c7] at H
      exact absurd H (by simp)
    ·rw [if_neg c6] at H
     have c6b0 : decide (x18_1 < (t503.length : Int)) = false := decide_eq_false c6
     clear c6
     by_cases c12 : x6_1 ≥ 1048576
     ·rw [if_pos c12] at H
      have c12b0 : decide (1048576 ≤ x6_1) = true := decide_eq_true c12
      clear c12
      simp only [Option.some.injEq, Prod.mk.injEq] at H
      obtain ⟨rfl, rfl⟩ := H
      go_wp2
      go_ret2
      exact ⟨by first | rfl | (simp [errW_none, errW_some] <;> rfl) | (simp [*, errW_none, errW_some] <;> rfl), by repeat (first | (with_reducible first | exact HB.out | apply below_alloc | apply pw_below_drewN | apply below_drew1) | exact HB.out)⟩
     ·rw [if_neg c12] at H
      have c12b0 : decide (1048576 ≤ x6_1) = false := decide_eq_false c12
      clear c12
      simp only [Option.some.injEq, Prod.mk.injEq] at H
      obtain ⟨rfl, rfl⟩ := H
      go_wp2
      go_ret2
      exact ⟨by first | rfl | (simp [errW_none, errW_some] <;> rfl) | (simp [*, errW_none, errW_some] <;> rfl), by repeat (first | (with_reducible first | exact HB.out | apply below_alloc | apply pw_below_drewN | apply below_drew1) | exact HB.out)⟩
 ·rw [if_neg c3] at H
  have c3b0 : (t504 == 0) = false := beq_eq_false_iff_ne.mpr c3
  have c3b1 : (t504 != 0) = true := bne_iff_ne.mpr c3
  simp only [Option.some.injEq, Prod.mk.injEq] at H
  obtain ⟨rfl, rfl⟩ := H
  go_enter Try.func37, Try.ntmps37
  go_wp2_with (first | ((with_reducible refine gate_callee (f := 30) rfl ?_); refine goesL_ (some 11) rfl rfl Try.func30 (by kernel_rfl) rfl #[.string a0] rfl q1_ ?_; (with_reducible refine (journal_Scan.calls k a0 t503 t504 _ A2.out).mono ?_); rintro e w13 ⟨v505, rfl, ho0, hb⟩; refine ⟨_, rfl, ?_⟩; have n0_ := Aside0.mk (Kd.R_lower ho0 (below_size q2_)); have n1_ := Aside0.mk (below_step q2_ hb); clear HB; have HO506 := n0_; have HB := n1_; clear n0_ n1_; (try clear hb); (try clear hb2); (try clear hk); (try clear hi); (try clear ho0)))
  go_ret2
  exact ⟨by first | rfl | (simp [errW_none, errW_some] <;> rfl) | (simp [*, errW_none, errW_some] <;> rfl), by repeat (first | (with_reducible first | exact HB.out | apply below_alloc | apply pw_below_drewN | apply below_drew1) | exact HB.out)⟩
def image_Sector.f (a0 : Int) : Option (Int) := some (wrap64 (2 + (wrap64 (3 * a0))))
set_option maxHeartbeats 8000000 in
set_option maxRecDepth 100000 in
theorem image_Sector.calls (a0 : Int) (r : Int) (w : World) (h : image_Sector.f a0 = some r) :
  Calls Try.prog 59 #[.int .i64 a0] w fun e w' => e = .returned (.int .i64 r) ∧ Drawn0 w w' := by
 have H : (some (wrap64 (2 + (wrap64 (3 * a0))))) = some r := h
 clear h
 obtain rfl := Option.some.inj H
 go_enter Try.func59, Try.ntmps59
 go_wp2
 go_ret
 exact ⟨by first | rfl | (simp; done) | (simp [*]; done), by repeat (first | exact Drawn0.refl _ | apply Drawn0.step)⟩
def image_Base.f (a0 : Int) : Option (Int × Int) := (entry_Slot.f a0).bind fun t509 => (if t509 = true then ((image_Sector.f a0).bind fun t510 => ((journal_Begin.f t510).bind fun t511 => (some (t511, 0)))) else (some (0, 600)))
set_option maxHeartbeats 8000000 in
set_option maxRecDepth 100000 in
theorem image_Base.calls (a0 : Int) (r1 : Int) (r2 : Int) (w : World) (h : image_Base.f a0 = some (r1, r2)) :
  Calls Try.prog 38 #[.int .i64 a0] w fun e w' => e = .returned (.tuple #[.int .i64 r1, .int .i64 r2]) ∧ Drawn0 w w' := by
 have H : ((entry_Slot.f a0).bind fun t509 => (if t509 = true then ((image_Sector.f a0).bind fun t510 => ((journal_Begin.f t510).bind fun t511 => (some (t511, 0)))) else (some (0, 600)))) = some (r1, r2) := h
 clear h
 replace H := Option.bind_eq_some_iff.mp H
 obtain ⟨t509, A20, H⟩ := H
 replace H : (if t509 = true then ((image_Sector.f a0).bind fun t510 => ((journal_Begin.f t510).bind fun t511 => (some (t511, 0)))) else (some (0, 600))) = some (r1, r2) := H
 have A2 := Aside0.mk A20
 clear A20
 by_cases c3 : t509 = true
 ·subst c3
  have H1 : ((image_Sector.f a0).bind fun t510 => ((journal_Begin.f t510).bind fun t511 => (some (t511, 0)))) = some (r1, r2) := by rw [if_pos rfl] at H; exact H
  clear H
  have H := H1
  clear H1
  replace H := Option.bind_eq_some_iff.mp H
  obtain ⟨t510, A40, H⟩ := H
  replace H : ((journal_Begin.f t510).bind fun t511 => (some (t511, 0))) = some (r1, r2) := H
  have A4 := Aside0.mk A40
  clear A40
  replace H := Option.bind_eq_some_iff.mp H
  obtain ⟨t511, A50, H⟩ := H
  replace H : (some (t511, 0)) = some (r1, r2) := H
  have A5 := Aside0.mk A50
  clear A50
  simp only [Option.some.injEq, Prod.mk.injEq] at H
  obtain ⟨rfl, rfl⟩ := H
  go_enter Try.func38, Try.ntmps38
  go_wp2_with (first | ((with_reducible refine gate_callee (f := 35) rfl ?_); refine goesL_ (some 5) rfl rfl Try.func35 (by kernel_rfl) rfl #[.int .i64 a0] rfl q1_ ?_; (with_reducible refine (entry_Slot.calls a0 true _ A2.out).mono ?_); rintro e w' ⟨rfl, ⟨nd, rfl⟩⟩; refine ⟨_, rfl, ?_⟩) | ((with_reducible refine gate_callee (f := 59) rfl ?_); refine goesL_ (some 8) rfl rfl Try.func59 (by kernel_rfl) rfl #[.int .i64 a0] rfl q1_ ?_; (with_reducible refine (image_Sector.calls a0 t510 _ A4.out).mono ?_); rintro e w' ⟨rfl, ⟨nd, rfl⟩⟩; refine ⟨_, rfl, ?_⟩) | ((with_reducible refine gate_callee (f := 58) rfl ?_); refine goesL_ (some 9) rfl rfl Try.func58 (by kernel_rfl) rfl #[.int .i64 t510] rfl q1_ ?_; (with_reducible refine (journal_Begin.calls t510 t511 _ A5.out).mono ?_); rintro e w' ⟨rfl, ⟨nd, rfl⟩⟩; refine ⟨_, rfl, ?_⟩))
  go_ret2
  exact ⟨by first | rfl | (simp; done) | (simp [*]; done), by repeat (first | exact Drawn0.refl _ | apply Drawn0.step)⟩
 ·replace c3 := Bool.eq_false_iff.mpr c3
  subst c3
  have H1 : (some (0, 600)) = some (r1, r2) := by rw [if_neg (show ¬ (false = true) by decide)] at H; exact H
  clear H
  have H := H1
  clear H1
  simp only [Option.some.injEq, Prod.mk.injEq] at H
  obtain ⟨rfl, rfl⟩ := H
  go_enter Try.func38, Try.ntmps38
  go_wp2_with (first | ((with_reducible refine gate_callee (f := 35) rfl ?_); refine goesL_ (some 5) rfl rfl Try.func35 (by kernel_rfl) rfl #[.int .i64 a0] rfl q1_ ?_; (with_reducible refine (entry_Slot.calls a0 false _ A2.out).mono ?_); rintro e w' ⟨rfl, ⟨nd, rfl⟩⟩; refine ⟨_, rfl, ?_⟩))
  go_ret2
  exact ⟨by first | rfl | (simp; done) | (simp [*]; done), by repeat (first | exact Drawn0.refl _ | apply Drawn0.step)⟩
-- GIVEN: function 61 (crc_step): by hand
-- GIVEN: function 39 (crc_Sum): by hand
def stage_Record.j0 : Nat → ByteArray → Int → Int → Bool → Option (Int × Int × Int × Int × Int)
 | 0, _, _, _, _ => none
 | k + 1, x0, x1, x2, x24 => if x24 = true then (some (0, 0, 0, 0, 900)) else ((place_Next.f k x0).bind fun bt516 => (if bt516.2 = 0 then ((image_Base.f x1).bind fun bt518 => (if 0 ≤ bt518.1 then (if bt518.1 ≤ (wrap64 (bt518.1 + x2)) then (if (wrap64 (bt518.1 + x2)) ≤ (x0.size : Int) then ((Hand.crc_Sum.f (x0.extract (bt518.1 : Int).toNat ((wrap64 (bt518.1 + x2)) : Int).toNat)).bind fun t520 => (some (bt516.1, x1, x2, t520, 0))) else (none)) else (none)) else (none))) else (some (0, 0, 0, 0, bt516.2))))
def stage_Record.f (k : Nat) (a0 : ByteArray) (a1 : Int) (a2 : Int) : Option (Int × Int × Int × Int × Int) := (nor_May.f a0).bind fun t513 => (if t513 = true then ((entry_Slot.f a1).bind fun t514 => (if t514 = true then ((entry_Size.f a2).bind fun t515 => (stage_Record.j0 k a0 a1 a2 (!t515))) else (stage_Record.j0 k a0 a1 a2 true))) else (stage_Record.j0 k a0 a1 a2 true))
set_option maxHeartbeats 8000000 in
set_option maxRecDepth 100000 in
theorem stage_Record.calls (k : Nat) (a0 : ByteArray) (a1 : Int) (a2 : Int) (r1 : Int) (r2 : Int) (r3 : Int) (r4 : Int) (r5 : Int) (w : World) (h : stage_Record.f k a0 a1 a2 = some (r1, r2, r3, r4, r5)) :
  Calls Try.prog 12 #[.string a0, .int .i64 a1, .int .i64 a2] w fun e w' => e = .returned (.tuple #[.agg #[.int .i64 r1, .int .i64 r2, .int .i64 r3, .int .i64 r4], .int .i64 r5]) ∧ Below w.heap.size w w' := by
 have hu25 := Try.underlying25
 have HB := Aside0.mk (Below.refl w.heap.size w)
 have H : ((nor_May.f a0).bind fun t513 => (if t513 = true then ((entry_Slot.f a1).bind fun t514 => (if t514 = true then ((entry_Size.f a2).bind fun t515 => (stage_Record.j0 k a0 a1 a2 (!t515))) else (stage_Record.j0 k a0 a1 a2 true))) else (stage_Record.j0 k a0 a1 a2 true))) = some (r1, r2, r3, r4, r5) := h
 clear h
 have HC4 := Aside0.mk H
 clear H
 go_enter Try.func12, Try.ntmps12
 go_upto_region 1 with (first | ((with_reducible refine gate_dst (N := 6) rfl ?_); refine box_event ?hg (N := 6) ?hd (cs := #[.int .i64 0, .int .i64 0, .int .i64 0, .int .i64 0]) (t := 25) ?hr ?_; (case hd => rfl); (case hg => rfl); (case hr => first | (go_simp; done) | (go_simp; rfl)); intro gb512 hg w5 hbox hb; have n0_ := Aside0.mk (below_step q2_ hb); have n1_ := Aside0.mk (hbox); have n2_ := Aside0.mk ((by rw [hg]; exact (below_size q2_) : w.heap.size ≤ gb512)); have n3_ := Aside0.mk ((by rw [hg]; exact (below_size q2_) : w.heap.size ≤ gb512)); clear HB; have HB := n0_; have BK512 := n1_; have GW512 := n2_; have GE512 := n3_; clear n0_ n1_ n2_ n3_; clear hb hbox hg))
 (try simp only [Act.put, List.setIfInBounds_toArray, List.set_cons_zero, List.set_cons_succ])
 go_cut [24] (fun v24 wc => ∃ (kq : Nat) (x24_3 : Bool), v24 = .bool x24_3 ∧ Aside0 (stage_Record.j0 kq a0 a1 a2 x24_3 = some (r1, r2, r3, r4, r5)) ∧ Aside0 (kq ≤ k) ∧ Aside0 (wc.heap[gb512]? = some (.cells #[.int .i64 0, .int .i64 0, .int .i64 0, .int .i64 0] 25 (0, 0))) ∧ Aside0 (Below w.heap.size w wc))
 case first =>
  have H := HC4.out
  clear HC4
  replace H := Option.bind_eq_some_iff.mp H
  obtain ⟨t513, A60, H⟩ := H
  replace H : (if t513 = true then ((entry_Slot.f a1).bind fun t514 => (if t514 = true then ((entry_Size.f a2).bind fun t515 => (stage_Record.j0 k a0 a1 a2 (!t515))) else (stage_Record.j0 k a0 a1 a2 true))) else (stage_Record.j0 k a0 a1 a2 true)) = some (r1, r2, r3, r4, r5) := H
  have A6 := Aside0.mk A60
  clear A60
  by_cases c7 : t513 = true
  ·subst c7
   have H1 : ((entry_Slot.f a1).bind fun t514 => (if t514 = true then ((entry_Size.f a2).bind fun t515 => (stage_Record.j0 k a0 a1 a2 (!t515))) else (stage_Record.j0 k a0 a1 a2 true))) = some (r1, r2, r3, r4, r5) := by rw [if_pos rfl] at H; exact H
   clear H
   have H := H1
   clear H1
   replace H := Option.bind_eq_some_iff.mp H
   obtain ⟨t514, A80, H⟩ := H
   replace H : (if t514 = true then ((entry_Size.f a2).bind fun t515 => (stage_Record.j0 k a0 a1 a2 (!t515))) else (stage_Record.j0 k a0 a1 a2 true)) = some (r1, r2, r3, r4, r5) := H
   have A8 := Aside0.mk A80
   clear A80
   by_cases c9 : t514 = true
   ·subst c9
    have H1 : ((entry_Size.f a2).bind fun t515 => (stage_Record.j0 k a0 a1 a2 (!t515))) = some (r1, r2, r3, r4, r5) := by rw [if_pos rfl] at H; exact H
    clear H
    have H := H1
    clear H1
    replace H := Option.bind_eq_some_iff.mp H
    obtain ⟨t515, A100, H⟩ := H
    replace H : (stage_Record.j0 k a0 a1 a2 (!t515)) = some (r1, r2, r3, r4, r5) := H
    have A10 := Aside0.mk A100
    clear A100
    have H' := Aside0.mk H
    clear H
    go_wp2_with (first | ((with_reducible refine gate_callee (f := 34) rfl ?_); refine goesL_ (some 13) rfl rfl Try.func34 (by kernel_rfl) rfl #[.string a0] rfl q1_ ?_; (with_reducible refine (nor_May.calls a0 true _ A6.out).mono ?_); rintro e w' ⟨rfl, ⟨nd, rfl⟩⟩; refine ⟨_, rfl, ?_⟩) | (go_at_call 35; (with_reducible refine (entry_Slot.calls a1 true _ A8.out).mono ?_); rintro e w' ⟨rfl, ⟨nd, rfl⟩⟩) | (go_at_call 36; (with_reducible refine (entry_Size.calls a2 t515 _ A10.out).mono ?_); rintro e w' ⟨rfl, ⟨nd, rfl⟩⟩))
    go_meet
    case rel => exact ⟨_, (!t515), q4_, H', ⟨by first | omega | exact Nat.le_refl _⟩, ⟨by (with_reducible repeat (first | refine blk_drewN ?_ _ | refine blk_drew ?_ | refine blk_alloc ?_ _)); exact BK512.out⟩, ⟨by repeat (first | (with_reducible first | exact HB.out | apply below_alloc | apply pw_below_drewN | apply below_drew1 | refine below_set ?_ GE512.out) | exact HB.out)⟩⟩
   ·replace c9 := Bool.eq_false_iff.mpr c9
    subst c9
    have H1 : (stage_Record.j0 k a0 a1 a2 true) = some (r1, r2, r3, r4, r5) := by rw [if_neg (show ¬ (false = true) by decide)] at H; exact H
    clear H
    have H := H1
    clear H1
    have H' := Aside0.mk H
    clear H
    go_wp2_with (first | ((with_reducible refine gate_callee (f := 34) rfl ?_); refine goesL_ (some 13) rfl rfl Try.func34 (by kernel_rfl) rfl #[.string a0] rfl q1_ ?_; (with_reducible refine (nor_May.calls a0 true _ A6.out).mono ?_); rintro e w' ⟨rfl, ⟨nd, rfl⟩⟩; refine ⟨_, rfl, ?_⟩) | (go_at_call 35; (with_reducible refine (entry_Slot.calls a1 false _ A8.out).mono ?_); rintro e w' ⟨rfl, ⟨nd, rfl⟩⟩))
    go_meet
    case rel => exact ⟨_, (true), q4_, H', ⟨by first | omega | exact Nat.le_refl _⟩, ⟨by (with_reducible repeat (first | refine blk_drewN ?_ _ | refine blk_drew ?_ | refine blk_alloc ?_ _)); exact BK512.out⟩, ⟨by repeat (first | (with_reducible first | exact HB.out | apply below_alloc | apply pw_below_drewN | apply below_drew1 | refine below_set ?_ GE512.out) | exact HB.out)⟩⟩
  ·replace c7 := Bool.eq_false_iff.mpr c7
   subst c7
   have H1 : (stage_Record.j0 k a0 a1 a2 true) = some (r1, r2, r3, r4, r5) := by rw [if_neg (show ¬ (false = true) by decide)] at H; exact H
   clear H
   have H := H1
   clear H1
   have H' := Aside0.mk H
   clear H
   go_wp2_with (first | ((with_reducible refine gate_callee (f := 34) rfl ?_); refine goesL_ (some 13) rfl rfl Try.func34 (by kernel_rfl) rfl #[.string a0] rfl q1_ ?_; (with_reducible refine (nor_May.calls a0 false _ A6.out).mono ?_); rintro e w' ⟨rfl, ⟨nd, rfl⟩⟩; refine ⟨_, rfl, ?_⟩))
   go_meet
   case rel => exact ⟨_, (true), q4_, H', ⟨by first | omega | exact Nat.le_refl _⟩, ⟨by (with_reducible repeat (first | refine blk_drewN ?_ _ | refine blk_drew ?_ | refine blk_alloc ?_ _)); exact BK512.out⟩, ⟨by repeat (first | (with_reducible first | exact HB.out | apply below_alloc | apply pw_below_drewN | apply below_drew1 | refine below_set ?_ GE512.out) | exact HB.out)⟩⟩
 case rest =>
  clear HC4
  try clear c1
  try clear p2
  try clear c3
  try clear c7
  try clear c9
  obtain ⟨kq, x24_3, rfl, HA, HJ3, BK512, HB⟩ := hcut
  cases kq with
  | zero => exact absurd HA.out (by simp [stage_Record.j0])
  | succ kj3 =>
   have H := HA.out
   clear HA
   simp only [stage_Record.j0] at H
   by_cases c11 : x24_3 = true
   ·subst c11
    have H1 : (some (0, 0, 0, 0, 900)) = some (r1, r2, r3, r4, r5) := by rw [if_pos rfl] at H; exact H
    clear H
    have H := H1
    clear H1
    simp only [Option.some.injEq, Prod.mk.injEq] at H
    obtain ⟨rfl, rfl, rfl, rfl, rfl⟩ := H
    have hcz12_0 : wc.cell? ⟨gb512, 0, none⟩ = some (.int .i64 0) := (blk_cell BK512.out 0).trans rfl
    have hcz12_1 : wc.cell? ⟨gb512, 1, none⟩ = some (.int .i64 0) := (blk_cell BK512.out 1).trans rfl
    have hcz12_2 : wc.cell? ⟨gb512, 2, none⟩ = some (.int .i64 0) := (blk_cell BK512.out 2).trans rfl
    have hcz12_3 : wc.cell? ⟨gb512, 3, none⟩ = some (.int .i64 0) := (blk_cell BK512.out 3).trans rfl
    have hfz12_0 := blk_frozen BK512.out 0
    have hfz12_1 := blk_frozen BK512.out 1
    have hfz12_2 := blk_frozen BK512.out 2
    have hfz12_3 := blk_frozen BK512.out 3
    go_wp2
    refine bodyPost_ret (results_ct rfl _ _ gb512 25 #[.int .i64 0, .int .i64 0, .int .i64 0, .int .i64 0] (0, 0) _ rfl (by (with_reducible repeat (first | refine blk_drewN ?_ _ | refine blk_drew ?_ | refine blk_alloc ?_ _)); refine blk_put (cs := #[.int .i64 0, .int .i64 0, .int .i64 0, .int .i64 0]) ?_ 3 _ rfl; (with_reducible repeat (first | refine blk_drewN ?_ _ | refine blk_drew ?_ | refine blk_alloc ?_ _)); refine blk_put (cs := #[.int .i64 0, .int .i64 0, .int .i64 0, .int .i64 0]) ?_ 2 _ rfl; (with_reducible repeat (first | refine blk_drewN ?_ _ | refine blk_drew ?_ | refine blk_alloc ?_ _)); refine blk_put (cs := #[.int .i64 0, .int .i64 0, .int .i64 0, .int .i64 0]) ?_ 1 _ rfl; (with_reducible repeat (first | refine blk_drewN ?_ _ | refine blk_drew ?_ | refine blk_alloc ?_ _)); refine blk_put (cs := #[.int .i64 0, .int .i64 0, .int .i64 0, .int .i64 0]) ?_ 0 _ rfl; (with_reducible repeat (first | refine blk_drewN ?_ _ | refine blk_drew ?_ | refine blk_alloc ?_ _)); exact BK512.out) Try.underlying25 rfl (by kernel_rfl)) rfl ?_
    exact ⟨by first | rfl | (simp [errW_none, errW_some] <;> rfl) | (simp [*, errW_none, errW_some] <;> rfl), by repeat (first | (with_reducible first | exact HB.out | apply below_alloc | apply pw_below_drewN | apply below_drew1 | refine below_set ?_ GE512.out) | exact HB.out)⟩
   ·replace c11 := Bool.eq_false_iff.mpr c11
    subst c11
    have H1 : ((place_Next.f kj3 a0).bind fun bt516 => (if bt516.2 = 0 then ((image_Base.f a1).bind fun bt518 => (if 0 ≤ bt518.1 then (if bt518.1 ≤ (wrap64 (bt518.1 + a2)) then (if (wrap64 (bt518.1 + a2)) ≤ (a0.size : Int) then ((Hand.crc_Sum.f (a0.extract (bt518.1 : Int).toNat ((wrap64 (bt518.1 + a2)) : Int).toNat)).bind fun t520 => (some (bt516.1, a1, a2, t520, 0))) else (none)) else (none)) else (none))) else (some (0, 0, 0, 0, bt516.2)))) = some (r1, r2, r3, r4, r5) := by rw [if_neg (show ¬ (false = true) by decide)] at H; exact H
    clear H
    have H := H1
    clear H1
    replace H := Option.bind_eq_some_iff.mp H
    obtain ⟨⟨t516, t517⟩, A130, H⟩ := H
    replace H : (if t517 = 0 then ((image_Base.f a1).bind fun bt518 => (if 0 ≤ bt518.1 then (if bt518.1 ≤ (wrap64 (bt518.1 + a2)) then (if (wrap64 (bt518.1 + a2)) ≤ (a0.size : Int) then ((Hand.crc_Sum.f (a0.extract (bt518.1 : Int).toNat ((wrap64 (bt518.1 + a2)) : Int).toNat)).bind fun t520 => (some (t516, a1, a2, t520, 0))) else (none)) else (none)) else (none))) else (some (0, 0, 0, 0, t517))) = some (r1, r2, r3, r4, r5) := H
    have A13 := Aside0.mk A130
    clear A130
    by_cases c14 : t517 = 0
    ·rw [if_pos c14] at H
     have c14b0 : (t517 == 0) = true := beq_iff_eq.mpr c14
     have c14b1 : (t517 != 0) = false := bne_eq_false_iff_eq.mpr c14
     clear c14
     replace H := Option.bind_eq_some_iff.mp H
     obtain ⟨⟨t518, t519⟩, A150, H⟩ := H
     replace H : (if 0 ≤ t518 then (if t518 ≤ (wrap64 (t518 + a2)) then (if (wrap64 (t518 + a2)) ≤ (a0.size : Int) then ((Hand.crc_Sum.f (a0.extract (t518 : Int).toNat ((wrap64 (t518 + a2)) : Int).toNat)).bind fun t520 => (some (t516, a1, a2, t520, 0))) else (none)) else (none)) else (none)) = some (r1, r2, r3, r4, r5) := H
     have A15 := Aside0.mk A150
     clear A150
     by_cases c16 : 0 ≤ t518
     ·rw [if_pos c16] at H
      have c16b0 := eq_true c16
      have c16b1 : decide (0 ≤ t518) = true := decide_eq_true c16
      clear c16
      by_cases c17 : t518 ≤ (wrap64 (t518 + a2))
      ·rw [if_pos c17] at H
       have c17b0 := eq_true c17
       have c17b1 : decide (t518 ≤ (wrap64 (t518 + a2))) = true := decide_eq_true c17
       by_cases c18 : (wrap64 (t518 + a2)) ≤ (a0.size : Int)
       ·rw [if_pos c18] at H
        have c18b0 := eq_true c18
        have c18b1 : decide ((wrap64 (t518 + a2)) ≤ (a0.size : Int)) = true := decide_eq_true c18
        replace H := Option.bind_eq_some_iff.mp H
        obtain ⟨t520, A190, H⟩ := H
        replace H : (some (t516, a1, a2, t520, 0)) = some (r1, r2, r3, r4, r5) := H
        have A19 := Aside0.mk A190
        clear A190
        simp only [Option.some.injEq, Prod.mk.injEq] at H
        obtain ⟨rfl, rfl, rfl, rfl, rfl⟩ := H
        go_wp2_with (first | ((with_reducible refine gate_callee (f := 37) rfl ?_); refine goesL_ (some 28) rfl rfl Try.func37 (by kernel_rfl) rfl #[.string a0] rfl q1_ ?_; (with_reducible refine (place_Next.calls kj3 a0 t516 t517 _ A13.out).mono ?_); rintro e w20 ⟨rfl, hb⟩; refine ⟨_, rfl, ?_⟩; have n0_ := Aside0.mk (blk_below (g := gb512) (o := .cells #[.int .i64 0, .int .i64 0, .int .i64 0, .int .i64 0] 25 (0, 0)) (by (with_reducible repeat (first | refine blk_drewN ?_ _ | refine blk_drew ?_ | refine blk_alloc ?_ _)); exact BK512.out) hb); have n1_ := Aside0.mk (below_step (by repeat (first | (with_reducible first | exact HB.out | apply below_alloc | apply pw_below_drewN | apply below_drew1 | refine below_set ?_ GE512.out) | exact HB.out)) hb); clear BK512; clear HB; have BK512 := n0_; have HB := n1_; clear n0_ n1_; (try clear hb); (try clear hb2); (try clear hk); (try clear hi)) | ((with_reducible refine gate_callee (f := 38) rfl ?_); refine goesL_ (some 37) rfl rfl Try.func38 (by kernel_rfl) rfl #[.int .i64 a1] rfl q1_ ?_; (with_reducible refine (image_Base.calls a1 t518 t519 _ A15.out).mono ?_); rintro e w' ⟨rfl, ⟨nd, rfl⟩⟩; refine ⟨_, rfl, ?_⟩; (try (rw [drewN_self w20]; generalize hq_ : World.drewN w20 _ = w20; have n0_ : Aside0 (w20.heap[gb512]? = some (.cells #[.int .i64 0, .int .i64 0, .int .i64 0, .int .i64 0] 25 (0, 0))) := ⟨by rw [← hq_]; exact (by (with_reducible repeat (first | refine blk_drewN ?_ _ | refine blk_drew ?_ | refine blk_alloc ?_ _)); exact BK512.out)⟩; have n1_ : Aside0 (Below w.heap.size w w20) := ⟨by rw [← hq_]; exact (by repeat (first | (with_reducible first | exact HB.out | apply below_alloc | apply pw_below_drewN | apply below_drew1 | refine below_set ?_ GE512.out) | exact HB.out))⟩; clear BK512 HB hq_; have BK512 := n0_; have HB := n1_; clear n0_ n1_))) | ((with_reducible refine gate_callee (f := 39) rfl ?_); refine goesL_ (some 49) rfl rfl Try.func39 (by kernel_rfl) rfl #[.string (a0.extract (t518 : Int).toNat ((wrap64 (t518 + a2)) : Int).toNat)] rfl q1_ ?_; (with_reducible refine (Hand.crc_Sum.calls (a0.extract (t518 : Int).toNat ((wrap64 (t518 + a2)) : Int).toNat) t520 _ A19.out).mono ?_); rintro e w21 ⟨rfl, hb⟩; refine ⟨_, rfl, ?_⟩; have n0_ := Aside0.mk (blk_below (g := gb512) (o := .cells #[.int .i64 0, .int .i64 0, .int .i64 0, .int .i64 0] 25 (0, 0)) (by (with_reducible repeat (first | refine blk_drewN ?_ _ | refine blk_drew ?_ | refine blk_alloc ?_ _)); exact BK512.out) hb); have n1_ := Aside0.mk (below_step (by repeat (first | (with_reducible first | exact HB.out | apply below_alloc | apply pw_below_drewN | apply below_drew1 | refine below_set ?_ GE512.out) | exact HB.out)) hb); clear BK512; clear HB; have BK512 := n0_; have HB := n1_; clear n0_ n1_; (try clear hb); (try clear hb2); (try clear hk); (try clear hi); have hcz22_0 : w21.cell? ⟨gb512, 0, none⟩ = some (.int .i64 0) := (blk_cell BK512.out 0).trans rfl; have hcz22_1 : w21.cell? ⟨gb512, 1, none⟩ = some (.int .i64 0) := (blk_cell BK512.out 1).trans rfl; have hcz22_2 : w21.cell? ⟨gb512, 2, none⟩ = some (.int .i64 0) := (blk_cell BK512.out 2).trans rfl; have hcz22_3 : w21.cell? ⟨gb512, 3, none⟩ = some (.int .i64 0) := (blk_cell BK512.out 3).trans rfl; have hfz22_0 := blk_frozen BK512.out 0; have hfz22_1 := blk_frozen BK512.out 1; have hfz22_2 := blk_frozen BK512.out 2; have hfz22_3 := blk_frozen BK512.out 3))
        refine bodyPost_ret (results_ct rfl _ _ gb512 25 #[.int .i64 t516, .int .i64 a1, .int .i64 a2, .int .i64 t520] (0, 0) _ rfl (by (with_reducible repeat (first | refine blk_drewN ?_ _ | refine blk_drew ?_ | refine blk_alloc ?_ _)); refine blk_put (cs := #[.int .i64 t516, .int .i64 a1, .int .i64 a2, .int .i64 0]) ?_ 3 _ rfl; (with_reducible repeat (first | refine blk_drewN ?_ _ | refine blk_drew ?_ | refine blk_alloc ?_ _)); refine blk_put (cs := #[.int .i64 t516, .int .i64 a1, .int .i64 0, .int .i64 0]) ?_ 2 _ rfl; (with_reducible repeat (first | refine blk_drewN ?_ _ | refine blk_drew ?_ | refine blk_alloc ?_ _)); refine blk_put (cs := #[.int .i64 t516, .int .i64 0, .int .i64 0, .int .i64 0]) ?_ 1 _ rfl; (with_reducible repeat (first | refine blk_drewN ?_ _ | refine blk_drew ?_ | refine blk_alloc ?_ _)); refine blk_put (cs := #[.int .i64 0, .int .i64 0, .int .i64 0, .int .i64 0]) ?_ 0 _ rfl; (with_reducible repeat (first | refine blk_drewN ?_ _ | refine blk_drew ?_ | refine blk_alloc ?_ _)); exact BK512.out) Try.underlying25 rfl (by kernel_rfl)) rfl ?_
        exact ⟨by first | rfl | (simp [errW_none, errW_some] <;> rfl) | (simp [*, errW_none, errW_some] <;> rfl), by repeat (first | (with_reducible first | exact HB.out | apply below_alloc | apply pw_below_drewN | apply below_drew1 | refine below_set ?_ GE512.out) | exact HB.out)⟩
       ·rw [if_neg c18] at H
        exact absurd H (by simp)
      ·rw [if_neg c17] at H
       exact absurd H (by simp)
     ·rw [if_neg c16] at H
      exact absurd H (by simp)
    ·rw [if_neg c14] at H
     have c14b0 : (t517 == 0) = false := beq_eq_false_iff_ne.mpr c14
     have c14b1 : (t517 != 0) = true := bne_iff_ne.mpr c14
     simp only [Option.some.injEq, Prod.mk.injEq] at H
     obtain ⟨rfl, rfl, rfl, rfl, rfl⟩ := H
     go_wp2_with (first | ((with_reducible refine gate_callee (f := 37) rfl ?_); refine goesL_ (some 28) rfl rfl Try.func37 (by kernel_rfl) rfl #[.string a0] rfl q1_ ?_; (with_reducible refine (place_Next.calls kj3 a0 t516 t517 _ A13.out).mono ?_); rintro e w23 ⟨rfl, hb⟩; refine ⟨_, rfl, ?_⟩; have n0_ := Aside0.mk (blk_below (g := gb512) (o := .cells #[.int .i64 0, .int .i64 0, .int .i64 0, .int .i64 0] 25 (0, 0)) (by (with_reducible repeat (first | refine blk_drewN ?_ _ | refine blk_drew ?_ | refine blk_alloc ?_ _)); exact BK512.out) hb); have n1_ := Aside0.mk (below_step (by repeat (first | (with_reducible first | exact HB.out | apply below_alloc | apply pw_below_drewN | apply below_drew1 | refine below_set ?_ GE512.out) | exact HB.out)) hb); clear BK512; clear HB; have BK512 := n0_; have HB := n1_; clear n0_ n1_; (try clear hb); (try clear hb2); (try clear hk); (try clear hi); have hcz24_0 : w23.cell? ⟨gb512, 0, none⟩ = some (.int .i64 0) := (blk_cell BK512.out 0).trans rfl; have hcz24_1 : w23.cell? ⟨gb512, 1, none⟩ = some (.int .i64 0) := (blk_cell BK512.out 1).trans rfl; have hcz24_2 : w23.cell? ⟨gb512, 2, none⟩ = some (.int .i64 0) := (blk_cell BK512.out 2).trans rfl; have hcz24_3 : w23.cell? ⟨gb512, 3, none⟩ = some (.int .i64 0) := (blk_cell BK512.out 3).trans rfl; have hfz24_0 := blk_frozen BK512.out 0; have hfz24_1 := blk_frozen BK512.out 1; have hfz24_2 := blk_frozen BK512.out 2; have hfz24_3 := blk_frozen BK512.out 3))
     refine bodyPost_ret (results_ct rfl _ _ gb512 25 #[.int .i64 0, .int .i64 0, .int .i64 0, .int .i64 0] (0, 0) _ rfl (by (with_reducible repeat (first | refine blk_drewN ?_ _ | refine blk_drew ?_ | refine blk_alloc ?_ _)); refine blk_put (cs := #[.int .i64 0, .int .i64 0, .int .i64 0, .int .i64 0]) ?_ 3 _ rfl; (with_reducible repeat (first | refine blk_drewN ?_ _ | refine blk_drew ?_ | refine blk_alloc ?_ _)); refine blk_put (cs := #[.int .i64 0, .int .i64 0, .int .i64 0, .int .i64 0]) ?_ 2 _ rfl; (with_reducible repeat (first | refine blk_drewN ?_ _ | refine blk_drew ?_ | refine blk_alloc ?_ _)); refine blk_put (cs := #[.int .i64 0, .int .i64 0, .int .i64 0, .int .i64 0]) ?_ 1 _ rfl; (with_reducible repeat (first | refine blk_drewN ?_ _ | refine blk_drew ?_ | refine blk_alloc ?_ _)); refine blk_put (cs := #[.int .i64 0, .int .i64 0, .int .i64 0, .int .i64 0]) ?_ 0 _ rfl; (with_reducible repeat (first | refine blk_drewN ?_ _ | refine blk_drew ?_ | refine blk_alloc ?_ _)); exact BK512.out) Try.underlying25 rfl (by kernel_rfl)) rfl ?_
     exact ⟨by first | rfl | (simp [errW_none, errW_some] <;> rfl) | (simp [*, errW_none, errW_some] <;> rfl), by repeat (first | (with_reducible first | exact HB.out | apply below_alloc | apply pw_below_drewN | apply below_drew1 | refine below_set ?_ GE512.out) | exact HB.out)⟩
end Go.Proofs.Ytjihlabmddfjhaa.PAll

-- Written by this session's own program (wip/tools/myprint.py), which runs the kit's print over functions proved by hand.
namespace Go.Proofs.Ytjihlabmddfjhaa.PAll
open Go.RowKit Go.Proofs.YtjihlabmddfjhaaW.PrintWords Go.Proofs.YtjihlabmddfjhaaW.PrintLast Go.Proofs.YtjihlabmddfjhaaW.PrintMore
attribute [local go_sem] max2_int min2_int max_two min_two max_three min_three max_four min_four   -- for this text's walks alone
set_option linter.unusedVariables false
set_option linter.unusedSimpArgs false
mutual
def skifflaw9_held.l0 : Nat → ByteArray → List (S35) → Int → Option (ByteArray)
 | 0, _, _, _ => none
 | k + 1, x1, x2, x4 => if x4 < (x2.length : Int) then (if 0 ≤ x4 then ((skiffref1_Do.f k x1 ((rd_T35 x2 x4).f0) ((rd_T35 x2 x4).f1) ((rd_T35 x2 x4).f2)).bind fun bt527 => (skifflaw9_held.l0 k bt527.1 x2 (wrap64 (x4 + 1)))) else (none)) else ((skiffref1_RecordOf.f k x1 0 12).bind fun bt529 => ((skiffref1_Append.f k x1 bt529.1 bt529.2.1 bt529.2.2.1 bt529.2.2.2.1).bind fun bt535 => (skifflaw9_held.l1 k x1 bt535.1 0)))
def skifflaw9_held.l1 : Nat → ByteArray → List (S35) → Int → Option (ByteArray)
 | 0, _, _, _ => none
 | k + 1, x1, x2, x7 => if x7 < (x2.length : Int) then (if 0 ≤ x7 then ((skiffref1_Do.f k x1 ((rd_T35 x2 x7).f0) ((rd_T35 x2 x7).f1) ((rd_T35 x2 x7).f2)).bind fun bt540 => (skifflaw9_held.l1 k bt540.1 x2 (wrap64 (x7 + 1)))) else (none)) else (some x1)
end
def skifflaw9_held.f (k : Nat)  : Option (ByteArray) := (skiffref1_Blank.f k).bind fun t521 => ((skiffref1_Words.f k 192 (⟨#[97, 98, 97, 98, 97, 98, 97, 98, 97, 98, 97, 98]⟩ : ByteArray)).bind fun bt522 => (skifflaw9_held.l0 k t521 bt522.1 0))
set_option maxHeartbeats 8000000 in
set_option maxRecDepth 100000 in
theorem skifflaw9_held.calls (k : Nat)  (r : ByteArray) (w : World) (h : skifflaw9_held.f k  = some r) :
  Calls Try.prog 15 #[] w fun e w' => e = .returned (.string r) ∧ Below w.heap.size w w' := by
 have hu35 := Try.underlying35
 have hu25 := Try.underlying25
 have HB := Aside0.mk (Below.refl w.heap.size w)
 have H : ((skiffref1_Blank.f k).bind fun t521 => ((skiffref1_Words.f k 192 (⟨#[97, 98, 97, 98, 97, 98, 97, 98, 97, 98, 97, 98]⟩ : ByteArray)).bind fun bt522 => (skifflaw9_held.l0 k t521 bt522.1 0))) = some r := h
 clear h
 replace H := Option.bind_eq_some_iff.mp H
 obtain ⟨t521, A10, H⟩ := H
 replace H : ((skiffref1_Words.f k 192 (⟨#[97, 98, 97, 98, 97, 98, 97, 98, 97, 98, 97, 98]⟩ : ByteArray)).bind fun bt522 => (skifflaw9_held.l0 k t521 bt522.1 0)) = some r := H
 have A1 := Aside0.mk A10
 clear A10
 replace H := Option.bind_eq_some_iff.mp H
 obtain ⟨⟨t522, t523⟩, A20, H⟩ := H
 replace H : (skifflaw9_held.l0 k t521 t522 0) = some r := H
 have A2 := Aside0.mk A20
 clear A20
 have H' := Aside0.mk H
 clear H
 go_enter Try.func15, Try.ntmps15
 go_wp2_with (first | ((with_reducible refine gate_callee (f := 27) rfl ?_); refine goesL_ (some 8) rfl rfl Try.func27 (by kernel_rfl) rfl #[] rfl q1_ ?_; (with_reducible refine (skiffref1_Blank.calls k  t521 _ A1.out).mono ?_); rintro e w3 ⟨rfl, hb⟩; refine ⟨_, rfl, ?_⟩; have n0_ := Aside0.mk (below_step q2_ hb); clear HB; have HB := n0_; clear n0_; (try clear hb); (try clear hb2); (try clear hk); (try clear hi)) | ((with_reducible refine gate_callee (f := 17) rfl ?_); refine goesL_ (some 10) rfl rfl Try.func17 (by kernel_rfl) rfl #[.int .i64 192, .string (⟨#[97, 98, 97, 98, 97, 98, 97, 98, 97, 98, 97, 98]⟩ : ByteArray)] rfl q1_ ?_; (with_reducible refine (skiffref1_Words.calls k 192 (⟨#[97, 98, 97, 98, 97, 98, 97, 98, 97, 98, 97, 98]⟩ : ByteArray) t522 t523 _ A2.out).mono ?_); rintro e w4 ⟨v524, rfl, ho0, hb⟩; refine ⟨_, rfl, ?_⟩; have n0_ := Aside0.mk (Kd.R_lower ho0 (below_size q2_)); have n1_ := Aside0.mk (below_step q2_ hb); clear HB; have HO525 := n0_; have HB := n1_; clear n0_ n1_; (try clear hb); (try clear hb2); (try clear hk); (try clear hi); (try clear ho0)))
 go_loopg [1, 4] k (fun kq v1 v4 w' => ∃ (x1_1 : ByteArray) (x4_1 : Int), v1 = .string x1_1 ∧ v4 = .int .i64 x4_1 ∧ Aside0 (skifflaw9_held.l0 kq x1_1 t522 x4_1 = some r) ∧ Aside0 (kq ≤ k) ∧ Aside0 (Kd.R k35 35 w' w.heap.size (fun _ => True) v524 t522) ∧ Aside0 (Below w.heap.size w w'))
 case atStart => exact ⟨(t521), (0), q4_, q4_, H', ⟨Nat.le_refl _⟩, ⟨by (with_reducible repeat (first | apply Kd.R_alloc | apply Kd.R_drewN | apply Kd.R_drew)); exact HO525.out⟩, ⟨by repeat (first | (with_reducible first | exact HB.out | apply below_alloc | apply pw_below_drewN | apply below_drew1) | exact HB.out)⟩⟩
 case round =>
  clear H'
  try clear c1
  try clear c2
  try clear p2
  obtain ⟨x1_1, x4_1, rfl, rfl, HA, HK1, HO_2, HB⟩ := hrel
  cases gk with
  | zero => exact absurd HA.out (by simp [skifflaw9_held.l0])
  | succ k1 =>
   have H := HA.out
   clear HA
   simp only [skifflaw9_held.l0] at H
   by_cases c5 : x4_1 < (t522.length : Int)
   ·rw [if_pos c5] at H
    have c5b0 : decide (x4_1 < (t522.length : Int)) = true := decide_eq_true c5
    clear c5
    by_cases c6 : 0 ≤ x4_1
    ·rw [if_pos c6] at H
     have c6b0 : decide (0 ≤ x4_1) = true := decide_eq_true c6
     clear c6
     replace H := Option.bind_eq_some_iff.mp H
     obtain ⟨⟨t527, t528⟩, A70, H⟩ := H
     replace H : (skifflaw9_held.l0 k1 t527 t522 (wrap64 (x4_1 + 1))) = some r := H
     have A7 := Aside0.mk A70
     clear A70
     have H' := Aside0.mk H
     clear H
     obtain ⟨Ao8, co8, eo8⟩ := Kd.R_slice HO_2.out
     subst eo8
     have p526 : 0 ≤ (x4_1 : Int) := of_decide_eq_true q5_
     have q526 : x4_1 < (t522.length : Int) := of_decide_eq_true q5_
     obtain ⟨ad526, e526, hx526_0, hx526_1, hx526_2⟩ := at_T35 (Kd.R_reads' HO_2.out).2.2 x4_1 p526 q526
     cases e526
     replace p526 := eq_true p526
     replace q526 := eq_true q526
     go_wp2_with (first | ((with_reducible refine gate_callee (f := 19) rfl ?_); refine goesL_ (some 25) rfl rfl Try.func19 (by kernel_rfl) rfl #[.string x1_1, .agg #[.bool ((rd_T35 t522 x4_1).f0), .int .i64 ((rd_T35 t522 x4_1).f1), .string ((rd_T35 t522 x4_1).f2)]] rfl q1_ ?_; (with_reducible refine (skiffref1_Do.calls k1 x1_1 ((rd_T35 t522 x4_1).f0) ((rd_T35 t522 x4_1).f1) ((rd_T35 t522 x4_1).f2) t527 t528 _ A7.out).mono ?_); rintro e w9 ⟨rfl, hb⟩; refine ⟨_, rfl, ?_⟩; have n0_ := Aside0.mk (Kd.R_below (by (with_reducible repeat (first | apply Kd.R_alloc | apply Kd.R_drewN | apply Kd.R_drew)); exact HO_2.out) hb); have n1_ := Aside0.mk (below_step q2_ hb); clear HO_2; clear HB; have HO_2 := n0_; have HB := n1_; clear n0_ n1_; (try clear hb); (try clear hb2); (try clear hk); (try clear hi)))
     go_roundg k1
     case measure => have := HK1.out; omega
     case rel => exact ⟨(t527), (wrap64 (x4_1 + 1)), q4_, q4_, H', ⟨by have := HK1.out; omega⟩, ⟨by (with_reducible repeat (first | apply Kd.R_alloc | apply Kd.R_drewN | apply Kd.R_drew)); exact HO_2.out⟩, ⟨by repeat (first | (with_reducible first | exact HB.out | apply below_alloc | apply pw_below_drewN | apply below_drew1) | exact HB.out)⟩⟩
    ·rw [if_neg c6] at H
     exact absurd H (by simp)
   ·rw [if_neg c5] at H
    have c5b0 : decide (x4_1 < (t522.length : Int)) = false := decide_eq_false c5
    clear c5
    replace H := Option.bind_eq_some_iff.mp H
    obtain ⟨⟨t529, t530, t531, t532, t533⟩, A100, H⟩ := H
    replace H : ((skiffref1_Append.f k1 x1_1 t529 t530 t531 t532).bind fun bt535 => (skifflaw9_held.l1 k1 x1_1 bt535.1 0)) = some r := H
    have A10 := Aside0.mk A100
    clear A100
    replace H := Option.bind_eq_some_iff.mp H
    obtain ⟨⟨t535, t538⟩, A110, H⟩ := H
    replace H : (skifflaw9_held.l1 k1 x1_1 t535 0) = some r := H
    have A11 := Aside0.mk A110
    clear A110
    have H' := Aside0.mk H
    clear H
    obtain ⟨Ao12, co12, eo12⟩ := Kd.R_slice HO_2.out
    subst eo12
    go_wp2_with (first | ((with_reducible refine gate_callee (f := 40) rfl ?_); refine goesL_ (some 30) rfl rfl Try.func40 (by kernel_rfl) rfl #[.string x1_1, .int .i64 0, .int .i64 12] rfl q1_ ?_; (with_reducible refine (skiffref1_RecordOf.calls k1 x1_1 0 12 t529 t530 t531 t532 t533 _ A10.out).mono ?_); rintro e w13 ⟨rfl, hb⟩; refine ⟨_, rfl, ?_⟩; have n0_ := Aside0.mk (Kd.R_below (by (with_reducible repeat (first | apply Kd.R_alloc | apply Kd.R_drewN | apply Kd.R_drew)); exact HO_2.out) hb); have n1_ := Aside0.mk (below_step q2_ hb); clear HO_2; clear HB; have HO_2 := n0_; have HB := n1_; clear n0_ n1_; (try clear hb); (try clear hb2); (try clear hk); (try clear hi)) | ((with_reducible refine gate_dst (N := 5) rfl ?_); refine box_event ?hg (N := 5) ?hd (cs := #[.int .i64 0, .int .i64 0, .int .i64 0, .int .i64 0]) (t := 25) ?hr ?_; (case hd => rfl); (case hg => rfl); (case hr => first | (go_simp; done) | (go_simp; rfl)); intro gb534 hg w14 hbox hb; have n0_ := Aside0.mk (Kd.R_below (by (with_reducible repeat (first | apply Kd.R_alloc | apply Kd.R_drewN | apply Kd.R_drew)); exact HO_2.out) hb); have n1_ := Aside0.mk (below_step q2_ hb); have n2_ := Aside0.mk (hbox); have n3_ := Aside0.mk ((by rw [hg]; exact (below_size q2_) : w.heap.size ≤ gb534)); have n4_ := Aside0.mk ((by rw [hg]; exact (below_size q2_) : w.heap.size ≤ gb534)); clear HO_2; clear HB; have HO_2 := n0_; have HB := n1_; have BK534 := n2_; have GW534 := n3_; have GE534 := n4_; clear n0_ n1_ n2_ n3_ n4_; clear hb hbox hg; have hcz15_0 : w14.cell? ⟨gb534, 0, none⟩ = some (.int .i64 0) := (blk_cell BK534.out 0).trans rfl; have hcz15_1 : w14.cell? ⟨gb534, 1, none⟩ = some (.int .i64 0) := (blk_cell BK534.out 1).trans rfl; have hcz15_2 : w14.cell? ⟨gb534, 2, none⟩ = some (.int .i64 0) := (blk_cell BK534.out 2).trans rfl; have hcz15_3 : w14.cell? ⟨gb534, 3, none⟩ = some (.int .i64 0) := (blk_cell BK534.out 3).trans rfl; have hfz15_0 := blk_frozen BK534.out 0; have hfz15_1 := blk_frozen BK534.out 1; have hfz15_2 := blk_frozen BK534.out 2; have hfz15_3 := blk_frozen BK534.out 3) | ((with_reducible refine gate_callee (f := 41) rfl ?_); refine goesL_ (some 36) rfl rfl Try.func41 (by kernel_rfl) rfl #[.string x1_1, .agg #[.int .i64 t529, .int .i64 t530, .int .i64 t531, .int .i64 t532]] rfl q1_ ?_; (with_reducible refine (skiffref1_Append.calls k1 x1_1 t529 t530 t531 t532 t535 t538 _ A11.out).mono ?_); rintro e w16 ⟨v536, rfl, ho0, hb⟩; refine ⟨_, rfl, ?_⟩; have n0_ := Aside0.mk (Kd.R_elder' (by (with_reducible repeat (first | apply Kd.R_alloc | apply Kd.R_drewN | apply Kd.R_drew)); exact (Kd.R_mono (Kd.R_far (p := ⟨gb534, 3, none⟩) (Kd.R_far (p := ⟨gb534, 2, none⟩) (Kd.R_far (p := ⟨gb534, 1, none⟩) (Kd.R_far (p := ⟨gb534, 0, none⟩) (Kd.R_types HO_2.out BK534.out (by decide)) (fun _ hk => hk.2) (.int .i64 t529)) (fun _ hk => hk.2) (.int .i64 t530)) (fun _ hk => hk.2) (.int .i64 t531)) (fun _ hk => hk.2) (.int .i64 t532)) (fun _ h_ => h_.1))) (Kd.R_base ho0) hb); have n1_ := Aside0.mk (Kd.R_lower (Kd.R_new' ho0 (Kd.R_lt (by (with_reducible repeat (first | apply Kd.R_alloc | apply Kd.R_drewN | apply Kd.R_drew)); exact (Kd.R_mono (Kd.R_far (p := ⟨gb534, 3, none⟩) (Kd.R_far (p := ⟨gb534, 2, none⟩) (Kd.R_far (p := ⟨gb534, 1, none⟩) (Kd.R_far (p := ⟨gb534, 0, none⟩) (Kd.R_types HO_2.out BK534.out (by decide)) (fun _ hk => hk.2) (.int .i64 t529)) (fun _ hk => hk.2) (.int .i64 t530)) (fun _ hk => hk.2) (.int .i64 t531)) (fun _ hk => hk.2) (.int .i64 t532)) (fun _ h_ => h_.1))))) (below_size (by repeat (first | (with_reducible first | exact HB.out | apply below_alloc | apply pw_below_drewN | apply below_drew1 | refine below_set ?_ GE534.out) | exact HB.out)))); have n2_ := Aside0.mk (blk_below (g := gb534) (o := .cells #[.int .i64 t529, .int .i64 t530, .int .i64 t531, .int .i64 t532] 25 (0, 0)) (by (with_reducible repeat (first | refine blk_drewN ?_ _ | refine blk_drew ?_ | refine blk_alloc ?_ _)); refine blk_put (cs := #[.int .i64 t529, .int .i64 t530, .int .i64 t531, .int .i64 0]) ?_ 3 _ rfl; (with_reducible repeat (first | refine blk_drewN ?_ _ | refine blk_drew ?_ | refine blk_alloc ?_ _)); refine blk_put (cs := #[.int .i64 t529, .int .i64 t530, .int .i64 0, .int .i64 0]) ?_ 2 _ rfl; (with_reducible repeat (first | refine blk_drewN ?_ _ | refine blk_drew ?_ | refine blk_alloc ?_ _)); refine blk_put (cs := #[.int .i64 t529, .int .i64 0, .int .i64 0, .int .i64 0]) ?_ 1 _ rfl; (with_reducible repeat (first | refine blk_drewN ?_ _ | refine blk_drew ?_ | refine blk_alloc ?_ _)); refine blk_put (cs := #[.int .i64 0, .int .i64 0, .int .i64 0, .int .i64 0]) ?_ 0 _ rfl; (with_reducible repeat (first | refine blk_drewN ?_ _ | refine blk_drew ?_ | refine blk_alloc ?_ _)); exact BK534.out) hb); have n3_ := Aside0.mk (below_step (by repeat (first | (with_reducible first | exact HB.out | apply below_alloc | apply pw_below_drewN | apply below_drew1 | refine below_set ?_ GE534.out) | exact HB.out)) hb); clear HO_2; clear BK534; clear HB; have HO_2 := n0_; have HO537 := n1_; have BK534 := n2_; have HB := n3_; clear n0_ n1_ n2_ n3_; (try clear hb); (try clear hb2); (try clear hk); (try clear hi); (try clear ho0)))
    go_loopg [1, 7] k1 (fun kq v1 v7 w' => ∃ (x1_2 : ByteArray) (x7_2 : Int), v1 = .string x1_2 ∧ v7 = .int .i64 x7_2 ∧ Aside0 (skifflaw9_held.l1 kq x1_2 t535 x7_2 = some r) ∧ Aside0 (kq ≤ k1) ∧ Aside0 (Kd.R k35 35 w' w.heap.size (fun _ => True) v536 t535) ∧ Aside0 (w'.heap[gb534]? = some (.cells #[.int .i64 t529, .int .i64 t530, .int .i64 t531, .int .i64 t532] 25 (0, 0))) ∧ Aside0 (Below w.heap.size w w'))
    case atStart => exact ⟨(x1_1), (0), q4_, q4_, H', ⟨Nat.le_refl _⟩, ⟨by (with_reducible repeat (first | apply Kd.R_alloc | apply Kd.R_drewN | apply Kd.R_drew)); exact Kd.R_mono HO537.out (fun _ hk => trivial)⟩, ⟨by (with_reducible repeat (first | refine blk_drewN ?_ _ | refine blk_drew ?_ | refine blk_alloc ?_ _)); exact BK534.out⟩, ⟨by repeat (first | (with_reducible first | exact HB.out | apply below_alloc | apply pw_below_drewN | apply below_drew1 | refine below_set ?_ GE534.out) | exact HB.out)⟩⟩
    case round =>
     clear H'
     try clear c1
     try clear c2
     try clear p2
     try clear c4
     try clear c5
     try clear c5b0
     try clear p5
     try clear q5
     try clear hx5
     try clear c6
     try clear c6b0
     try clear p6
     try clear c15
     try clear hcz15_0
     try clear hcz15_1
     try clear hcz15_2
     try clear hcz15_3
     try clear hfz15_0
     try clear hfz15_1
     try clear hfz15_2
     try clear hfz15_3
     try clear hx526_0
     try clear hx526_1
     try clear hx526_2
     try clear p2
     try clear p526
     try clear q526
     obtain ⟨x1_2, x7_2, rfl, rfl, HA, HK2, HO_2, BK534, HB⟩ := hrel
     cases gk with
     | zero => exact absurd HA.out (by simp [skifflaw9_held.l1])
     | succ k2 =>
      have H := HA.out
      clear HA
      simp only [skifflaw9_held.l1] at H
      by_cases c17 : x7_2 < (t535.length : Int)
      ·rw [if_pos c17] at H
       have c17b0 : decide (x7_2 < (t535.length : Int)) = true := decide_eq_true c17
       clear c17
       by_cases c18 : 0 ≤ x7_2
       ·rw [if_pos c18] at H
        have c18b0 : decide (0 ≤ x7_2) = true := decide_eq_true c18
        clear c18
        replace H := Option.bind_eq_some_iff.mp H
        obtain ⟨⟨t540, t541⟩, A190, H⟩ := H
        replace H : (skifflaw9_held.l1 k2 t540 t535 (wrap64 (x7_2 + 1))) = some r := H
        have A19 := Aside0.mk A190
        clear A190
        have H' := Aside0.mk H
        clear H
        obtain ⟨Ao20, co20, eo20⟩ := Kd.R_slice HO_2.out
        subst eo20
        have p539 : 0 ≤ (x7_2 : Int) := of_decide_eq_true q5_
        have q539 : x7_2 < (t535.length : Int) := of_decide_eq_true q5_
        obtain ⟨ad539, e539, hx539_0, hx539_1, hx539_2⟩ := at_T35 (Kd.R_reads' HO_2.out).2.2 x7_2 p539 q539
        cases e539
        replace p539 := eq_true p539
        replace q539 := eq_true q539
        go_wp2_with (first | ((with_reducible refine gate_callee (f := 19) rfl ?_); refine goesL_ (some 51) rfl rfl Try.func19 (by kernel_rfl) rfl #[.string x1_2, .agg #[.bool ((rd_T35 t535 x7_2).f0), .int .i64 ((rd_T35 t535 x7_2).f1), .string ((rd_T35 t535 x7_2).f2)]] rfl q1_ ?_; (with_reducible refine (skiffref1_Do.calls k2 x1_2 ((rd_T35 t535 x7_2).f0) ((rd_T35 t535 x7_2).f1) ((rd_T35 t535 x7_2).f2) t540 t541 _ A19.out).mono ?_); rintro e w21 ⟨rfl, hb⟩; refine ⟨_, rfl, ?_⟩; have n0_ := Aside0.mk (Kd.R_below (by (with_reducible repeat (first | apply Kd.R_alloc | apply Kd.R_drewN | apply Kd.R_drew)); exact HO_2.out) hb); have n1_ := Aside0.mk (blk_below (g := gb534) (o := .cells #[.int .i64 t529, .int .i64 t530, .int .i64 t531, .int .i64 t532] 25 (0, 0)) (by (with_reducible repeat (first | refine blk_drewN ?_ _ | refine blk_drew ?_ | refine blk_alloc ?_ _)); exact BK534.out) hb); have n2_ := Aside0.mk (below_step (by repeat (first | (with_reducible first | exact HB.out | apply below_alloc | apply pw_below_drewN | apply below_drew1 | refine below_set ?_ GE534.out) | exact HB.out)) hb); clear HO_2; clear BK534; clear HB; have HO_2 := n0_; have BK534 := n1_; have HB := n2_; clear n0_ n1_ n2_; (try clear hb); (try clear hb2); (try clear hk); (try clear hi)))
        go_roundg k2
        case measure => have := HK1.out; have := HK2.out; omega
        case rel => exact ⟨(t540), (wrap64 (x7_2 + 1)), q4_, q4_, H', ⟨by have := HK1.out; have := HK2.out; omega⟩, ⟨by (with_reducible repeat (first | apply Kd.R_alloc | apply Kd.R_drewN | apply Kd.R_drew)); exact HO_2.out⟩, ⟨by (with_reducible repeat (first | refine blk_drewN ?_ _ | refine blk_drew ?_ | refine blk_alloc ?_ _)); exact BK534.out⟩, ⟨by repeat (first | (with_reducible first | exact HB.out | apply below_alloc | apply pw_below_drewN | apply below_drew1 | refine below_set ?_ GE534.out) | exact HB.out)⟩⟩
       ·rw [if_neg c18] at H
        exact absurd H (by simp)
      ·rw [if_neg c17] at H
       have c17b0 : decide (x7_2 < (t535.length : Int)) = false := decide_eq_false c17
       clear c17
       obtain rfl := Option.some.inj H
       obtain ⟨Ao22, co22, eo22⟩ := Kd.R_slice HO_2.out
       subst eo22
       go_wp2
       go_ret
       exact ⟨by first | rfl | (simp [errW_none, errW_some] <;> rfl) | (simp [*, errW_none, errW_some] <;> rfl), by repeat (first | (with_reducible first | exact HB.out | apply below_alloc | apply pw_below_drewN | apply below_drew1 | refine below_set ?_ GE534.out) | exact HB.out)⟩
def stage_Erases.l0 : Nat → Int → List (S35) → Int → Option ((List (S35)) × Int)
 | 0, _, _, _ => none
 | k + 1, x0, x4, x9 => if x9 < 3 then ((image_Sector.f x0).bind fun t543 => ((journal_Begin.f (wrap64 (t543 + x9))).bind fun t544 => (if x4.length < 4398046511104 then (stage_Erases.l0 k x0 (x4 ++ [(⟨true, t544, (⟨#[]⟩ : ByteArray)⟩ : S35)]) (wrap64 (x9 + 1))) else (none)))) else (some (x4, 0))
def stage_Erases.f (k : Nat) (a0 : Int) : Option ((List (S35)) × Int) := (entry_Slot.f a0).bind fun t542 => (if t542 = true then (stage_Erases.l0 k a0 ([] : List (S35)) 0) else (some (([] : List (S35)), 900)))
theorem stage_Erases.mono_l : ∀ k, (∀ y0 y1 y2, LeO (stage_Erases.l0 k y0 y1 y2) (stage_Erases.l0 (k + 1) y0 y1 y2))
 | 0 => fun _ _ _ r h => by simp [stage_Erases.l0] at h
 | k + 1 => by
  have ih0 := stage_Erases.mono_l k
  ·intro y0 y1 y2
   unfold stage_Erases.l0
   repeat' first
   | (with_reducible exact ih0 _ _ _)
   | (with_reducible exact LeO.refl _)
   | (with_reducible exact LeO.none _)
   | (with_reducible refine LeO.ite ?_ ?_)
   | (with_reducible refine LeO.bind ?_ (fun _ => ?_))
   | exact ih0 _ _ _
   | exact LeO.none _
   | refine LeO.ite ?_ ?_
   | refine LeO.bind ?_ (fun _ => ?_)
theorem stage_Erases.mono : ∀ a0 k, LeO (stage_Erases.f k a0) (stage_Erases.f (k + 1) a0) := by
 intro a0 k
 have ih0 := stage_Erases.mono_l k
 unfold stage_Erases.f
 repeat' first
   | (with_reducible exact ih0 _ _ _)
   | (with_reducible exact LeO.refl _)
   | (with_reducible exact LeO.none _)
   | (with_reducible refine LeO.ite ?_ ?_)
   | (with_reducible refine LeO.bind ?_ (fun _ => ?_))
   | exact ih0 _ _ _
   | exact LeO.none _
   | refine LeO.ite ?_ ?_
   | refine LeO.bind ?_ (fun _ => ?_)
set_option maxHeartbeats 8000000 in
set_option maxRecDepth 100000 in
theorem stage_Erases.calls (k : Nat) (a0 : Int) (r1 : List (S35)) (r2 : Int) (w : World) (h : stage_Erases.f k a0 = some (r1, r2)) :
  Calls Try.prog 33 #[.int .i64 a0] w fun e w' => ∃ v0_ : Value, e = .returned (.tuple #[v0_, .int .i64 r2]) ∧ Kd.R k35 35 w' w.heap.size (fun _ => True) v0_ r1 ∧ Below w.heap.size w w' := by
 have hu35 := Try.underlying35
 have HB := Aside0.mk (Below.refl w.heap.size w)
 have H : ((entry_Slot.f a0).bind fun t542 => (if t542 = true then (stage_Erases.l0 k a0 ([] : List (S35)) 0) else (some (([] : List (S35)), 900)))) = some (r1, r2) := h
 clear h
 replace H := Option.bind_eq_some_iff.mp H
 obtain ⟨t542, A20, H⟩ := H
 replace H : (if t542 = true then (stage_Erases.l0 k a0 ([] : List (S35)) 0) else (some (([] : List (S35)), 900))) = some (r1, r2) := H
 have A2 := Aside0.mk A20
 clear A20
 by_cases c3 : t542 = true
 ·subst c3
  have H1 : (stage_Erases.l0 k a0 ([] : List (S35)) 0) = some (r1, r2) := by rw [if_pos rfl] at H; exact H
  clear H
  have H := H1
  clear H1
  have H' := Aside0.mk H
  clear H
  go_enter Try.func33, Try.ntmps33
  go_wp2_with (first | ((with_reducible refine gate_callee (f := 35) rfl ?_); refine goesL_ (some 7) rfl rfl Try.func35 (by kernel_rfl) rfl #[.int .i64 a0] rfl q1_ ?_; (with_reducible refine (entry_Slot.calls a0 true _ A2.out).mono ?_); rintro e w' ⟨rfl, ⟨nd, rfl⟩⟩; refine ⟨_, rfl, ?_⟩))
  go_loopg [4, 9] k (fun kq v4 v9 w' => ∃ (x4_1 : List (S35)) (x9_1 : Int), v9 = .int .i64 x9_1 ∧ Aside0 (stage_Erases.l0 kq a0 x4_1 x9_1 = some (r1, r2)) ∧ Aside0 (kq ≤ k) ∧ Aside0 (Kd.R k35 35 w' w.heap.size (fun _ => True) v4 x4_1) ∧ Aside0 (Below w.heap.size w w'))
  case atStart => exact ⟨(([] : List (S35))), (0), q4_, H', ⟨Nat.le_refl _⟩, ⟨by first | exact Kd.R_nil _ _ _ _ _ | exact Kd.N_nil _ _ _ _ _ | exact Kd.V_nil _ _ _ _ _ | exact Kd.Q_nil _ _ _ _ _ | exact Kd.S_nil _ _ _ _ _⟩, ⟨by repeat (first | (with_reducible first | exact HB.out | apply below_alloc | apply pw_below_drewN | apply below_drew1) | exact HB.out)⟩⟩
  case round =>
   clear H'
   try clear p2
   try clear c3
   obtain ⟨x4_1, x9_1, rfl, HA, HK1, HO_4, HB⟩ := hrel
   cases gk with
   | zero => exact absurd HA.out (by simp [stage_Erases.l0])
   | succ k1 =>
    have H := HA.out
    clear HA
    simp only [stage_Erases.l0] at H
    by_cases c4 : x9_1 < 3
    ·rw [if_pos c4] at H
     have c4b0 : decide (x9_1 < 3) = true := decide_eq_true c4
     clear c4
     replace H := Option.bind_eq_some_iff.mp H
     obtain ⟨t543, A50, H⟩ := H
     replace H : ((journal_Begin.f (wrap64 (t543 + x9_1))).bind fun t544 => (if x4_1.length < 4398046511104 then (stage_Erases.l0 k1 a0 (x4_1 ++ [(⟨true, t544, (⟨#[]⟩ : ByteArray)⟩ : S35)]) (wrap64 (x9_1 + 1))) else (none))) = some (r1, r2) := H
     have A5 := Aside0.mk A50
     clear A50
     replace H := Option.bind_eq_some_iff.mp H
     obtain ⟨t544, A60, H⟩ := H
     replace H : (if x4_1.length < 4398046511104 then (stage_Erases.l0 k1 a0 (x4_1 ++ [(⟨true, t544, (⟨#[]⟩ : ByteArray)⟩ : S35)]) (wrap64 (x9_1 + 1))) else (none)) = some (r1, r2) := H
     have A6 := Aside0.mk A60
     clear A60
     by_cases c7 : x4_1.length < 4398046511104
     ·rw [if_pos c7] at H
      have LMc7 := Aside0.mk c7
      clear c7
      obtain ⟨y545, hy545⟩ : ∃ y_ : List (S35), y_ = (x4_1 ++ [(⟨true, t544, (⟨#[]⟩ : ByteArray)⟩ : S35)]) := ⟨_, rfl⟩
      replace H : (stage_Erases.l0 k1 a0 y545 (wrap64 (x9_1 + 1))) = some (r1, r2) := by first | (rw [hy545]; with_reducible exact H) | (have H2_ := (Option.bind_some _ _).symm.trans H; rw [hy545]; with_reducible exact H2_) | (have H2_ := (Option.bind_some _ _).symm.trans H; with_reducible exact H2_) | with_reducible exact H | (rw [hy545]; exact H) | exact H
      have Ny545 := Aside0.mk hy545
      clear hy545
      have H' := Aside0.mk H
      clear H
      go_wp2_with (first | ((with_reducible refine gate_callee (f := 59) rfl ?_); refine goesL_ (some 14) rfl rfl Try.func59 (by kernel_rfl) rfl #[.int .i64 a0] rfl q1_ ?_; (with_reducible refine (image_Sector.calls a0 t543 _ A5.out).mono ?_); rintro e w' ⟨rfl, ⟨nd, rfl⟩⟩; refine ⟨_, rfl, ?_⟩) | ((with_reducible refine gate_callee (f := 58) rfl ?_); refine goesL_ (some 17) rfl rfl Try.func58 (by kernel_rfl) rfl #[.int .i64 (wrap64 (t543 + x9_1))] rfl q1_ ?_; (with_reducible refine (journal_Begin.calls (wrap64 (t543 + x9_1)) t544 _ A6.out).mono ?_); rintro e w' ⟨rfl, ⟨nd, rfl⟩⟩; refine ⟨_, rfl, ?_⟩) | ((with_reducible refine gate_builtin (b := .append) (xs := #[.tmp 12, .tmp 19]) rfl ?_); at_builtin; refine Kd.R_append k35 (w0 := w) w.heap.size rfl (.tmp 12) (.tmp 19) 36 35 (.agg #[(.bool false), (.int .i64 0), (.string ⟨#[]⟩)]) 32 rfl Try.underlying36 info35 rfl (by decide) (by omega) u4 x4_1 (⟨true, t544, (⟨#[]⟩ : ByteArray)⟩ : S35) [.bool true, .int .i64 t544, .string (⟨#[]⟩ : ByteArray)] (fun _ => True) (fun _ => False) rfl rfl ?aP (fun _ hk => hk.elim) ?aF ?aO ?aB ?aS ?aL ?_; (case aP => exact k35_mkM _ _ _ (⟨true, t544, (⟨#[]⟩ : ByteArray)⟩ : S35)); (case aB => exact q2_); (case aF => exact (fun _ _ => trivial)); (case aO => exact q6_); (case aS => exact (below_size q2_)); (case aL => have := LMc7.out; omega); intro v546 w8 ho hb hg hat; rw [← Ny545.out] at ho; have n0_ := Aside0.mk (hb); have n1_ := Aside0.mk (ho); clear HB; clear HO_4; have HB := n0_; have HO547 := n1_; clear n0_ n1_; clear ho hb hg hat))
      go_roundg k1
      case measure => have := HK1.out; omega
      case rel => exact ⟨(y545), (wrap64 (x9_1 + 1)), q4_, H', ⟨by have := HK1.out; omega⟩, ⟨by (with_reducible repeat (first | apply Kd.R_alloc | apply Kd.R_drewN | apply Kd.R_drew)); exact HO547.out⟩, ⟨by repeat (first | (with_reducible first | exact HB.out | apply below_alloc | apply pw_below_drewN | apply below_drew1) | exact HB.out)⟩⟩
     ·rw [if_neg c7] at H
      exact absurd H (by simp)
    ·rw [if_neg c4] at H
     have c4b0 : decide (x9_1 < 3) = false := decide_eq_false c4
     clear c4
     simp only [Option.some.injEq, Prod.mk.injEq] at H
     obtain ⟨rfl, rfl⟩ := H
     go_wp2
     go_ret2
     exact ⟨_, by first | rfl | (simp [errW_none, errW_some] <;> rfl) | (simp [*, errW_none, errW_some] <;> rfl), by (with_reducible repeat (first | apply Kd.R_alloc | apply Kd.R_drewN | apply Kd.R_drew)); exact HO_4.out, by repeat (first | (with_reducible first | exact HB.out | apply below_alloc | apply pw_below_drewN | apply below_drew1) | exact HB.out)⟩
 ·replace c3 := Bool.eq_false_iff.mpr c3
  subst c3
  have H1 : (some (([] : List (S35)), 900)) = some (r1, r2) := by rw [if_neg (show ¬ (false = true) by decide)] at H; exact H
  clear H
  have H := H1
  clear H1
  simp only [Option.some.injEq, Prod.mk.injEq] at H
  obtain ⟨rfl, rfl⟩ := H
  go_enter Try.func33, Try.ntmps33
  go_wp2_with (first | ((with_reducible refine gate_callee (f := 35) rfl ?_); refine goesL_ (some 7) rfl rfl Try.func35 (by kernel_rfl) rfl #[.int .i64 a0] rfl q1_ ?_; (with_reducible refine (entry_Slot.calls a0 false _ A2.out).mono ?_); rintro e w' ⟨rfl, ⟨nd, rfl⟩⟩; refine ⟨_, rfl, ?_⟩))
  go_ret2
  exact ⟨_, by first | rfl | (simp [errW_none, errW_some] <;> rfl) | (simp [*, errW_none, errW_some] <;> rfl), by first | exact Kd.R_nil _ _ _ _ _ | exact Kd.N_nil _ _ _ _ _ | exact Kd.V_nil _ _ _ _ _ | exact Kd.Q_nil _ _ _ _ _ | exact Kd.S_nil _ _ _ _ _, by repeat (first | (with_reducible first | exact HB.out | apply below_alloc | apply pw_below_drewN | apply below_drew1) | exact HB.out)⟩
end Go.Proofs.Ytjihlabmddfjhaa.PAll

