import Derived.Test.YtjihlabmddfjhaaShJ2
-- Laid together from this session's own texts by its program wip/tools/shake.py.
-- Written by this session's own program (wip/tools/myprint.py), which runs the kit's print over functions proved by hand.
namespace Go.Proofs.Ytjihlabmddfjhaa.PAll
open Go.RowKit Go.Proofs.YtjihlabmddfjhaaW.PrintWords Go.Proofs.YtjihlabmddfjhaaW.PrintLast Go.Proofs.YtjihlabmddfjhaaW.PrintMore
attribute [local go_sem] max2_int min2_int max_two min_two max_three min_three max_four min_four   -- for this text's walks alone
set_option linter.unusedVariables false
set_option linter.unusedSimpArgs false
def skiffref1_Active.l0 : Nat → ByteArray → List (S59) → Int → Int → Option (Int × Int × Int × Int × Int × Int)
 | 0, _, _, _, _ => none
 | k + 1, x0, x4, x6, x7 => if x7 < (x4.length : Int) then (if 0 ≤ x7 then ((skiffref1_Good.f k x0 ((rd_T59 x4 x7).f1.f0) ((rd_T59 x4 x7).f1.f1) ((rd_T59 x4 x7).f1.f2) ((rd_T59 x4 x7).f1.f3)).bind fun bt398 => (if bt398.1 = true then (if x6 < 0 then (skiffref1_Active.l0 k x0 x4 x7 (wrap64 (x7 + 1))) else (if 0 ≤ x6 then (if x6 < (x4.length : Int) then (if ((rd_T59 x4 x7).f1.f0) ≥ ((rd_T59 x4 x6).f1.f0) then (skiffref1_Active.l0 k x0 x4 x7 (wrap64 (x7 + 1))) else (skiffref1_Active.l0 k x0 x4 x6 (wrap64 (x7 + 1)))) else (none)) else (none))) else (skiffref1_Active.l0 k x0 x4 x6 (wrap64 (x7 + 1))))) else (none)) else (if x6 < 0 then (some (0, 0, 0, 0, 0, 701)) else (if 0 ≤ x6 then (if x6 < (x4.length : Int) then (some ((rd_T59 x4 x6).f0, (rd_T59 x4 x6).f1.f0, (rd_T59 x4 x6).f1.f1, (rd_T59 x4 x6).f1.f2, (rd_T59 x4 x6).f1.f3, 0)) else (none)) else (none)))
def skiffref1_Active.f (k : Nat) (a0 : ByteArray) : Option (Int × Int × Int × Int × Int × Int) := (skiffref1_Scan.f k a0).bind fun bt393 => (if bt393.2 = 0 then (skiffref1_Active.l0 k a0 bt393.1 (-1) 0) else (some (0, 0, 0, 0, 0, 700)))
set_option maxHeartbeats 8000000 in
set_option maxRecDepth 100000 in
theorem skiffref1_Active.calls (k : Nat) (a0 : ByteArray) (r1 : Int) (r2 : Int) (r3 : Int) (r4 : Int) (r5 : Int) (r6 : Int) (w : World) (h : skiffref1_Active.f k a0 = some (r1, r2, r3, r4, r5, r6)) :
  Calls Try.prog 64 #[.string a0] w fun e w' => e = .returned (.tuple #[.agg #[.int .i64 r1, .int .i64 r2, .int .i64 r3, .int .i64 r4, .int .i64 r5], .int .i64 r6]) ∧ Below w.heap.size w w' := by
 have hu59 := Try.underlying59
 have hu25 := Try.underlying25
 have HB := Aside0.mk (Below.refl w.heap.size w)
 have H : ((skiffref1_Scan.f k a0).bind fun bt393 => (if bt393.2 = 0 then (skiffref1_Active.l0 k a0 bt393.1 (-1) 0) else (some (0, 0, 0, 0, 0, 700)))) = some (r1, r2, r3, r4, r5, r6) := h
 clear h
 replace H := Option.bind_eq_some_iff.mp H
 obtain ⟨⟨t393, t394⟩, A20, H⟩ := H
 replace H : (if t394 = 0 then (skiffref1_Active.l0 k a0 t393 (-1) 0) else (some (0, 0, 0, 0, 0, 700))) = some (r1, r2, r3, r4, r5, r6) := H
 have A2 := Aside0.mk A20
 clear A20
 by_cases c3 : t394 = 0
 ·rw [if_pos c3] at H
  have c3b0 : (t394 == 0) = true := beq_iff_eq.mpr c3
  have c3b1 : (t394 != 0) = false := bne_eq_false_iff_eq.mpr c3
  clear c3
  have H' := Aside0.mk H
  clear H
  go_enter Try.func64, Try.ntmps64
  go_wp2_with (first | ((with_reducible refine gate_dst (N := 2) rfl ?_); refine box_event ?hg (N := 2) ?hd (cs := #[.int .i64 0, .int .i64 0, .int .i64 0, .int .i64 0, .int .i64 0]) (t := 59) ?hr ?_; (case hd => rfl); (case hg => rfl); (case hr => first | (go_simp; done) | (go_simp; rfl)); intro gb392 hg w4 hbox hb; have n0_ := Aside0.mk (below_step (by repeat (first | (with_reducible first | exact HB.out | apply below_alloc | apply pw_below_drewN | apply below_drew1) | exact HB.out)) hb); have n1_ := Aside0.mk (hbox); have n2_ := Aside0.mk ((by rw [hg]; exact (below_size (by repeat (first | (with_reducible first | exact HB.out | apply below_alloc | apply pw_below_drewN | apply below_drew1) | exact HB.out))) : w.heap.size ≤ gb392)); have n3_ := Aside0.mk ((by rw [hg]; exact (below_size (by repeat (first | (with_reducible first | exact HB.out | apply below_alloc | apply pw_below_drewN | apply below_drew1) | exact HB.out))) : w.heap.size ≤ gb392)); clear HB; have HB := n0_; have BK392 := n1_; have GW392 := n2_; have GE392 := n3_; clear n0_ n1_ n2_ n3_; clear hb hbox hg) | (go_at_call 77; (with_reducible refine (skiffref1_Scan.calls k a0 t393 t394 _ A2.out).mono ?_); rintro e w5 ⟨v395, rfl, ho0, hb⟩; have n0_ := Aside0.mk (Kd.R_lower (Kd.R_newB ho0 (g := gb392) (o := .cells #[.int .i64 0, .int .i64 0, .int .i64 0, .int .i64 0, .int .i64 0] 59 (0, 0)) (by (with_reducible repeat (first | refine blk_drewN ?_ _ | refine blk_drew ?_ | refine blk_alloc ?_ _)); exact BK392.out)) (below_size (by repeat (first | (with_reducible first | exact HB.out | apply below_alloc | apply pw_below_drewN | apply below_drew1 | refine below_set ?_ GE392.out) | exact HB.out)))); have n1_ := Aside0.mk (blk_below (g := gb392) (o := .cells #[.int .i64 0, .int .i64 0, .int .i64 0, .int .i64 0, .int .i64 0] 59 (0, 0)) (by (with_reducible repeat (first | refine blk_drewN ?_ _ | refine blk_drew ?_ | refine blk_alloc ?_ _)); exact BK392.out) hb); have n2_ := Aside0.mk (below_step (by repeat (first | (with_reducible first | exact HB.out | apply below_alloc | apply pw_below_drewN | apply below_drew1 | refine below_set ?_ GE392.out) | exact HB.out)) hb); clear BK392; clear HB; have HO396 := n0_; have BK392 := n1_; have HB := n2_; clear n0_ n1_ n2_; (try clear hb); (try clear hb2); (try clear hk); (try clear hi); (try clear ho0)))
  repeat (go_quiet (first | ((with_reducible refine gate_dst (N := 2) rfl ?_); refine box_event ?hg (N := 2) ?hd (cs := #[.int .i64 0, .int .i64 0, .int .i64 0, .int .i64 0, .int .i64 0]) (t := 59) ?hr ?_; (case hd => rfl); (case hg => rfl); (case hr => first | (go_simp; done) | (go_simp; rfl)); intro gb392 hg w4 hbox hb; have n0_ := Aside0.mk (below_step (by repeat (first | (with_reducible first | exact HB.out | apply below_alloc | apply pw_below_drewN | apply below_drew1) | exact HB.out)) hb); have n1_ := Aside0.mk (hbox); have n2_ := Aside0.mk ((by rw [hg]; exact (below_size (by repeat (first | (with_reducible first | exact HB.out | apply below_alloc | apply pw_below_drewN | apply below_drew1) | exact HB.out))) : w.heap.size ≤ gb392)); have n3_ := Aside0.mk ((by rw [hg]; exact (below_size (by repeat (first | (with_reducible first | exact HB.out | apply below_alloc | apply pw_below_drewN | apply below_drew1) | exact HB.out))) : w.heap.size ≤ gb392)); clear HB; have HB := n0_; have BK392 := n1_; have GW392 := n2_; have GE392 := n3_; clear n0_ n1_ n2_ n3_; clear hb hbox hg) | (go_at_call 77; (with_reducible refine (skiffref1_Scan.calls k a0 t393 t394 _ A2.out).mono ?_); rintro e w5 ⟨v395, rfl, ho0, hb⟩; have n0_ := Aside0.mk (Kd.R_lower (Kd.R_newB ho0 (g := gb392) (o := .cells #[.int .i64 0, .int .i64 0, .int .i64 0, .int .i64 0, .int .i64 0] 59 (0, 0)) (by (with_reducible repeat (first | refine blk_drewN ?_ _ | refine blk_drew ?_ | refine blk_alloc ?_ _)); exact BK392.out)) (below_size (by repeat (first | (with_reducible first | exact HB.out | apply below_alloc | apply pw_below_drewN | apply below_drew1 | refine below_set ?_ GE392.out) | exact HB.out)))); have n1_ := Aside0.mk (blk_below (g := gb392) (o := .cells #[.int .i64 0, .int .i64 0, .int .i64 0, .int .i64 0, .int .i64 0] 59 (0, 0)) (by (with_reducible repeat (first | refine blk_drewN ?_ _ | refine blk_drew ?_ | refine blk_alloc ?_ _)); exact BK392.out) hb); have n2_ := Aside0.mk (below_step (by repeat (first | (with_reducible first | exact HB.out | apply below_alloc | apply pw_below_drewN | apply below_drew1 | refine below_set ?_ GE392.out) | exact HB.out)) hb); clear BK392; clear HB; have HO396 := n0_; have BK392 := n1_; have HB := n2_; clear n0_ n1_ n2_; (try clear hb); (try clear hb2); (try clear hk); (try clear hi); (try clear ho0))); try go_wp2_with (first | ((with_reducible refine gate_dst (N := 2) rfl ?_); refine box_event ?hg (N := 2) ?hd (cs := #[.int .i64 0, .int .i64 0, .int .i64 0, .int .i64 0, .int .i64 0]) (t := 59) ?hr ?_; (case hd => rfl); (case hg => rfl); (case hr => first | (go_simp; done) | (go_simp; rfl)); intro gb392 hg w4 hbox hb; have n0_ := Aside0.mk (below_step (by repeat (first | (with_reducible first | exact HB.out | apply below_alloc | apply pw_below_drewN | apply below_drew1) | exact HB.out)) hb); have n1_ := Aside0.mk (hbox); have n2_ := Aside0.mk ((by rw [hg]; exact (below_size (by repeat (first | (with_reducible first | exact HB.out | apply below_alloc | apply pw_below_drewN | apply below_drew1) | exact HB.out))) : w.heap.size ≤ gb392)); have n3_ := Aside0.mk ((by rw [hg]; exact (below_size (by repeat (first | (with_reducible first | exact HB.out | apply below_alloc | apply pw_below_drewN | apply below_drew1) | exact HB.out))) : w.heap.size ≤ gb392)); clear HB; have HB := n0_; have BK392 := n1_; have GW392 := n2_; have GE392 := n3_; clear n0_ n1_ n2_ n3_; clear hb hbox hg) | (go_at_call 77; (with_reducible refine (skiffref1_Scan.calls k a0 t393 t394 _ A2.out).mono ?_); rintro e w5 ⟨v395, rfl, ho0, hb⟩; have n0_ := Aside0.mk (Kd.R_lower (Kd.R_newB ho0 (g := gb392) (o := .cells #[.int .i64 0, .int .i64 0, .int .i64 0, .int .i64 0, .int .i64 0] 59 (0, 0)) (by (with_reducible repeat (first | refine blk_drewN ?_ _ | refine blk_drew ?_ | refine blk_alloc ?_ _)); exact BK392.out)) (below_size (by repeat (first | (with_reducible first | exact HB.out | apply below_alloc | apply pw_below_drewN | apply below_drew1 | refine below_set ?_ GE392.out) | exact HB.out)))); have n1_ := Aside0.mk (blk_below (g := gb392) (o := .cells #[.int .i64 0, .int .i64 0, .int .i64 0, .int .i64 0, .int .i64 0] 59 (0, 0)) (by (with_reducible repeat (first | refine blk_drewN ?_ _ | refine blk_drew ?_ | refine blk_alloc ?_ _)); exact BK392.out) hb); have n2_ := Aside0.mk (below_step (by repeat (first | (with_reducible first | exact HB.out | apply below_alloc | apply pw_below_drewN | apply below_drew1 | refine below_set ?_ GE392.out) | exact HB.out)) hb); clear BK392; clear HB; have HO396 := n0_; have BK392 := n1_; have HB := n2_; clear n0_ n1_ n2_; (try clear hb); (try clear hb2); (try clear hk); (try clear hi); (try clear ho0))))
  go_loopg [6, 7] k (fun kq v6 v7 w' => ∃ (x6_1 : Int) (x7_1 : Int), v6 = .int .i64 x6_1 ∧ v7 = .int .i64 x7_1 ∧ Aside0 (skiffref1_Active.l0 kq a0 t393 x6_1 x7_1 = some (r1, r2, r3, r4, r5, r6)) ∧ Aside0 (kq ≤ k) ∧ Aside0 (Kd.R k59 59 w' w.heap.size (fun k_ => k_ ≠ gb392) v395 t393) ∧ Aside0 (w'.heap[gb392]? = some (.cells #[.int .i64 0, .int .i64 0, .int .i64 0, .int .i64 0, .int .i64 0] 59 (0, 0))) ∧ Aside0 (Below w.heap.size w w'))
  case atStart => exact ⟨((-1)), (0), (by first | rfl | (simp; done) | (simp [*]; done)), (by first | rfl | (simp; done) | (simp [*]; done)), H', ⟨Nat.le_refl _⟩, ⟨by (with_reducible repeat (first | apply Kd.R_alloc | apply Kd.R_drewN | apply Kd.R_drew)); exact Kd.R_mono HO396.out (fun _ hk => hk.2)⟩, ⟨by (with_reducible repeat (first | refine blk_drewN ?_ _ | refine blk_drew ?_ | refine blk_alloc ?_ _)); exact BK392.out⟩, ⟨by repeat (first | (with_reducible first | exact HB.out | apply below_alloc | apply pw_below_drewN | apply below_drew1 | refine below_set ?_ GE392.out) | exact HB.out)⟩⟩
  case round =>
   clear H'
   try clear p2
   try clear c3
   try clear c3b0
   try clear c3b1
   obtain ⟨x6_1, x7_1, rfl, rfl, HA, HK1, HO_4, BK392, HB⟩ := hrel
   cases gk with
   | zero => exact absurd HA.out (by simp [skiffref1_Active.l0])
   | succ k1 =>
    have H := HA.out
    clear HA
    simp only [skiffref1_Active.l0] at H
    by_cases c6 : x7_1 < (t393.length : Int)
    ·rw [if_pos c6] at H
     have c6b0 : decide (x7_1 < (t393.length : Int)) = true := decide_eq_true c6
     clear c6
     by_cases c7 : 0 ≤ x7_1
     ·rw [if_pos c7] at H
      have c7b0 : decide (0 ≤ x7_1) = true := decide_eq_true c7
      clear c7
      replace H := Option.bind_eq_some_iff.mp H
      obtain ⟨⟨t398, t399⟩, A80, H⟩ := H
      replace H : (if t398 = true then (if x6_1 < 0 then (skiffref1_Active.l0 k1 a0 t393 x7_1 (wrap64 (x7_1 + 1))) else (if 0 ≤ x6_1 then (if x6_1 < (t393.length : Int) then (if ((rd_T59 t393 x7_1).f1.f0) ≥ ((rd_T59 t393 x6_1).f1.f0) then (skiffref1_Active.l0 k1 a0 t393 x7_1 (wrap64 (x7_1 + 1))) else (skiffref1_Active.l0 k1 a0 t393 x6_1 (wrap64 (x7_1 + 1)))) else (none)) else (none))) else (skiffref1_Active.l0 k1 a0 t393 x6_1 (wrap64 (x7_1 + 1)))) = some (r1, r2, r3, r4, r5, r6) := H
      have A8 := Aside0.mk A80
      clear A80
      by_cases c9 : t398 = true
      ·subst c9
       have H1 : (if x6_1 < 0 then (skiffref1_Active.l0 k1 a0 t393 x7_1 (wrap64 (x7_1 + 1))) else (if 0 ≤ x6_1 then (if x6_1 < (t393.length : Int) then (if ((rd_T59 t393 x7_1).f1.f0) ≥ ((rd_T59 t393 x6_1).f1.f0) then (skiffref1_Active.l0 k1 a0 t393 x7_1 (wrap64 (x7_1 + 1))) else (skiffref1_Active.l0 k1 a0 t393 x6_1 (wrap64 (x7_1 + 1)))) else (none)) else (none))) = some (r1, r2, r3, r4, r5, r6) := by rw [if_pos rfl] at H; exact H
       clear H
       have H := H1
       clear H1
       by_cases c10 : x6_1 < 0
       ·rw [if_pos c10] at H
        have c10b0 : decide (x6_1 < 0) = true := decide_eq_true c10
        clear c10
        have H' := Aside0.mk H
        clear H
        obtain ⟨Ao11, co11, eo11⟩ := Kd.R_slice HO_4.out
        subst eo11
        have p397 : 0 ≤ (x7_1 : Int) := of_decide_eq_true (by first | (with_reducible assumption) | assumption)
        have q397 : x7_1 < (t393.length : Int) := of_decide_eq_true (by first | (with_reducible assumption) | assumption)
        obtain ⟨ad397, e397, hx397_0, hx397_1, hx397_2, hx397_3, hx397_4⟩ := at_T59 (Kd.R_reads' HO_4.out).2.2 x7_1 p397 q397
        cases e397
        replace p397 := eq_true p397
        replace q397 := eq_true q397
        go_wp2_with (first | (go_at_call 78; (with_reducible refine (skiffref1_Good.calls k1 a0 ((rd_T59 t393 x7_1).f1.f0) ((rd_T59 t393 x7_1).f1.f1) ((rd_T59 t393 x7_1).f1.f2) ((rd_T59 t393 x7_1).f1.f3) true t399 _ A8.out).mono ?_); rintro e w12 ⟨rfl, hb⟩; have n0_ := Aside0.mk (Kd.R_below (by (with_reducible repeat (first | apply Kd.R_alloc | apply Kd.R_drewN | apply Kd.R_drew)); exact HO_4.out) hb); have n1_ := Aside0.mk (blk_below (g := gb392) (o := .cells #[.int .i64 0, .int .i64 0, .int .i64 0, .int .i64 0, .int .i64 0] 59 (0, 0)) (by (with_reducible repeat (first | refine blk_drewN ?_ _ | refine blk_drew ?_ | refine blk_alloc ?_ _)); exact BK392.out) hb); have n2_ := Aside0.mk (below_step (by repeat (first | (with_reducible first | exact HB.out | apply below_alloc | apply pw_below_drewN | apply below_drew1 | refine below_set ?_ GE392.out) | exact HB.out)) hb); clear HO_4; clear BK392; clear HB; have HO_4 := n0_; have BK392 := n1_; have HB := n2_; clear n0_ n1_ n2_; (try clear hb); (try clear hb2); (try clear hk); (try clear hi)))
        repeat (go_quiet (first | (go_at_call 78; (with_reducible refine (skiffref1_Good.calls k1 a0 ((rd_T59 t393 x7_1).f1.f0) ((rd_T59 t393 x7_1).f1.f1) ((rd_T59 t393 x7_1).f1.f2) ((rd_T59 t393 x7_1).f1.f3) true t399 _ A8.out).mono ?_); rintro e w12 ⟨rfl, hb⟩; have n0_ := Aside0.mk (Kd.R_below (by (with_reducible repeat (first | apply Kd.R_alloc | apply Kd.R_drewN | apply Kd.R_drew)); exact HO_4.out) hb); have n1_ := Aside0.mk (blk_below (g := gb392) (o := .cells #[.int .i64 0, .int .i64 0, .int .i64 0, .int .i64 0, .int .i64 0] 59 (0, 0)) (by (with_reducible repeat (first | refine blk_drewN ?_ _ | refine blk_drew ?_ | refine blk_alloc ?_ _)); exact BK392.out) hb); have n2_ := Aside0.mk (below_step (by repeat (first | (with_reducible first | exact HB.out | apply below_alloc | apply pw_below_drewN | apply below_drew1 | refine below_set ?_ GE392.out) | exact HB.out)) hb); clear HO_4; clear BK392; clear HB; have HO_4 := n0_; have BK392 := n1_; have HB := n2_; clear n0_ n1_ n2_; (try clear hb); (try clear hb2); (try clear hk); (try clear hi))); try go_wp2_with (first | (go_at_call 78; (with_reducible refine (skiffref1_Good.calls k1 a0 ((rd_T59 t393 x7_1).f1.f0) ((rd_T59 t393 x7_1).f1.f1) ((rd_T59 t393 x7_1).f1.f2) ((rd_T59 t393 x7_1).f1.f3) true t399 _ A8.out).mono ?_); rintro e w12 ⟨rfl, hb⟩; have n0_ := Aside0.mk (Kd.R_below (by (with_reducible repeat (first | apply Kd.R_alloc | apply Kd.R_drewN | apply Kd.R_drew)); exact HO_4.out) hb); have n1_ := Aside0.mk (blk_below (g := gb392) (o := .cells #[.int .i64 0, .int .i64 0, .int .i64 0, .int .i64 0, .int .i64 0] 59 (0, 0)) (by (with_reducible repeat (first | refine blk_drewN ?_ _ | refine blk_drew ?_ | refine blk_alloc ?_ _)); exact BK392.out) hb); have n2_ := Aside0.mk (below_step (by repeat (first | (with_reducible first | exact HB.out | apply below_alloc | apply pw_below_drewN | apply below_drew1 | refine below_set ?_ GE392.out) | exact HB.out)) hb); clear HO_4; clear BK392; clear HB; have HO_4 := n0_; have BK392 := n1_; have HB := n2_; clear n0_ n1_ n2_; (try clear hb); (try clear hb2); (try clear hk); (try clear hi))))
        go_roundg k1
        case measure => have := HK1.out; omega
        case rel => exact ⟨(x7_1), (wrap64 (x7_1 + 1)), (by first | rfl | (simp; done) | (simp [*]; done)), (by first | rfl | (simp; done) | (simp [*]; done)), H', ⟨by have := HK1.out; omega⟩, ⟨by (with_reducible repeat (first | apply Kd.R_alloc | apply Kd.R_drewN | apply Kd.R_drew)); exact HO_4.out⟩, ⟨by (with_reducible repeat (first | refine blk_drewN ?_ _ | refine blk_drew ?_ | refine blk_alloc ?_ _)); exact BK392.out⟩, ⟨by repeat (first | (with_reducible first | exact HB.out | apply below_alloc | apply pw_below_drewN | apply below_drew1 | refine below_set ?_ GE392.out) | exact HB.out)⟩⟩
       ·rw [if_neg c10] at H
        have c10b0 : decide (x6_1 < 0) = false := decide_eq_false c10
        clear c10
        by_cases c13 : 0 ≤ x6_1
        ·rw [if_pos c13] at H
         have c13b0 : decide (0 ≤ x6_1) = true := decide_eq_true c13
         clear c13
         by_cases c14 : x6_1 < (t393.length : Int)
         ·rw [if_pos c14] at H
          have c14b0 : decide (x6_1 < (t393.length : Int)) = true := decide_eq_true c14
          clear c14
          by_cases c15 : ((rd_T59 t393 x7_1).f1.f0) ≥ ((rd_T59 t393 x6_1).f1.f0)
          ·rw [if_pos c15] at H
           have c15b0 : decide (((rd_T59 t393 x6_1).f1.f0) ≤ ((rd_T59 t393 x7_1).f1.f0)) = true := decide_eq_true c15
           clear c15
           have H' := Aside0.mk H
           clear H
           obtain ⟨Ao16, co16, eo16⟩ := Kd.R_slice HO_4.out
           subst eo16
           have p397 : 0 ≤ (x7_1 : Int) := of_decide_eq_true (by first | (with_reducible assumption) | assumption)
           have q397 : x7_1 < (t393.length : Int) := of_decide_eq_true (by first | (with_reducible assumption) | assumption)
           obtain ⟨ad397, e397, hx397_0, hx397_1, hx397_2, hx397_3, hx397_4⟩ := at_T59 (Kd.R_reads' HO_4.out).2.2 x7_1 p397 q397
           cases e397
           replace p397 := eq_true p397
           replace q397 := eq_true q397
           go_wp2_with (first | (go_at_call 78; (with_reducible refine (skiffref1_Good.calls k1 a0 ((rd_T59 t393 x7_1).f1.f0) ((rd_T59 t393 x7_1).f1.f1) ((rd_T59 t393 x7_1).f1.f2) ((rd_T59 t393 x7_1).f1.f3) true t399 _ A8.out).mono ?_); rintro e w17 ⟨rfl, hb⟩; have n0_ := Aside0.mk (Kd.R_below (by (with_reducible repeat (first | apply Kd.R_alloc | apply Kd.R_drewN | apply Kd.R_drew)); exact HO_4.out) hb); have n1_ := Aside0.mk (blk_below (g := gb392) (o := .cells #[.int .i64 0, .int .i64 0, .int .i64 0, .int .i64 0, .int .i64 0] 59 (0, 0)) (by (with_reducible repeat (first | refine blk_drewN ?_ _ | refine blk_drew ?_ | refine blk_alloc ?_ _)); exact BK392.out) hb); have n2_ := Aside0.mk (below_step (by repeat (first | (with_reducible first | exact HB.out | apply below_alloc | apply pw_below_drewN | apply below_drew1 | refine below_set ?_ GE392.out) | exact HB.out)) hb); clear HO_4; clear BK392; clear HB; have HO_4 := n0_; have BK392 := n1_; have HB := n2_; clear n0_ n1_ n2_; (try clear hb); (try clear hb2); (try clear hk); (try clear hi); have p400 : 0 ≤ (x7_1 : Int) := of_decide_eq_true (by first | (with_reducible assumption) | assumption); have q400 : x7_1 < (t393.length : Int) := of_decide_eq_true (by first | (with_reducible assumption) | assumption); obtain ⟨ad400, e400, hx400_0, hx400_1, hx400_2, hx400_3, hx400_4⟩ := at_T59 (Kd.R_reads' HO_4.out).2.2 x7_1 p400 q400; obtain rfl : ad397 = ad400 := (by injection e400); replace p400 := eq_true p400; replace q400 := eq_true q400; have p401 : 0 ≤ (x6_1 : Int) := of_decide_eq_true (by first | (with_reducible assumption) | assumption); have q401 : x6_1 < (t393.length : Int) := of_decide_eq_true (by first | (with_reducible assumption) | assumption); obtain ⟨ad401, e401, hx401_0, hx401_1, hx401_2, hx401_3, hx401_4⟩ := at_T59 (Kd.R_reads' HO_4.out).2.2 x6_1 p401 q401; obtain rfl : ad397 = ad401 := (by injection e401); replace p401 := eq_true p401; replace q401 := eq_true q401))
           repeat (go_quiet (first | (go_at_call 78; (with_reducible refine (skiffref1_Good.calls k1 a0 ((rd_T59 t393 x7_1).f1.f0) ((rd_T59 t393 x7_1).f1.f1) ((rd_T59 t393 x7_1).f1.f2) ((rd_T59 t393 x7_1).f1.f3) true t399 _ A8.out).mono ?_); rintro e w17 ⟨rfl, hb⟩; have n0_ := Aside0.mk (Kd.R_below (by (with_reducible repeat (first | apply Kd.R_alloc | apply Kd.R_drewN | apply Kd.R_drew)); exact HO_4.out) hb); have n1_ := Aside0.mk (blk_below (g := gb392) (o := .cells #[.int .i64 0, .int .i64 0, .int .i64 0, .int .i64 0, .int .i64 0] 59 (0, 0)) (by (with_reducible repeat (first | refine blk_drewN ?_ _ | refine blk_drew ?_ | refine blk_alloc ?_ _)); exact BK392.out) hb); have n2_ := Aside0.mk (below_step (by repeat (first | (with_reducible first | exact HB.out | apply below_alloc | apply pw_below_drewN | apply below_drew1 | refine below_set ?_ GE392.out) | exact HB.out)) hb); clear HO_4; clear BK392; clear HB; have HO_4 := n0_; have BK392 := n1_; have HB := n2_; clear n0_ n1_ n2_; (try clear hb); (try clear hb2); (try clear hk); (try clear hi); have p400 : 0 ≤ (x7_1 : Int) := of_decide_eq_true (by first | (with_reducible assumption) | assumption); have q400 : x7_1 < (t393.length : Int) := of_decide_eq_true (by first | (with_reducible assumption) | assumption); obtain ⟨ad400, e400, hx400_0, hx400_1, hx400_2, hx400_3, hx400_4⟩ := at_T59 (Kd.R_reads' HO_4.out).2.2 x7_1 p400 q400; obtain rfl : ad397 = ad400 := (by injection e400); replace p400 := eq_true p400; replace q400 := eq_true q400; have p401 : 0 ≤ (x6_1 : Int) := of_decide_eq_true (by first | (with_reducible assumption) | assumption); have q401 : x6_1 < (t393.length : Int) := of_decide_eq_true (by first | (with_reducible assumption) | assumption); obtain ⟨ad401, e401, hx401_0, hx401_1, hx401_2, hx401_3, hx401_4⟩ := at_T59 (Kd.R_reads' HO_4.out).2.2 x6_1 p401 q401; obtain rfl : ad397 = ad401 := (by injection e401); replace p401 := eq_true p401; replace q401 := eq_true q401)); try go_wp2_with (first | (go_at_call 78; (with_reducible refine (skiffref1_Good.calls k1 a0 ((rd_T59 t393 x7_1).f1.f0) ((rd_T59 t393 x7_1).f1.f1) ((rd_T59 t393 x7_1).f1.f2) ((rd_T59 t393 x7_1).f1.f3) true t399 _ A8.out).mono ?_); rintro e w17 ⟨rfl, hb⟩; have n0_ := Aside0.mk (Kd.R_below (by (with_reducible repeat (first | apply Kd.R_alloc | apply Kd.R_drewN | apply Kd.R_drew)); exact HO_4.out) hb); have n1_ := Aside0.mk (blk_below (g := gb392) (o := .cells #[.int .i64 0, .int .i64 0, .int .i64 0, .int .i64 0, .int .i64 0] 59 (0, 0)) (by (with_reducible repeat (first | refine blk_drewN ?_ _ | refine blk_drew ?_ | refine blk_alloc ?_ _)); exact BK392.out) hb); have n2_ := Aside0.mk (below_step (by repeat (first | (with_reducible first | exact HB.out | apply below_alloc | apply pw_below_drewN | apply below_drew1 | refine below_set ?_ GE392.out) | exact HB.out)) hb); clear HO_4; clear BK392; clear HB; have HO_4 := n0_; have BK392 := n1_; have HB := n2_; clear n0_ n1_ n2_; (try clear hb); (try clear hb2); (try clear hk); (try clear hi); have p400 : 0 ≤ (x7_1 : Int) := of_decide_eq_true (by first | (with_reducible assumption) | assumption); have q400 : x7_1 < (t393.length : Int) := of_decide_eq_true (by first | (with_reducible assumption) | assumption); obtain ⟨ad400, e400, hx400_0, hx400_1, hx400_2, hx400_3, hx400_4⟩ := at_T59 (Kd.R_reads' HO_4.out).2.2 x7_1 p400 q400; obtain rfl : ad397 = ad400 := (by injection e400); replace p400 := eq_true p400; replace q400 := eq_true q400; have p401 : 0 ≤ (x6_1 : Int) := of_decide_eq_true (by first | (with_reducible assumption) | assumption); have q401 : x6_1 < (t393.length : Int) := of_decide_eq_true (by first | (with_reducible assumption) | assumption); obtain ⟨ad401, e401, hx401_0, hx401_1, hx401_2, hx401_3, hx401_4⟩ := at_T59 (Kd.R_reads' HO_4.out).2.2 x6_1 p401 q401; obtain rfl : ad397 = ad401 := (by injection e401); replace p401 := eq_true p401; replace q401 := eq_true q401)))
           go_roundg k1
           case measure => have := HK1.out; omega
           case rel => exact ⟨(x7_1), (wrap64 (x7_1 + 1)), (by first | rfl | (simp; done) | (simp [*]; done)), (by first | rfl | (simp; done) | (simp [*]; done)), H', ⟨by have := HK1.out; omega⟩, ⟨by (with_reducible repeat (first | apply Kd.R_alloc | apply Kd.R_drewN | apply Kd.R_drew)); exact HO_4.out⟩, ⟨by (with_reducible repeat (first | refine blk_drewN ?_ _ | refine blk_drew ?_ | refine blk_alloc ?_ _)); exact BK392.out⟩, ⟨by repeat (first | (with_reducible first | exact HB.out | apply below_alloc | apply pw_below_drewN | apply below_drew1 | refine below_set ?_ GE392.out) | exact HB.out)⟩⟩
          ·rw [if_neg c15] at H
           have c15b0 : decide (((rd_T59 t393 x6_1).f1.f0) ≤ ((rd_T59 t393 x7_1).f1.f0)) = false := decide_eq_false c15
           clear c15
           have H' := Aside0.mk H
           clear H
           obtain ⟨Ao18, co18, eo18⟩ := Kd.R_slice HO_4.out
           subst eo18
           have p397 : 0 ≤ (x7_1 : Int) := of_decide_eq_true (by first | (with_reducible assumption) | assumption)
           have q397 : x7_1 < (t393.length : Int) := of_decide_eq_true (by first | (with_reducible assumption) | assumption)
           obtain ⟨ad397, e397, hx397_0, hx397_1, hx397_2, hx397_3, hx397_4⟩ := at_T59 (Kd.R_reads' HO_4.out).2.2 x7_1 p397 q397
           cases e397
           replace p397 := eq_true p397
           replace q397 := eq_true q397
           go_wp2_with (first | (go_at_call 78; (with_reducible refine (skiffref1_Good.calls k1 a0 ((rd_T59 t393 x7_1).f1.f0) ((rd_T59 t393 x7_1).f1.f1) ((rd_T59 t393 x7_1).f1.f2) ((rd_T59 t393 x7_1).f1.f3) true t399 _ A8.out).mono ?_); rintro e w19 ⟨rfl, hb⟩; have n0_ := Aside0.mk (Kd.R_below (by (with_reducible repeat (first | apply Kd.R_alloc | apply Kd.R_drewN | apply Kd.R_drew)); exact HO_4.out) hb); have n1_ := Aside0.mk (blk_below (g := gb392) (o := .cells #[.int .i64 0, .int .i64 0, .int .i64 0, .int .i64 0, .int .i64 0] 59 (0, 0)) (by (with_reducible repeat (first | refine blk_drewN ?_ _ | refine blk_drew ?_ | refine blk_alloc ?_ _)); exact BK392.out) hb); have n2_ := Aside0.mk (below_step (by repeat (first | (with_reducible first | exact HB.out | apply below_alloc | apply pw_below_drewN | apply below_drew1 | refine below_set ?_ GE392.out) | exact HB.out)) hb); clear HO_4; clear BK392; clear HB; have HO_4 := n0_; have BK392 := n1_; have HB := n2_; clear n0_ n1_ n2_; (try clear hb); (try clear hb2); (try clear hk); (try clear hi); have p400 : 0 ≤ (x7_1 : Int) := of_decide_eq_true (by first | (with_reducible assumption) | assumption); have q400 : x7_1 < (t393.length : Int) := of_decide_eq_true (by first | (with_reducible assumption) | assumption); obtain ⟨ad400, e400, hx400_0, hx400_1, hx400_2, hx400_3, hx400_4⟩ := at_T59 (Kd.R_reads' HO_4.out).2.2 x7_1 p400 q400; obtain rfl : ad397 = ad400 := (by injection e400); replace p400 := eq_true p400; replace q400 := eq_true q400; have p401 : 0 ≤ (x6_1 : Int) := of_decide_eq_true (by first | (with_reducible assumption) | assumption); have q401 : x6_1 < (t393.length : Int) := of_decide_eq_true (by first | (with_reducible assumption) | assumption); obtain ⟨ad401, e401, hx401_0, hx401_1, hx401_2, hx401_3, hx401_4⟩ := at_T59 (Kd.R_reads' HO_4.out).2.2 x6_1 p401 q401; obtain rfl : ad397 = ad401 := (by injection e401); replace p401 := eq_true p401; replace q401 := eq_true q401))
           repeat (go_quiet (first | (go_at_call 78; (with_reducible refine (skiffref1_Good.calls k1 a0 ((rd_T59 t393 x7_1).f1.f0) ((rd_T59 t393 x7_1).f1.f1) ((rd_T59 t393 x7_1).f1.f2) ((rd_T59 t393 x7_1).f1.f3) true t399 _ A8.out).mono ?_); rintro e w19 ⟨rfl, hb⟩; have n0_ := Aside0.mk (Kd.R_below (by (with_reducible repeat (first | apply Kd.R_alloc | apply Kd.R_drewN | apply Kd.R_drew)); exact HO_4.out) hb); have n1_ := Aside0.mk (blk_below (g := gb392) (o := .cells #[.int .i64 0, .int .i64 0, .int .i64 0, .int .i64 0, .int .i64 0] 59 (0, 0)) (by (with_reducible repeat (first | refine blk_drewN ?_ _ | refine blk_drew ?_ | refine blk_alloc ?_ _)); exact BK392.out) hb); have n2_ := Aside0.mk (below_step (by repeat (first | (with_reducible first | exact HB.out | apply below_alloc | apply pw_below_drewN | apply below_drew1 | refine below_set ?_ GE392.out) | exact HB.out)) hb); clear HO_4; clear BK392; clear HB; have HO_4 := n0_; have BK392 := n1_; have HB := n2_; clear n0_ n1_ n2_; (try clear hb); (try clear hb2); (try clear hk); (try clear hi); have p400 : 0 ≤ (x7_1 : Int) := of_decide_eq_true (by first | (with_reducible assumption) | assumption); have q400 : x7_1 < (t393.length : Int) := of_decide_eq_true (by first | (with_reducible assumption) | assumption); obtain ⟨ad400, e400, hx400_0, hx400_1, hx400_2, hx400_3, hx400_4⟩ := at_T59 (Kd.R_reads' HO_4.out).2.2 x7_1 p400 q400; obtain rfl : ad397 = ad400 := (by injection e400); replace p400 := eq_true p400; replace q400 := eq_true q400; have p401 : 0 ≤ (x6_1 : Int) := of_decide_eq_true (by first | (with_reducible assumption) | assumption); have q401 : x6_1 < (t393.length : Int) := of_decide_eq_true (by first | (with_reducible assumption) | assumption); obtain ⟨ad401, e401, hx401_0, hx401_1, hx401_2, hx401_3, hx401_4⟩ := at_T59 (Kd.R_reads' HO_4.out).2.2 x6_1 p401 q401; obtain rfl : ad397 = ad401 := (by injection e401); replace p401 := eq_true p401; replace q401 := eq_true q401)); try go_wp2_with (first | (go_at_call 78; (with_reducible refine (skiffref1_Good.calls k1 a0 ((rd_T59 t393 x7_1).f1.f0) ((rd_T59 t393 x7_1).f1.f1) ((rd_T59 t393 x7_1).f1.f2) ((rd_T59 t393 x7_1).f1.f3) true t399 _ A8.out).mono ?_); rintro e w19 ⟨rfl, hb⟩; have n0_ := Aside0.mk (Kd.R_below (by (with_reducible repeat (first | apply Kd.R_alloc | apply Kd.R_drewN | apply Kd.R_drew)); exact HO_4.out) hb); have n1_ := Aside0.mk (blk_below (g := gb392) (o := .cells #[.int .i64 0, .int .i64 0, .int .i64 0, .int .i64 0, .int .i64 0] 59 (0, 0)) (by (with_reducible repeat (first | refine blk_drewN ?_ _ | refine blk_drew ?_ | refine blk_alloc ?_ _)); exact BK392.out) hb); have n2_ := Aside0.mk (below_step (by repeat (first | (with_reducible first | exact HB.out | apply below_alloc | apply pw_below_drewN | apply below_drew1 | refine below_set ?_ GE392.out) | exact HB.out)) hb); clear HO_4; clear BK392; clear HB; have HO_4 := n0_; have BK392 := n1_; have HB := n2_; clear n0_ n1_ n2_; (try clear hb); (try clear hb2); (try clear hk); (try clear hi); have p400 : 0 ≤ (x7_1 : Int) := of_decide_eq_true (by first | (with_reducible assumption) | assumption); have q400 : x7_1 < (t393.length : Int) := of_decide_eq_true (by first | (with_reducible assumption) | assumption); obtain ⟨ad400, e400, hx400_0, hx400_1, hx400_2, hx400_3, hx400_4⟩ := at_T59 (Kd.R_reads' HO_4.out).2.2 x7_1 p400 q400; obtain rfl : ad397 = ad400 := (by injection e400); replace p400 := eq_true p400; replace q400 := eq_true q400; have p401 : 0 ≤ (x6_1 : Int) := of_decide_eq_true (by first | (with_reducible assumption) | assumption); have q401 : x6_1 < (t393.length : Int) := of_decide_eq_true (by first | (with_reducible assumption) | assumption); obtain ⟨ad401, e401, hx401_0, hx401_1, hx401_2, hx401_3, hx401_4⟩ := at_T59 (Kd.R_reads' HO_4.out).2.2 x6_1 p401 q401; obtain rfl : ad397 = ad401 := (by injection e401); replace p401 := eq_true p401; replace q401 := eq_true q401)))
           go_roundg k1
           case measure => have := HK1.out; omega
           case rel => exact ⟨(x6_1), (wrap64 (x7_1 + 1)), (by first | rfl | (simp; done) | (simp [*]; done)), (by first | rfl | (simp; done) | (simp [*]; done)), H', ⟨by have := HK1.out; omega⟩, ⟨by (with_reducible repeat (first | apply Kd.R_alloc | apply Kd.R_drewN | apply Kd.R_drew)); exact HO_4.out⟩, ⟨by (with_reducible repeat (first | refine blk_drewN ?_ _ | refine blk_drew ?_ | refine blk_alloc ?_ _)); exact BK392.out⟩, ⟨by repeat (first | (with_reducible first | exact HB.out | apply below_alloc | apply pw_below_drewN | apply below_drew1 | refine below_set ?_ GE392.out) | exact HB.out)⟩⟩
         ·rw [if_neg c14] at H
          exact absurd H (by simp)
        ·rw [if_neg c13] at H
         exact absurd H (by simp)
      ·replace c9 := Bool.eq_false_iff.mpr c9
       subst c9
       have H1 : (skiffref1_Active.l0 k1 a0 t393 x6_1 (wrap64 (x7_1 + 1))) = some (r1, r2, r3, r4, r5, r6) := by rw [if_neg (show ¬ (false = true) by decide)] at H; exact H
       clear H
       have H := H1
       clear H1
       have H' := Aside0.mk H
       clear H
       obtain ⟨Ao20, co20, eo20⟩ := Kd.R_slice HO_4.out
       subst eo20
       have p397 : 0 ≤ (x7_1 : Int) := of_decide_eq_true (by first | (with_reducible assumption) | assumption)
       have q397 : x7_1 < (t393.length : Int) := of_decide_eq_true (by first | (with_reducible assumption) | assumption)
       obtain ⟨ad397, e397, hx397_0, hx397_1, hx397_2, hx397_3, hx397_4⟩ := at_T59 (Kd.R_reads' HO_4.out).2.2 x7_1 p397 q397
       cases e397
       replace p397 := eq_true p397
       replace q397 := eq_true q397
       go_wp2_with (first | (go_at_call 78; (with_reducible refine (skiffref1_Good.calls k1 a0 ((rd_T59 t393 x7_1).f1.f0) ((rd_T59 t393 x7_1).f1.f1) ((rd_T59 t393 x7_1).f1.f2) ((rd_T59 t393 x7_1).f1.f3) false t399 _ A8.out).mono ?_); rintro e w21 ⟨rfl, hb⟩; have n0_ := Aside0.mk (Kd.R_below (by (with_reducible repeat (first | apply Kd.R_alloc | apply Kd.R_drewN | apply Kd.R_drew)); exact HO_4.out) hb); have n1_ := Aside0.mk (blk_below (g := gb392) (o := .cells #[.int .i64 0, .int .i64 0, .int .i64 0, .int .i64 0, .int .i64 0] 59 (0, 0)) (by (with_reducible repeat (first | refine blk_drewN ?_ _ | refine blk_drew ?_ | refine blk_alloc ?_ _)); exact BK392.out) hb); have n2_ := Aside0.mk (below_step (by repeat (first | (with_reducible first | exact HB.out | apply below_alloc | apply pw_below_drewN | apply below_drew1 | refine below_set ?_ GE392.out) | exact HB.out)) hb); clear HO_4; clear BK392; clear HB; have HO_4 := n0_; have BK392 := n1_; have HB := n2_; clear n0_ n1_ n2_; (try clear hb); (try clear hb2); (try clear hk); (try clear hi)))
       repeat (go_quiet (first | (go_at_call 78; (with_reducible refine (skiffref1_Good.calls k1 a0 ((rd_T59 t393 x7_1).f1.f0) ((rd_T59 t393 x7_1).f1.f1) ((rd_T59 t393 x7_1).f1.f2) ((rd_T59 t393 x7_1).f1.f3) false t399 _ A8.out).mono ?_); rintro e w21 ⟨rfl, hb⟩; have n0_ := Aside0.mk (Kd.R_below (by (with_reducible repeat (first | apply Kd.R_alloc | apply Kd.R_drewN | apply Kd.R_drew)); exact HO_4.out) hb); have n1_ := Aside0.mk (blk_below (g := gb392) (o := .cells #[.int .i64 0, .int .i64 0, .int .i64 0, .int .i64 0, .int .i64 0] 59 (0, 0)) (by (with_reducible repeat (first | refine blk_drewN ?_ _ | refine blk_drew ?_ | refine blk_alloc ?_ _)); exact BK392.out) hb); have n2_ := Aside0.mk (below_step (by repeat (first | (with_reducible first | exact HB.out | apply below_alloc | apply pw_below_drewN | apply below_drew1 | refine below_set ?_ GE392.out) | exact HB.out)) hb); clear HO_4; clear BK392; clear HB; have HO_4 := n0_; have BK392 := n1_; have HB := n2_; clear n0_ n1_ n2_; (try clear hb); (try clear hb2); (try clear hk); (try clear hi))); try go_wp2_with (first | (go_at_call 78; (with_reducible refine (skiffref1_Good.calls k1 a0 ((rd_T59 t393 x7_1).f1.f0) ((rd_T59 t393 x7_1).f1.f1) ((rd_T59 t393 x7_1).f1.f2) ((rd_T59 t393 x7_1).f1.f3) false t399 _ A8.out).mono ?_); rintro e w21 ⟨rfl, hb⟩; have n0_ := Aside0.mk (Kd.R_below (by (with_reducible repeat (first | apply Kd.R_alloc | apply Kd.R_drewN | apply Kd.R_drew)); exact HO_4.out) hb); have n1_ := Aside0.mk (blk_below (g := gb392) (o := .cells #[.int .i64 0, .int .i64 0, .int .i64 0, .int .i64 0, .int .i64 0] 59 (0, 0)) (by (with_reducible repeat (first | refine blk_drewN ?_ _ | refine blk_drew ?_ | refine blk_alloc ?_ _)); exact BK392.out) hb); have n2_ := Aside0.mk (below_step (by repeat (first | (with_reducible first | exact HB.out | apply below_alloc | apply pw_below_drewN | apply below_drew1 | refine below_set ?_ GE392.out) | exact HB.out)) hb); clear HO_4; clear BK392; clear HB; have HO_4 := n0_; have BK392 := n1_; have HB := n2_; clear n0_ n1_ n2_; (try clear hb); (try clear hb2); (try clear hk); (try clear hi))))
       go_roundg k1
       case measure => have := HK1.out; omega
       case rel => exact ⟨(x6_1), (wrap64 (x7_1 + 1)), (by first | rfl | (simp; done) | (simp [*]; done)), (by first | rfl | (simp; done) | (simp [*]; done)), H', ⟨by have := HK1.out; omega⟩, ⟨by (with_reducible repeat (first | apply Kd.R_alloc | apply Kd.R_drewN | apply Kd.R_drew)); exact HO_4.out⟩, ⟨by (with_reducible repeat (first | refine blk_drewN ?_ _ | refine blk_drew ?_ | refine blk_alloc ?_ _)); exact BK392.out⟩, ⟨by repeat (first | (with_reducible first | exact HB.out | apply below_alloc | apply pw_below_drewN | apply below_drew1 | refine below_set ?_ GE392.out) | exact HB.out)⟩⟩
     ·rw [if_neg c7] at H
      exact absurd H (by simp)
    ·rw [if_neg c6] at H
     have c6b0 : decide (x7_1 < (t393.length : Int)) = false := decide_eq_false c6
     clear c6
     by_cases c22 : x6_1 < 0
     ·rw [if_pos c22] at H
      have c22b0 : decide (x6_1 < 0) = true := decide_eq_true c22
      clear c22
      simp only [Option.some.injEq, Prod.mk.injEq] at H
      obtain ⟨rfl, rfl, rfl, rfl, rfl, rfl⟩ := H
      obtain ⟨Ao23, co23, eo23⟩ := Kd.R_slice HO_4.out
      subst eo23
      have hcz24_0 : wr.cell? ⟨gb392, 0, none⟩ = some (.int .i64 0) := (blk_cell BK392.out 0).trans rfl
      have hcz24_1 : wr.cell? ⟨gb392, 1, none⟩ = some (.int .i64 0) := (blk_cell BK392.out 1).trans rfl
      have hcz24_2 : wr.cell? ⟨gb392, 2, none⟩ = some (.int .i64 0) := (blk_cell BK392.out 2).trans rfl
      have hcz24_3 : wr.cell? ⟨gb392, 3, none⟩ = some (.int .i64 0) := (blk_cell BK392.out 3).trans rfl
      have hcz24_4 : wr.cell? ⟨gb392, 4, none⟩ = some (.int .i64 0) := (blk_cell BK392.out 4).trans rfl
      have hfz24_0 := blk_frozen BK392.out 0
      have hfz24_1 := blk_frozen BK392.out 1
      have hfz24_2 := blk_frozen BK392.out 2
      have hfz24_3 := blk_frozen BK392.out 3
      have hfz24_4 := blk_frozen BK392.out 4
      go_wp2
      repeat (go_quiet (fail); try go_wp2)
      refine bodyPost_ret (results_ct rfl _ _ gb392 59 #[.int .i64 0, .int .i64 0, .int .i64 0, .int .i64 0, .int .i64 0] (0, 0) _ rfl (by (with_reducible repeat (first | refine blk_drewN ?_ _ | refine blk_drew ?_ | refine blk_alloc ?_ _)); refine blk_put (cs := #[.int .i64 0, .int .i64 0, .int .i64 0, .int .i64 0, .int .i64 0]) ?_ 4 _ rfl; (with_reducible repeat (first | refine blk_drewN ?_ _ | refine blk_drew ?_ | refine blk_alloc ?_ _)); refine blk_put (cs := #[.int .i64 0, .int .i64 0, .int .i64 0, .int .i64 0, .int .i64 0]) ?_ 3 _ rfl; (with_reducible repeat (first | refine blk_drewN ?_ _ | refine blk_drew ?_ | refine blk_alloc ?_ _)); refine blk_put (cs := #[.int .i64 0, .int .i64 0, .int .i64 0, .int .i64 0, .int .i64 0]) ?_ 2 _ rfl; (with_reducible repeat (first | refine blk_drewN ?_ _ | refine blk_drew ?_ | refine blk_alloc ?_ _)); refine blk_put (cs := #[.int .i64 0, .int .i64 0, .int .i64 0, .int .i64 0, .int .i64 0]) ?_ 1 _ rfl; (with_reducible repeat (first | refine blk_drewN ?_ _ | refine blk_drew ?_ | refine blk_alloc ?_ _)); refine blk_put (cs := #[.int .i64 0, .int .i64 0, .int .i64 0, .int .i64 0, .int .i64 0]) ?_ 0 _ rfl; (with_reducible repeat (first | refine blk_drewN ?_ _ | refine blk_drew ?_ | refine blk_alloc ?_ _)); exact BK392.out) Try.underlying59 rfl (by kernel_rfl)) rfl ?_
      exact ⟨by first | rfl | (simp [errW_none, errW_some] <;> rfl) | (simp [*, errW_none, errW_some] <;> rfl), by repeat (first | (with_reducible first | exact HB.out | apply below_alloc | apply pw_below_drewN | apply below_drew1 | refine below_set ?_ GE392.out) | exact HB.out)⟩
     ·rw [if_neg c22] at H
      have c22b0 : decide (x6_1 < 0) = false := decide_eq_false c22
      clear c22
      by_cases c25 : 0 ≤ x6_1
      ·rw [if_pos c25] at H
       have c25b0 : decide (0 ≤ x6_1) = true := decide_eq_true c25
       clear c25
       by_cases c26 : x6_1 < (t393.length : Int)
       ·rw [if_pos c26] at H
        have c26b0 : decide (x6_1 < (t393.length : Int)) = true := decide_eq_true c26
        clear c26
        simp only [Option.some.injEq, Prod.mk.injEq] at H
        obtain ⟨rfl, rfl, rfl, rfl, rfl, rfl⟩ := H
        obtain ⟨Ao27, co27, eo27⟩ := Kd.R_slice HO_4.out
        subst eo27
        have p402 : 0 ≤ (x6_1 : Int) := of_decide_eq_true (by first | (with_reducible assumption) | assumption)
        have q402 : x6_1 < (t393.length : Int) := of_decide_eq_true (by first | (with_reducible assumption) | assumption)
        obtain ⟨ad402, e402, hx402_0, hx402_1, hx402_2, hx402_3, hx402_4⟩ := at_T59 (Kd.R_reads' HO_4.out).2.2 x6_1 p402 q402
        cases e402
        replace p402 := eq_true p402
        replace q402 := eq_true q402
        have hcz28_0 : wr.cell? ⟨gb392, 0, none⟩ = some (.int .i64 0) := (blk_cell BK392.out 0).trans rfl
        have hcz28_1 : wr.cell? ⟨gb392, 1, none⟩ = some (.int .i64 0) := (blk_cell BK392.out 1).trans rfl
        have hcz28_2 : wr.cell? ⟨gb392, 2, none⟩ = some (.int .i64 0) := (blk_cell BK392.out 2).trans rfl
        have hcz28_3 : wr.cell? ⟨gb392, 3, none⟩ = some (.int .i64 0) := (blk_cell BK392.out 3).trans rfl
        have hcz28_4 : wr.cell? ⟨gb392, 4, none⟩ = some (.int .i64 0) := (blk_cell BK392.out 4).trans rfl
        have hfz28_0 := blk_frozen BK392.out 0
        have hfz28_1 := blk_frozen BK392.out 1
        have hfz28_2 := blk_frozen BK392.out 2
        have hfz28_3 := blk_frozen BK392.out 3
        have hfz28_4 := blk_frozen BK392.out 4
        go_wp2
        repeat (go_quiet (fail); try go_wp2)
        refine bodyPost_ret (results_ct rfl _ _ gb392 59 #[.int .i64 ((rd_T59 t393 x6_1).f0), .int .i64 ((rd_T59 t393 x6_1).f1.f0), .int .i64 ((rd_T59 t393 x6_1).f1.f1), .int .i64 ((rd_T59 t393 x6_1).f1.f2), .int .i64 ((rd_T59 t393 x6_1).f1.f3)] (0, 0) _ rfl (by (with_reducible repeat (first | refine blk_drewN ?_ _ | refine blk_drew ?_ | refine blk_alloc ?_ _)); refine blk_put (cs := #[.int .i64 ((rd_T59 t393 x6_1).f0), .int .i64 ((rd_T59 t393 x6_1).f1.f0), .int .i64 ((rd_T59 t393 x6_1).f1.f1), .int .i64 ((rd_T59 t393 x6_1).f1.f2), .int .i64 0]) ?_ 4 _ rfl; (with_reducible repeat (first | refine blk_drewN ?_ _ | refine blk_drew ?_ | refine blk_alloc ?_ _)); refine blk_put (cs := #[.int .i64 ((rd_T59 t393 x6_1).f0), .int .i64 ((rd_T59 t393 x6_1).f1.f0), .int .i64 ((rd_T59 t393 x6_1).f1.f1), .int .i64 0, .int .i64 0]) ?_ 3 _ rfl; (with_reducible repeat (first | refine blk_drewN ?_ _ | refine blk_drew ?_ | refine blk_alloc ?_ _)); refine blk_put (cs := #[.int .i64 ((rd_T59 t393 x6_1).f0), .int .i64 ((rd_T59 t393 x6_1).f1.f0), .int .i64 0, .int .i64 0, .int .i64 0]) ?_ 2 _ rfl; (with_reducible repeat (first | refine blk_drewN ?_ _ | refine blk_drew ?_ | refine blk_alloc ?_ _)); refine blk_put (cs := #[.int .i64 ((rd_T59 t393 x6_1).f0), .int .i64 0, .int .i64 0, .int .i64 0, .int .i64 0]) ?_ 1 _ rfl; (with_reducible repeat (first | refine blk_drewN ?_ _ | refine blk_drew ?_ | refine blk_alloc ?_ _)); refine blk_put (cs := #[.int .i64 0, .int .i64 0, .int .i64 0, .int .i64 0, .int .i64 0]) ?_ 0 _ rfl; (with_reducible repeat (first | refine blk_drewN ?_ _ | refine blk_drew ?_ | refine blk_alloc ?_ _)); exact BK392.out) Try.underlying59 rfl (by kernel_rfl)) rfl ?_
        exact ⟨by first | rfl | (simp [errW_none, errW_some] <;> rfl) | (simp [*, errW_none, errW_some] <;> rfl), by repeat (first | (with_reducible first | exact HB.out | apply below_alloc | apply pw_below_drewN | apply below_drew1 | refine below_set ?_ GE392.out) | exact HB.out)⟩
       ·rw [if_neg c26] at H
        exact absurd H (by simp)
      ·rw [if_neg c25] at H
       exact absurd H (by simp)
 ·rw [if_neg c3] at H
  have c3b0 : (t394 == 0) = false := beq_eq_false_iff_ne.mpr c3
  have c3b1 : (t394 != 0) = true := bne_iff_ne.mpr c3
  simp only [Option.some.injEq, Prod.mk.injEq] at H
  obtain ⟨rfl, rfl, rfl, rfl, rfl, rfl⟩ := H
  go_enter Try.func64, Try.ntmps64
  go_wp2_with (first | ((with_reducible refine gate_dst (N := 2) rfl ?_); refine box_event ?hg (N := 2) ?hd (cs := #[.int .i64 0, .int .i64 0, .int .i64 0, .int .i64 0, .int .i64 0]) (t := 59) ?hr ?_; (case hd => rfl); (case hg => rfl); (case hr => first | (go_simp; done) | (go_simp; rfl)); intro gb392 hg w29 hbox hb; have n0_ := Aside0.mk (below_step (by repeat (first | (with_reducible first | exact HB.out | apply below_alloc | apply pw_below_drewN | apply below_drew1) | exact HB.out)) hb); have n1_ := Aside0.mk (hbox); have n2_ := Aside0.mk ((by rw [hg]; exact (below_size (by repeat (first | (with_reducible first | exact HB.out | apply below_alloc | apply pw_below_drewN | apply below_drew1) | exact HB.out))) : w.heap.size ≤ gb392)); have n3_ := Aside0.mk ((by rw [hg]; exact (below_size (by repeat (first | (with_reducible first | exact HB.out | apply below_alloc | apply pw_below_drewN | apply below_drew1) | exact HB.out))) : w.heap.size ≤ gb392)); clear HB; have HB := n0_; have BK392 := n1_; have GW392 := n2_; have GE392 := n3_; clear n0_ n1_ n2_ n3_; clear hb hbox hg) | (go_at_call 77; (with_reducible refine (skiffref1_Scan.calls k a0 t393 t394 _ A2.out).mono ?_); rintro e w30 ⟨v395, rfl, ho0, hb⟩; have n0_ := Aside0.mk (Kd.R_lower (Kd.R_newB ho0 (g := gb392) (o := .cells #[.int .i64 0, .int .i64 0, .int .i64 0, .int .i64 0, .int .i64 0] 59 (0, 0)) (by (with_reducible repeat (first | refine blk_drewN ?_ _ | refine blk_drew ?_ | refine blk_alloc ?_ _)); exact BK392.out)) (below_size (by repeat (first | (with_reducible first | exact HB.out | apply below_alloc | apply pw_below_drewN | apply below_drew1 | refine below_set ?_ GE392.out) | exact HB.out)))); have n1_ := Aside0.mk (blk_below (g := gb392) (o := .cells #[.int .i64 0, .int .i64 0, .int .i64 0, .int .i64 0, .int .i64 0] 59 (0, 0)) (by (with_reducible repeat (first | refine blk_drewN ?_ _ | refine blk_drew ?_ | refine blk_alloc ?_ _)); exact BK392.out) hb); have n2_ := Aside0.mk (below_step (by repeat (first | (with_reducible first | exact HB.out | apply below_alloc | apply pw_below_drewN | apply below_drew1 | refine below_set ?_ GE392.out) | exact HB.out)) hb); clear BK392; clear HB; have HO396 := n0_; have BK392 := n1_; have HB := n2_; clear n0_ n1_ n2_; (try clear hb); (try clear hb2); (try clear hk); (try clear hi); (try clear ho0); have hcz31_0 : w30.cell? ⟨gb392, 0, none⟩ = some (.int .i64 0) := (blk_cell BK392.out 0).trans rfl; have hcz31_1 : w30.cell? ⟨gb392, 1, none⟩ = some (.int .i64 0) := (blk_cell BK392.out 1).trans rfl; have hcz31_2 : w30.cell? ⟨gb392, 2, none⟩ = some (.int .i64 0) := (blk_cell BK392.out 2).trans rfl; have hcz31_3 : w30.cell? ⟨gb392, 3, none⟩ = some (.int .i64 0) := (blk_cell BK392.out 3).trans rfl; have hcz31_4 : w30.cell? ⟨gb392, 4, none⟩ = some (.int .i64 0) := (blk_cell BK392.out 4).trans rfl; have hfz31_0 := blk_frozen BK392.out 0; have hfz31_1 := blk_frozen BK392.out 1; have hfz31_2 := blk_frozen BK392.out 2; have hfz31_3 := blk_frozen BK392.out 3; have hfz31_4 := blk_frozen BK392.out 4))
  repeat (go_quiet (first | ((with_reducible refine gate_dst (N := 2) rfl ?_); refine box_event ?hg (N := 2) ?hd (cs := #[.int .i64 0, .int .i64 0, .int .i64 0, .int .i64 0, .int .i64 0]) (t := 59) ?hr ?_; (case hd => rfl); (case hg => rfl); (case hr => first | (go_simp; done) | (go_simp; rfl)); intro gb392 hg w29 hbox hb; have n0_ := Aside0.mk (below_step (by repeat (first | (with_reducible first | exact HB.out | apply below_alloc | apply pw_below_drewN | apply below_drew1) | exact HB.out)) hb); have n1_ := Aside0.mk (hbox); have n2_ := Aside0.mk ((by rw [hg]; exact (below_size (by repeat (first | (with_reducible first | exact HB.out | apply below_alloc | apply pw_below_drewN | apply below_drew1) | exact HB.out))) : w.heap.size ≤ gb392)); have n3_ := Aside0.mk ((by rw [hg]; exact (below_size (by repeat (first | (with_reducible first | exact HB.out | apply below_alloc | apply pw_below_drewN | apply below_drew1) | exact HB.out))) : w.heap.size ≤ gb392)); clear HB; have HB := n0_; have BK392 := n1_; have GW392 := n2_; have GE392 := n3_; clear n0_ n1_ n2_ n3_; clear hb hbox hg) | (go_at_call 77; (with_reducible refine (skiffref1_Scan.calls k a0 t393 t394 _ A2.out).mono ?_); rintro e w30 ⟨v395, rfl, ho0, hb⟩; have n0_ := Aside0.mk (Kd.R_lower (Kd.R_newB ho0 (g := gb392) (o := .cells #[.int .i64 0, .int .i64 0, .int .i64 0, .int .i64 0, .int .i64 0] 59 (0, 0)) (by (with_reducible repeat (first | refine blk_drewN ?_ _ | refine blk_drew ?_ | refine blk_alloc ?_ _)); exact BK392.out)) (below_size (by repeat (first | (with_reducible first | exact HB.out | apply below_alloc | apply pw_below_drewN | apply below_drew1 | refine below_set ?_ GE392.out) | exact HB.out)))); have n1_ := Aside0.mk (blk_below (g := gb392) (o := .cells #[.int .i64 0, .int .i64 0, .int .i64 0, .int .i64 0, .int .i64 0] 59 (0, 0)) (by (with_reducible repeat (first | refine blk_drewN ?_ _ | refine blk_drew ?_ | refine blk_alloc ?_ _)); exact BK392.out) hb); have n2_ := Aside0.mk (below_step (by repeat (first | (with_reducible first | exact HB.out | apply below_alloc | apply pw_below_drewN | apply below_drew1 | refine below_set ?_ GE392.out) | exact HB.out)) hb); clear BK392; clear HB; have HO396 := n0_; have BK392 := n1_; have HB := n2_; clear n0_ n1_ n2_; (try clear hb); (try clear hb2); (try clear hk); (try clear hi); (try clear ho0); have hcz31_0 : w30.cell? ⟨gb392, 0, none⟩ = some (.int .i64 0) := (blk_cell BK392.out 0).trans rfl; have hcz31_1 : w30.cell? ⟨gb392, 1, none⟩ = some (.int .i64 0) := (blk_cell BK392.out 1).trans rfl; have hcz31_2 : w30.cell? ⟨gb392, 2, none⟩ = some (.int .i64 0) := (blk_cell BK392.out 2).trans rfl; have hcz31_3 : w30.cell? ⟨gb392, 3, none⟩ = some (.int .i64 0) := (blk_cell BK392.out 3).trans rfl; have hcz31_4 : w30.cell? ⟨gb392, 4, none⟩ = some (.int .i64 0) := (blk_cell BK392.out 4).trans rfl; have hfz31_0 := blk_frozen BK392.out 0; have hfz31_1 := blk_frozen BK392.out 1; have hfz31_2 := blk_frozen BK392.out 2; have hfz31_3 := blk_frozen BK392.out 3; have hfz31_4 := blk_frozen BK392.out 4)); try go_wp2_with (first | ((with_reducible refine gate_dst (N := 2) rfl ?_); refine box_event ?hg (N := 2) ?hd (cs := #[.int .i64 0, .int .i64 0, .int .i64 0, .int .i64 0, .int .i64 0]) (t := 59) ?hr ?_; (case hd => rfl); (case hg => rfl); (case hr => first | (go_simp; done) | (go_simp; rfl)); intro gb392 hg w29 hbox hb; have n0_ := Aside0.mk (below_step (by repeat (first | (with_reducible first | exact HB.out | apply below_alloc | apply pw_below_drewN | apply below_drew1) | exact HB.out)) hb); have n1_ := Aside0.mk (hbox); have n2_ := Aside0.mk ((by rw [hg]; exact (below_size (by repeat (first | (with_reducible first | exact HB.out | apply below_alloc | apply pw_below_drewN | apply below_drew1) | exact HB.out))) : w.heap.size ≤ gb392)); have n3_ := Aside0.mk ((by rw [hg]; exact (below_size (by repeat (first | (with_reducible first | exact HB.out | apply below_alloc | apply pw_below_drewN | apply below_drew1) | exact HB.out))) : w.heap.size ≤ gb392)); clear HB; have HB := n0_; have BK392 := n1_; have GW392 := n2_; have GE392 := n3_; clear n0_ n1_ n2_ n3_; clear hb hbox hg) | (go_at_call 77; (with_reducible refine (skiffref1_Scan.calls k a0 t393 t394 _ A2.out).mono ?_); rintro e w30 ⟨v395, rfl, ho0, hb⟩; have n0_ := Aside0.mk (Kd.R_lower (Kd.R_newB ho0 (g := gb392) (o := .cells #[.int .i64 0, .int .i64 0, .int .i64 0, .int .i64 0, .int .i64 0] 59 (0, 0)) (by (with_reducible repeat (first | refine blk_drewN ?_ _ | refine blk_drew ?_ | refine blk_alloc ?_ _)); exact BK392.out)) (below_size (by repeat (first | (with_reducible first | exact HB.out | apply below_alloc | apply pw_below_drewN | apply below_drew1 | refine below_set ?_ GE392.out) | exact HB.out)))); have n1_ := Aside0.mk (blk_below (g := gb392) (o := .cells #[.int .i64 0, .int .i64 0, .int .i64 0, .int .i64 0, .int .i64 0] 59 (0, 0)) (by (with_reducible repeat (first | refine blk_drewN ?_ _ | refine blk_drew ?_ | refine blk_alloc ?_ _)); exact BK392.out) hb); have n2_ := Aside0.mk (below_step (by repeat (first | (with_reducible first | exact HB.out | apply below_alloc | apply pw_below_drewN | apply below_drew1 | refine below_set ?_ GE392.out) | exact HB.out)) hb); clear BK392; clear HB; have HO396 := n0_; have BK392 := n1_; have HB := n2_; clear n0_ n1_ n2_; (try clear hb); (try clear hb2); (try clear hk); (try clear hi); (try clear ho0); have hcz31_0 : w30.cell? ⟨gb392, 0, none⟩ = some (.int .i64 0) := (blk_cell BK392.out 0).trans rfl; have hcz31_1 : w30.cell? ⟨gb392, 1, none⟩ = some (.int .i64 0) := (blk_cell BK392.out 1).trans rfl; have hcz31_2 : w30.cell? ⟨gb392, 2, none⟩ = some (.int .i64 0) := (blk_cell BK392.out 2).trans rfl; have hcz31_3 : w30.cell? ⟨gb392, 3, none⟩ = some (.int .i64 0) := (blk_cell BK392.out 3).trans rfl; have hcz31_4 : w30.cell? ⟨gb392, 4, none⟩ = some (.int .i64 0) := (blk_cell BK392.out 4).trans rfl; have hfz31_0 := blk_frozen BK392.out 0; have hfz31_1 := blk_frozen BK392.out 1; have hfz31_2 := blk_frozen BK392.out 2; have hfz31_3 := blk_frozen BK392.out 3; have hfz31_4 := blk_frozen BK392.out 4)))
  refine bodyPost_ret (results_ct rfl _ _ gb392 59 #[.int .i64 0, .int .i64 0, .int .i64 0, .int .i64 0, .int .i64 0] (0, 0) _ rfl (by (with_reducible repeat (first | refine blk_drewN ?_ _ | refine blk_drew ?_ | refine blk_alloc ?_ _)); refine blk_put (cs := #[.int .i64 0, .int .i64 0, .int .i64 0, .int .i64 0, .int .i64 0]) ?_ 4 _ rfl; (with_reducible repeat (first | refine blk_drewN ?_ _ | refine blk_drew ?_ | refine blk_alloc ?_ _)); refine blk_put (cs := #[.int .i64 0, .int .i64 0, .int .i64 0, .int .i64 0, .int .i64 0]) ?_ 3 _ rfl; (with_reducible repeat (first | refine blk_drewN ?_ _ | refine blk_drew ?_ | refine blk_alloc ?_ _)); refine blk_put (cs := #[.int .i64 0, .int .i64 0, .int .i64 0, .int .i64 0, .int .i64 0]) ?_ 2 _ rfl; (with_reducible repeat (first | refine blk_drewN ?_ _ | refine blk_drew ?_ | refine blk_alloc ?_ _)); refine blk_put (cs := #[.int .i64 0, .int .i64 0, .int .i64 0, .int .i64 0, .int .i64 0]) ?_ 1 _ rfl; (with_reducible repeat (first | refine blk_drewN ?_ _ | refine blk_drew ?_ | refine blk_alloc ?_ _)); refine blk_put (cs := #[.int .i64 0, .int .i64 0, .int .i64 0, .int .i64 0, .int .i64 0]) ?_ 0 _ rfl; (with_reducible repeat (first | refine blk_drewN ?_ _ | refine blk_drew ?_ | refine blk_alloc ?_ _)); exact BK392.out) Try.underlying59 rfl (by kernel_rfl)) rfl ?_
  exact ⟨by first | rfl | (simp [errW_none, errW_some] <;> rfl) | (simp [*, errW_none, errW_some] <;> rfl), by repeat (first | (with_reducible first | exact HB.out | apply below_alloc | apply pw_below_drewN | apply below_drew1 | refine below_set ?_ GE392.out) | exact HB.out)⟩
mutual
def skiffref1_FreePlace.j0 : Nat → ByteArray → Int → Bool → Option (Int × Bool × Int)
 | 0, _, _, _ => none
 | k + 1, x0, x1, x15 => if x15 = true then (some (0, false, 500)) else (skiffref1_FreePlace.l0 k x0 x1 (wrap64 (x1 * 96)))
def skiffref1_FreePlace.l0 : Nat → ByteArray → Int → Int → Option (Int × Bool × Int)
 | 0, _, _, _ => none
 | k + 1, x0, x1, x7 => if (wrap64 (x7 + 24)) ≤ (wrap64 ((wrap64 (x1 + 1)) * 96)) then (if 0 ≤ x7 then (if x7 ≤ (wrap64 (x7 + 24)) then (if (wrap64 (x7 + 24)) ≤ (x0.size : Int) then ((skiffref1_full.f k 24).bind fun t405 => (if (x0.extract (x7 : Int).toNat ((wrap64 (x7 + 24)) : Int).toNat).toList = t405.toList then (some (x7, true, 0)) else (skiffref1_FreePlace.l0 k x0 x1 (wrap64 (x7 + 24))))) else (none)) else (none)) else (none)) else (some (0, false, 0))
end
def skiffref1_FreePlace.f (k : Nat) (a0 : ByteArray) (a1 : Int) : Option (Int × Bool × Int) := (skiffref1_FlashMay.f a0).bind fun t403 => (if t403 = true then ((PBase.skiffref1_upTo.f a1 0 1).bind fun t404 => (skiffref1_FreePlace.j0 k a0 a1 (!t404))) else (skiffref1_FreePlace.j0 k a0 a1 true))
set_option maxHeartbeats 8000000 in
set_option maxRecDepth 100000 in
theorem skiffref1_FreePlace.calls (k : Nat) (a0 : ByteArray) (a1 : Int) (r1 : Int) (r2 : Bool) (r3 : Int) (w : World) (h : skiffref1_FreePlace.f k a0 a1 = some (r1, r2, r3)) :
  Calls Try.prog 65 #[.string a0, .int .i64 a1] w fun e w' => e = .returned (.tuple #[.int .i64 r1, .bool r2, .int .i64 r3]) ∧ Below w.heap.size w w' := by
 have HB := Aside0.mk (Below.refl w.heap.size w)
 have H : ((skiffref1_FlashMay.f a0).bind fun t403 => (if t403 = true then ((PBase.skiffref1_upTo.f a1 0 1).bind fun t404 => (skiffref1_FreePlace.j0 k a0 a1 (!t404))) else (skiffref1_FreePlace.j0 k a0 a1 true))) = some (r1, r2, r3) := h
 clear h
 have HC3 := Aside0.mk H
 clear H
 go_enter Try.func65, Try.ntmps65
 go_upto_region 1 with (fail)
 go_cut [15] (fun v15 wc => ∃ (kq : Nat) (x15_2 : Bool), v15 = .bool x15_2 ∧ Aside0 (skiffref1_FreePlace.j0 kq a0 a1 x15_2 = some (r1, r2, r3)) ∧ Aside0 (kq ≤ k) ∧ Aside0 (Below w.heap.size w wc))
 case first =>
  have H := HC3.out
  clear HC3
  replace H := Option.bind_eq_some_iff.mp H
  obtain ⟨t403, A40, H⟩ := H
  replace H : (if t403 = true then ((PBase.skiffref1_upTo.f a1 0 1).bind fun t404 => (skiffref1_FreePlace.j0 k a0 a1 (!t404))) else (skiffref1_FreePlace.j0 k a0 a1 true)) = some (r1, r2, r3) := H
  have A4 := Aside0.mk A40
  clear A40
  by_cases c5 : t403 = true
  ·subst c5
   have H1 : ((PBase.skiffref1_upTo.f a1 0 1).bind fun t404 => (skiffref1_FreePlace.j0 k a0 a1 (!t404))) = some (r1, r2, r3) := by rw [if_pos rfl] at H; exact H
   clear H
   have H := H1
   clear H1
   replace H := Option.bind_eq_some_iff.mp H
   obtain ⟨t404, A60, H⟩ := H
   replace H : (skiffref1_FreePlace.j0 k a0 a1 (!t404)) = some (r1, r2, r3) := H
   have A6 := Aside0.mk A60
   clear A60
   have H' := Aside0.mk H
   clear H
   go_wp2_with (first | ((with_reducible refine gate_callee (f := 48) rfl ?_); refine goesL_ (some 9) rfl rfl Try.func48 (by kernel_rfl) rfl #[.string a0] rfl q1_ ?_; (with_reducible refine (skiffref1_FlashMay.calls a0 true _ A4.out).mono ?_); rintro e w' ⟨rfl, ⟨nd, rfl⟩⟩; refine ⟨_, rfl, ?_⟩) | (go_at_call 43; (with_reducible refine (PBase.skiffref1_upTo.calls a1 0 1 t404 _ A6.out).mono ?_); rintro e w' ⟨rfl, ⟨nd, rfl⟩⟩))
   go_meet
   case rel => exact ⟨_, (!t404), (by first | rfl | (simp; done) | (simp [*]; done)), H', ⟨by first | omega | exact Nat.le_refl _⟩, ⟨by repeat (first | (with_reducible first | exact HB.out | apply below_alloc | apply pw_below_drewN | apply below_drew1) | exact HB.out)⟩⟩
  ·replace c5 := Bool.eq_false_iff.mpr c5
   subst c5
   have H1 : (skiffref1_FreePlace.j0 k a0 a1 true) = some (r1, r2, r3) := by rw [if_neg (show ¬ (false = true) by decide)] at H; exact H
   clear H
   have H := H1
   clear H1
   have H' := Aside0.mk H
   clear H
   go_wp2_with (first | ((with_reducible refine gate_callee (f := 48) rfl ?_); refine goesL_ (some 9) rfl rfl Try.func48 (by kernel_rfl) rfl #[.string a0] rfl q1_ ?_; (with_reducible refine (skiffref1_FlashMay.calls a0 false _ A4.out).mono ?_); rintro e w' ⟨rfl, ⟨nd, rfl⟩⟩; refine ⟨_, rfl, ?_⟩))
   go_meet
   case rel => exact ⟨_, (true), (by first | rfl | (simp; done) | (simp [*]; done)), H', ⟨by first | omega | exact Nat.le_refl _⟩, ⟨by repeat (first | (with_reducible first | exact HB.out | apply below_alloc | apply pw_below_drewN | apply below_drew1) | exact HB.out)⟩⟩
 case rest =>
  clear HC3
  try clear p2
  try clear c4
  try clear c5
  try clear c6
  obtain ⟨kq, x15_2, rfl, HA, HJ2, HB⟩ := hcut
  cases kq with
  | zero => exact absurd HA.out (by simp [skiffref1_FreePlace.j0])
  | succ kj2 =>
   have H := HA.out
   clear HA
   simp only [skiffref1_FreePlace.j0] at H
   by_cases c7 : x15_2 = true
   ·subst c7
    have H1 : (some (0, false, 500)) = some (r1, r2, r3) := by rw [if_pos rfl] at H; exact H
    clear H
    have H := H1
    clear H1
    simp only [Option.some.injEq, Prod.mk.injEq] at H
    obtain ⟨rfl, rfl, rfl⟩ := H
    go_wp2
    go_ret3
    exact ⟨by first | rfl | (simp [errW_none, errW_some] <;> rfl) | (simp [*, errW_none, errW_some] <;> rfl), by repeat (first | (with_reducible first | exact HB.out | apply below_alloc | apply pw_below_drewN | apply below_drew1) | exact HB.out)⟩
   ·replace c7 := Bool.eq_false_iff.mpr c7
    subst c7
    have H1 : (skiffref1_FreePlace.l0 kj2 a0 a1 (wrap64 (a1 * 96))) = some (r1, r2, r3) := by rw [if_neg (show ¬ (false = true) by decide)] at H; exact H
    clear H
    have H := H1
    clear H1
    have H' := Aside0.mk H
    clear H
    go_wp2
    go_loopg [7] kj2 (fun kq v7 w' => ∃ (x7_2 : Int), v7 = .int .i64 x7_2 ∧ Aside0 (skiffref1_FreePlace.l0 kq a0 a1 x7_2 = some (r1, r2, r3)) ∧ Aside0 (kq ≤ kj2) ∧ Aside0 (Below w.heap.size w w'))
    case atStart => exact ⟨(wrap64 (a1 * 96)), (by first | rfl | (simp; done) | (simp [*]; done)), H', ⟨Nat.le_refl _⟩, ⟨by repeat (first | (with_reducible first | exact HB.out | apply below_alloc | apply pw_below_drewN | apply below_drew1) | exact HB.out)⟩⟩
    case round =>
     clear H'
     try clear p2
     try clear c4
     try clear c5
     try clear c6
     try clear p6
     try clear c7
     try clear p2
     obtain ⟨x7_2, rfl, HA, HK2, HB⟩ := hrel
     cases gk with
     | zero => exact absurd HA.out (by simp [skiffref1_FreePlace.l0])
     | succ k2 =>
      have H := HA.out
      clear HA
      simp only [skiffref1_FreePlace.l0] at H
      by_cases c8 : (wrap64 (x7_2 + 24)) ≤ (wrap64 ((wrap64 (a1 + 1)) * 96))
      ·rw [if_pos c8] at H
       have c8b0 : decide ((wrap64 (x7_2 + 24)) ≤ (wrap64 ((wrap64 (a1 + 1)) * 96))) = true := decide_eq_true c8
       clear c8
       by_cases c9 : 0 ≤ x7_2
       ·rw [if_pos c9] at H
        have c9b0 := eq_true c9
        have c9b1 : decide (0 ≤ x7_2) = true := decide_eq_true c9
        clear c9
        by_cases c10 : x7_2 ≤ (wrap64 (x7_2 + 24))
        ·rw [if_pos c10] at H
         have c10b0 := eq_true c10
         have c10b1 : decide (x7_2 ≤ (wrap64 (x7_2 + 24))) = true := decide_eq_true c10
         by_cases c11 : (wrap64 (x7_2 + 24)) ≤ (a0.size : Int)
         ·rw [if_pos c11] at H
          have c11b0 := eq_true c11
          have c11b1 : decide ((wrap64 (x7_2 + 24)) ≤ (a0.size : Int)) = true := decide_eq_true c11
          replace H := Option.bind_eq_some_iff.mp H
          obtain ⟨t405, A120, H⟩ := H
          replace H : (if (a0.extract (x7_2 : Int).toNat ((wrap64 (x7_2 + 24)) : Int).toNat).toList = t405.toList then (some (x7_2, true, 0)) else (skiffref1_FreePlace.l0 k2 a0 a1 (wrap64 (x7_2 + 24)))) = some (r1, r2, r3) := H
          have A12 := Aside0.mk A120
          clear A120
          by_cases c13 : (a0.extract (x7_2 : Int).toNat ((wrap64 (x7_2 + 24)) : Int).toNat).toList = t405.toList
          ·rw [if_pos c13] at H
           have c13b0 : ((a0.extract (x7_2 : Int).toNat ((wrap64 (x7_2 + 24)) : Int).toNat).toList == t405.toList) = true := beq_iff_eq.mpr c13
           have c13b1 : ((a0.extract (x7_2 : Int).toNat ((wrap64 (x7_2 + 24)) : Int).toNat).toList != t405.toList) = false := bne_eq_false_iff_eq.mpr c13
           clear c13
           simp only [Option.some.injEq, Prod.mk.injEq] at H
           obtain ⟨rfl, rfl, rfl⟩ := H
           try go_wp2
           have n0_ := Aside0.mk (below_drew1 HB.out)
           clear HB
           have HB := n0_
           clear n0_
           refine start_ (n := 7) (S := fun w' => True) (ds := []) #[false, false, false, false, false, false, false] (by kernel_rfl) rfl rfl trivial (fun hHeld => ?_)
           generalize wr.drew = w14 at HB hHeld ⊢
           refine pure_ (i := 0) (N := some 26) (v := ?_) (a' := ?_) #[true, false, false, false, false, false, false] rfl rfl (by kernel_rfl) (fun _ _ _ h => h) (Or.inl ⟨by rfl, ?_⟩) ?_ ?_
           rotate_left
           ·intro w'
            go_simp
            with_reducible rfl
           rotate_left
           ·simp only [Act.put, List.setIfInBounds_toArray, List.set_cons_zero, List.set_cons_succ, i64_w, i32_w]
            rfl
           refine pure_ (i := 1) (N := some 27) (v := ?_) (a' := ?_) #[true, true, false, false, false, false, false] rfl rfl (by kernel_rfl) (fun _ _ _ h => h) (Or.inl ⟨by rfl, ?_⟩) ?_ ?_
           rotate_left
           ·intro w'
            go_simp
            with_reducible rfl
           rotate_left
           ·simp only [Act.put, List.setIfInBounds_toArray, List.set_cons_zero, List.set_cons_succ, i64_w, i32_w]
            rfl
           refine pure_ (i := 2) (N := some 28) (v := ?_) (a' := ?_) #[true, true, true, false, false, false, false] rfl rfl (by kernel_rfl) (fun _ _ _ h => h) (Or.inl ⟨by rfl, ?_⟩) ?_ ?_
           rotate_left
           ·intro w'
            go_simp
            with_reducible rfl
           rotate_left
           ·simp only [Act.put, List.setIfInBounds_toArray, List.set_cons_zero, List.set_cons_succ, i64_w, i32_w]
            rfl
           refine pure_ (i := 3) (N := some 29) (v := ?_) (a' := ?_) #[true, true, true, true, false, false, false] rfl rfl (by kernel_rfl) (fun _ _ _ h => h) (Or.inl ⟨by rfl, ?_⟩) ?_ ?_
           rotate_left
           ·intro w'
            go_simp
            with_reducible rfl
           rotate_left
           ·simp only [Act.put, List.setIfInBounds_toArray, List.set_cons_zero, List.set_cons_succ, i64_w, i32_w]
            rfl
           refine pure_ (i := 4) (N := some 30) (v := ?_) (a' := ?_) #[true, true, true, true, true, false, false] rfl rfl (by kernel_rfl) (fun _ _ _ h => h) (Or.inl ⟨by rfl, ?_⟩) ?_ ?_
           rotate_left
           ·intro w'
            go_simp
            with_reducible rfl
           rotate_left
           ·simp only [Act.put, List.setIfInBounds_toArray, List.set_cons_zero, List.set_cons_succ, i64_w, i32_w]
            rfl
           refine one_ (i := 5) (N := some 31) #[true, true, true, true, true, true, false] rfl rfl (by kernel_rfl) (by decide) (fun K hK => ?_)
           refine goes_ Try.func44 (by kernel_rfl) rfl #[.int .i64 24] (by rfl) rfl rfl q1_ ?_
           with_reducible refine (skiffref1_full.calls k2 24 t405 _ A12.out).mono ?_
           rintro e w15 ⟨rfl, hb⟩
           refine ⟨_, rfl, ?_⟩
           have n0_ := Aside0.mk (below_step (by repeat (first | (with_reducible first | exact HB.out | apply below_alloc | apply pw_below_drewN | apply below_drew1) | exact HB.out)) hb)
           clear HB
           have HB := n0_
           clear n0_
           (try clear hb)
           (try clear hb2)
           (try clear hk)
           (try clear hi)
           refine hK.out _ _ trivial (fun hHeld => ?_)
           clear hK K
           refine norm_ (a' := ?_) ?_ ?_
           rotate_left
           ·show Act.put _ (some 31) _ = _
            simp only [Act.put, List.setIfInBounds_toArray, List.set_cons_zero, List.set_cons_succ, i64_w, i32_w]
            rfl
           refine pure_ (i := 6) (N := some 32) (v := ?_) (a' := ?_) #[true, true, true, true, true, true, true] rfl rfl (by kernel_rfl) (fun _ _ _ h => h) (Or.inl ⟨by rfl, ?_⟩) ?_ ?_
           rotate_left
           ·intro w'
            go_simp
            with_reducible rfl
           rotate_left
           ·simp only [Act.put, List.setIfInBounds_toArray, List.set_cons_zero, List.set_cons_succ, i64_w, i32_w]
            rfl
           refine done_ (by kernel_rfl) ?_
           try go_wp2
           go_ret3
           exact ⟨by first | rfl | (simp [errW_none, errW_some] <;> rfl) | (simp [*, errW_none, errW_some] <;> rfl), by repeat (first | (with_reducible first | exact HB.out | apply below_alloc | apply pw_below_drewN | apply below_drew1) | exact HB.out)⟩
          ·rw [if_neg c13] at H
           have c13b0 : ((a0.extract (x7_2 : Int).toNat ((wrap64 (x7_2 + 24)) : Int).toNat).toList == t405.toList) = false := beq_eq_false_iff_ne.mpr c13
           have c13b1 : ((a0.extract (x7_2 : Int).toNat ((wrap64 (x7_2 + 24)) : Int).toNat).toList != t405.toList) = true := bne_iff_ne.mpr c13
           have H' := Aside0.mk H
           clear H
           try go_wp2
           have n0_ := Aside0.mk (below_drew1 HB.out)
           clear HB
           have HB := n0_
           clear n0_
           refine start_ (n := 7) (S := fun w' => True) (ds := []) #[false, false, false, false, false, false, false] (by kernel_rfl) rfl rfl trivial (fun hHeld => ?_)
           generalize wr.drew = w16 at HB hHeld ⊢
           refine pure_ (i := 0) (N := some 26) (v := ?_) (a' := ?_) #[true, false, false, false, false, false, false] rfl rfl (by kernel_rfl) (fun _ _ _ h => h) (Or.inl ⟨by rfl, ?_⟩) ?_ ?_
           rotate_left
           ·intro w'
            go_simp
            with_reducible rfl
           rotate_left
           ·simp only [Act.put, List.setIfInBounds_toArray, List.set_cons_zero, List.set_cons_succ, i64_w, i32_w]
            rfl
           refine pure_ (i := 1) (N := some 27) (v := ?_) (a' := ?_) #[true, true, false, false, false, false, false] rfl rfl (by kernel_rfl) (fun _ _ _ h => h) (Or.inl ⟨by rfl, ?_⟩) ?_ ?_
           rotate_left
           ·intro w'
            go_simp
            with_reducible rfl
           rotate_left
           ·simp only [Act.put, List.setIfInBounds_toArray, List.set_cons_zero, List.set_cons_succ, i64_w, i32_w]
            rfl
           refine pure_ (i := 2) (N := some 28) (v := ?_) (a' := ?_) #[true, true, true, false, false, false, false] rfl rfl (by kernel_rfl) (fun _ _ _ h => h) (Or.inl ⟨by rfl, ?_⟩) ?_ ?_
           rotate_left
           ·intro w'
            go_simp
            with_reducible rfl
           rotate_left
           ·simp only [Act.put, List.setIfInBounds_toArray, List.set_cons_zero, List.set_cons_succ, i64_w, i32_w]
            rfl
           refine pure_ (i := 3) (N := some 29) (v := ?_) (a' := ?_) #[true, true, true, true, false, false, false] rfl rfl (by kernel_rfl) (fun _ _ _ h => h) (Or.inl ⟨by rfl, ?_⟩) ?_ ?_
           rotate_left
           ·intro w'
            go_simp
            with_reducible rfl
           rotate_left
           ·simp only [Act.put, List.setIfInBounds_toArray, List.set_cons_zero, List.set_cons_succ, i64_w, i32_w]
            rfl
           refine pure_ (i := 4) (N := some 30) (v := ?_) (a' := ?_) #[true, true, true, true, true, false, false] rfl rfl (by kernel_rfl) (fun _ _ _ h => h) (Or.inl ⟨by rfl, ?_⟩) ?_ ?_
           rotate_left
           ·intro w'
            go_simp
            with_reducible rfl
           rotate_left
           ·simp only [Act.put, List.setIfInBounds_toArray, List.set_cons_zero, List.set_cons_succ, i64_w, i32_w]
            rfl
           refine one_ (i := 5) (N := some 31) #[true, true, true, true, true, true, false] rfl rfl (by kernel_rfl) (by decide) (fun K hK => ?_)
           refine goes_ Try.func44 (by kernel_rfl) rfl #[.int .i64 24] (by rfl) rfl rfl q1_ ?_
           with_reducible refine (skiffref1_full.calls k2 24 t405 _ A12.out).mono ?_
           rintro e w17 ⟨rfl, hb⟩
           refine ⟨_, rfl, ?_⟩
           have n0_ := Aside0.mk (below_step (by repeat (first | (with_reducible first | exact HB.out | apply below_alloc | apply pw_below_drewN | apply below_drew1) | exact HB.out)) hb)
           clear HB
           have HB := n0_
           clear n0_
           (try clear hb)
           (try clear hb2)
           (try clear hk)
           (try clear hi)
           refine hK.out _ _ trivial (fun hHeld => ?_)
           clear hK K
           refine norm_ (a' := ?_) ?_ ?_
           rotate_left
           ·show Act.put _ (some 31) _ = _
            simp only [Act.put, List.setIfInBounds_toArray, List.set_cons_zero, List.set_cons_succ, i64_w, i32_w]
            rfl
           refine pure_ (i := 6) (N := some 32) (v := ?_) (a' := ?_) #[true, true, true, true, true, true, true] rfl rfl (by kernel_rfl) (fun _ _ _ h => h) (Or.inl ⟨by rfl, ?_⟩) ?_ ?_
           rotate_left
           ·intro w'
            go_simp
            with_reducible rfl
           rotate_left
           ·simp only [Act.put, List.setIfInBounds_toArray, List.set_cons_zero, List.set_cons_succ, i64_w, i32_w]
            rfl
           refine done_ (by kernel_rfl) ?_
           try go_wp2
           go_roundg k2
           case measure => have := HJ2.out; have := HK2.out; omega
           case rel => exact ⟨(wrap64 (x7_2 + 24)), (by first | rfl | (simp; done) | (simp [*]; done)), H', ⟨by have := HJ2.out; have := HK2.out; omega⟩, ⟨by repeat (first | (with_reducible first | exact HB.out | apply below_alloc | apply pw_below_drewN | apply below_drew1) | exact HB.out)⟩⟩
         ·rw [if_neg c11] at H
          exact absurd H (by simp)
        ·rw [if_neg c10] at H
         exact absurd H (by simp)
       ·rw [if_neg c9] at H
        exact absurd H (by simp)
      ·rw [if_neg c8] at H
       have c8b0 : decide ((wrap64 (x7_2 + 24)) ≤ (wrap64 ((wrap64 (a1 + 1)) * 96))) = false := decide_eq_false c8
       clear c8
       simp only [Option.some.injEq, Prod.mk.injEq] at H
       obtain ⟨rfl, rfl, rfl⟩ := H
       go_wp2
       go_ret3
       exact ⟨by first | rfl | (simp [errW_none, errW_some] <;> rfl) | (simp [*, errW_none, errW_some] <;> rfl), by repeat (first | (with_reducible first | exact HB.out | apply below_alloc | apply pw_below_drewN | apply below_drew1) | exact HB.out)⟩
end Go.Proofs.Ytjihlabmddfjhaa.PAll

-- Written by this session's own program (wip/tools/myprint.py), which runs the kit's print over functions proved by hand.
namespace Go.Proofs.Ytjihlabmddfjhaa.PAll
open Go.RowKit Go.Proofs.YtjihlabmddfjhaaW.PrintWords Go.Proofs.YtjihlabmddfjhaaW.PrintLast Go.Proofs.YtjihlabmddfjhaaW.PrintMore
attribute [local go_sem] max2_int min2_int max_two min_two max_three min_three max_four min_four   -- for this text's walks alone
set_option linter.unusedVariables false
set_option linter.unusedSimpArgs false
attribute [local go_sem high] eqA59
mutual
def skiffref1_Append.j0 : Nat → ByteArray → ByteArray → Bool → Option ((List (S35)) × Int)
 | 0, _, _, _ => none
 | k + 1, x0, x6, x27 => if x27 = true then (some (([] : List (S35)), 800)) else ((skiffref1_Active.f k x0).bind fun bt410 => (if bt410.2.2.2.2.2 = 0 then (skiffref1_Append.j1 k x0 x6 (wrap64 (Int.tdiv bt410.1 96))) else (skiffref1_Append.j1 k x0 x6 0)))
def skiffref1_Append.j1 : Nat → ByteArray → ByteArray → Int → Option ((List (S35)) × Int)
 | 0, _, _, _ => none
 | k + 1, x0, x6, x8 => (skiffref1_FreePlace.f k x0 x8).bind fun bt417 => (if bt417.2.1 = true then ((skiffref1_Words.f k bt417.1 x6).bind fun bt420 => (if ([] : List (S35)).length + bt420.1.length < 4398046511104 then (some ((([] : List (S35)) ++ bt420.1), 0)) else (none))) else (if ([] : List (S35)).length < 4398046511104 then ((some (([] : List (S35)) ++ [(⟨true, wrap64 ((wrap64 (1 - x8)) * 96), (⟨#[]⟩ : ByteArray)⟩ : S35)] : List (S35))).bind fun y427 => ((skiffref1_Words.f k (wrap64 ((wrap64 (1 - x8)) * 96)) x6).bind fun bt430 => (if y427.length + bt430.1.length < 4398046511104 then (some ((y427 ++ bt430.1), 0)) else (none)))) else (none)))
end
def skiffref1_Append.f (k : Nat) (a0 : ByteArray) (a1_0 : Int) (a1_1 : Int) (a1_2 : Int) (a1_3 : Int) : Option ((List (S35)) × Int) := (Hand.skiffref1_PutEntry.f k a1_0 a1_1 a1_2 a1_3).bind fun bt407 => ((skiffref1_FlashMay.f a0).bind fun t409 => (if t409 = true then (skiffref1_Append.j0 k a0 bt407.1 (bt407.2 != 0)) else (skiffref1_Append.j0 k a0 bt407.1 true)))
set_option maxHeartbeats 8000000 in
set_option maxRecDepth 100000 in
theorem skiffref1_Append.calls (k : Nat) (a0 : ByteArray) (a1_0 : Int) (a1_1 : Int) (a1_2 : Int) (a1_3 : Int) (r1 : List (S35)) (r2 : Int) (w : World) (h : skiffref1_Append.f k a0 a1_0 a1_1 a1_2 a1_3 = some (r1, r2)) :
  Calls Try.prog 41 #[.string a0, .agg #[.int .i64 a1_0, .int .i64 a1_1, .int .i64 a1_2, .int .i64 a1_3]] w fun e w' => ∃ v0_ : Value, e = .returned (.tuple #[v0_, .int .i64 r2]) ∧ Kd.R k35 35 w' w.heap.size (fun _ => True) v0_ r1 ∧ Below w.heap.size w w' := by
 have hu25 := Try.underlying25
 have hu59 := Try.underlying59
 have hu35 := Try.underlying35
 have HB := Aside0.mk (Below.refl w.heap.size w)
 have H : ((Hand.skiffref1_PutEntry.f k a1_0 a1_1 a1_2 a1_3).bind fun bt407 => ((skiffref1_FlashMay.f a0).bind fun t409 => (if t409 = true then (skiffref1_Append.j0 k a0 bt407.1 (bt407.2 != 0)) else (skiffref1_Append.j0 k a0 bt407.1 true)))) = some (r1, r2) := h
 clear h
 replace H := Option.bind_eq_some_iff.mp H
 obtain ⟨⟨t407, t408⟩, A30, H⟩ := H
 replace H : ((skiffref1_FlashMay.f a0).bind fun t409 => (if t409 = true then (skiffref1_Append.j0 k a0 t407 (t408 != 0)) else (skiffref1_Append.j0 k a0 t407 true))) = some (r1, r2) := H
 have A3 := Aside0.mk A30
 clear A30
 have HC4 := Aside0.mk H
 clear H
 go_enter Try.func41, Try.ntmps41
 go_upto_region 2 with (first | ((with_reducible refine gate_dst (N := 3) rfl ?_); refine box_event ?hg (N := 3) ?hd (cs := #[.int .i64 a1_0, .int .i64 a1_1, .int .i64 a1_2, .int .i64 a1_3]) (t := 25) ?hr ?_; (case hd => rfl); (case hg => rfl); (case hr => first | (go_simp; done) | (go_simp; rfl)); intro gb406 hg w5 hbox hb; have n0_ := Aside0.mk (below_step (by repeat (first | (with_reducible first | exact HB.out | apply below_alloc | apply pw_below_drewN | apply below_drew1) | exact HB.out)) hb); have n1_ := Aside0.mk (hbox); have n2_ := Aside0.mk ((by rw [hg]; exact (below_size (by repeat (first | (with_reducible first | exact HB.out | apply below_alloc | apply pw_below_drewN | apply below_drew1) | exact HB.out))) : w.heap.size ≤ gb406)); have n3_ := Aside0.mk ((by rw [hg]; exact (below_size (by repeat (first | (with_reducible first | exact HB.out | apply below_alloc | apply pw_below_drewN | apply below_drew1) | exact HB.out))) : w.heap.size ≤ gb406)); clear HB; have HB := n0_; have BK406 := n1_; have GW406 := n2_; have GE406 := n3_; clear n0_ n1_ n2_ n3_; clear hb hbox hg; have hcz6_0 : w5.cell? ⟨gb406, 0, none⟩ = some (.int .i64 a1_0) := (blk_cell BK406.out 0).trans rfl; have hcz6_1 : w5.cell? ⟨gb406, 1, none⟩ = some (.int .i64 a1_1) := (blk_cell BK406.out 1).trans rfl; have hcz6_2 : w5.cell? ⟨gb406, 2, none⟩ = some (.int .i64 a1_2) := (blk_cell BK406.out 2).trans rfl; have hcz6_3 : w5.cell? ⟨gb406, 3, none⟩ = some (.int .i64 a1_3) := (blk_cell BK406.out 3).trans rfl; have hfz6_0 := blk_frozen BK406.out 0; have hfz6_1 := blk_frozen BK406.out 1; have hfz6_2 := blk_frozen BK406.out 2; have hfz6_3 := blk_frozen BK406.out 3) | ((with_reducible refine gate_callee (f := 29) rfl ?_); refine goesL_ (some 18) rfl rfl Try.func29 (by kernel_rfl) rfl #[.agg #[.int .i64 a1_0, .int .i64 a1_1, .int .i64 a1_2, .int .i64 a1_3]] rfl q1_ ?_; (with_reducible refine (Hand.skiffref1_PutEntry.calls k a1_0 a1_1 a1_2 a1_3 t407 t408 _ A3.out).mono ?_); rintro e w7 ⟨rfl, hb⟩; refine ⟨_, rfl, ?_⟩; have n0_ := Aside0.mk (blk_below (g := gb406) (o := .cells #[.int .i64 a1_0, .int .i64 a1_1, .int .i64 a1_2, .int .i64 a1_3] 25 (0, 0)) (by (with_reducible repeat (first | refine blk_drewN ?_ _ | refine blk_drew ?_ | refine blk_alloc ?_ _)); exact BK406.out) hb); have n1_ := Aside0.mk (below_step (by repeat (first | (with_reducible first | exact HB.out | apply below_alloc | apply pw_below_drewN | apply below_drew1 | refine below_set ?_ GE406.out) | exact HB.out)) hb); clear BK406; clear HB; have BK406 := n0_; have HB := n1_; clear n0_ n1_; (try clear hb); (try clear hb2); (try clear hk); (try clear hi)))
 (try simp only [Act.put, List.setIfInBounds_toArray, List.set_cons_zero, List.set_cons_succ])
 go_cut [27] (fun v27 wc => ∃ (kq : Nat) (x27_3 : Bool), v27 = .bool x27_3 ∧ Aside0 (skiffref1_Append.j0 kq a0 t407 x27_3 = some (r1, r2)) ∧ Aside0 (kq ≤ k) ∧ Aside0 (wc.heap[gb406]? = some (.cells #[.int .i64 a1_0, .int .i64 a1_1, .int .i64 a1_2, .int .i64 a1_3] 25 (0, 0))) ∧ Aside0 (Below w.heap.size w wc))
 case first =>
  have H := HC4.out
  clear HC4
  replace H := Option.bind_eq_some_iff.mp H
  obtain ⟨t409, A80, H⟩ := H
  replace H : (if t409 = true then (skiffref1_Append.j0 k a0 t407 (t408 != 0)) else (skiffref1_Append.j0 k a0 t407 true)) = some (r1, r2) := H
  have A8 := Aside0.mk A80
  clear A80
  by_cases c9 : t409 = true
  ·subst c9
   have H1 : (skiffref1_Append.j0 k a0 t407 (t408 != 0)) = some (r1, r2) := by rw [if_pos rfl] at H; exact H
   clear H
   have H := H1
   clear H1
   have H' := Aside0.mk H
   clear H
   go_wp2_with (first | ((with_reducible refine gate_callee (f := 48) rfl ?_); refine goesL_ (some 22) rfl rfl Try.func48 (by kernel_rfl) rfl #[.string a0] rfl q1_ ?_; (with_reducible refine (skiffref1_FlashMay.calls a0 true _ A8.out).mono ?_); rintro e w' ⟨rfl, ⟨nd, rfl⟩⟩; refine ⟨_, rfl, ?_⟩))
   go_meet
   case rel => exact ⟨_, ((t408 != 0)), (by first | rfl | (simp; done) | (simp [*]; done)), H', ⟨by first | omega | exact Nat.le_refl _⟩, ⟨by (with_reducible repeat (first | refine blk_drewN ?_ _ | refine blk_drew ?_ | refine blk_alloc ?_ _)); exact BK406.out⟩, ⟨by repeat (first | (with_reducible first | exact HB.out | apply below_alloc | apply pw_below_drewN | apply below_drew1 | refine below_set ?_ GE406.out) | exact HB.out)⟩⟩
  ·replace c9 := Bool.eq_false_iff.mpr c9
   subst c9
   have H1 : (skiffref1_Append.j0 k a0 t407 true) = some (r1, r2) := by rw [if_neg (show ¬ (false = true) by decide)] at H; exact H
   clear H
   have H := H1
   clear H1
   have H' := Aside0.mk H
   clear H
   go_wp2_with (first | ((with_reducible refine gate_callee (f := 48) rfl ?_); refine goesL_ (some 22) rfl rfl Try.func48 (by kernel_rfl) rfl #[.string a0] rfl q1_ ?_; (with_reducible refine (skiffref1_FlashMay.calls a0 false _ A8.out).mono ?_); rintro e w' ⟨rfl, ⟨nd, rfl⟩⟩; refine ⟨_, rfl, ?_⟩))
   go_meet
   case rel => exact ⟨_, (true), (by first | rfl | (simp; done) | (simp [*]; done)), H', ⟨by first | omega | exact Nat.le_refl _⟩, ⟨by (with_reducible repeat (first | refine blk_drewN ?_ _ | refine blk_drew ?_ | refine blk_alloc ?_ _)); exact BK406.out⟩, ⟨by repeat (first | (with_reducible first | exact HB.out | apply below_alloc | apply pw_below_drewN | apply below_drew1 | refine below_set ?_ GE406.out) | exact HB.out)⟩⟩
 case rest =>
  clear HC4
  try clear c2
  try clear p2
  try clear c4
  try clear c9
  try clear hcz6_0
  try clear hcz6_1
  try clear hcz6_2
  try clear hcz6_3
  try clear hfz6_0
  try clear hfz6_1
  try clear hfz6_2
  try clear hfz6_3
  obtain ⟨kq, x27_3, rfl, HA, HJ3, BK406, HB⟩ := hcut
  cases kq with
  | zero => exact absurd HA.out (by simp [skiffref1_Append.j0])
  | succ kj3 =>
   have H := HA.out
   clear HA
   simp only [skiffref1_Append.j0] at H
   by_cases c10 : x27_3 = true
   ·subst c10
    have H1 : (some (([] : List (S35)), 800)) = some (r1, r2) := by rw [if_pos rfl] at H; exact H
    clear H
    have H := H1
    clear H1
    simp only [Option.some.injEq, Prod.mk.injEq] at H
    obtain ⟨rfl, rfl⟩ := H
    go_wp2
    go_ret2
    exact ⟨_, by first | rfl | (simp [errW_none, errW_some] <;> rfl) | (simp [*, errW_none, errW_some] <;> rfl), by first | exact Kd.R_nil _ _ _ _ _ | exact Kd.N_nil _ _ _ _ _ | exact Kd.V_nil _ _ _ _ _ | exact Kd.Q_nil _ _ _ _ _ | exact Kd.S_nil _ _ _ _ _, by repeat (first | (with_reducible first | exact HB.out | apply below_alloc | apply pw_below_drewN | apply below_drew1 | refine below_set ?_ GE406.out) | exact HB.out)⟩
   ·replace c10 := Bool.eq_false_iff.mpr c10
    subst c10
    have H1 : ((skiffref1_Active.f kj3 a0).bind fun bt410 => (if bt410.2.2.2.2.2 = 0 then (skiffref1_Append.j1 kj3 a0 t407 (wrap64 (Int.tdiv bt410.1 96))) else (skiffref1_Append.j1 kj3 a0 t407 0))) = some (r1, r2) := by rw [if_neg (show ¬ (false = true) by decide)] at H; exact H
    clear H
    have H := H1
    clear H1
    replace H := Option.bind_eq_some_iff.mp H
    obtain ⟨⟨t410, t411, t412, t413, t414, t415⟩, A110, H⟩ := H
    replace H : (if t415 = 0 then (skiffref1_Append.j1 kj3 a0 t407 (wrap64 (Int.tdiv t410 96))) else (skiffref1_Append.j1 kj3 a0 t407 0)) = some (r1, r2) := H
    have A11 := Aside0.mk A110
    clear A110
    have HC12 := Aside0.mk H
    clear H
    go_upto_if 34 with (first | ((with_reducible refine gate_callee (f := 64) rfl ?_); refine goesL_ (some 30) rfl rfl Try.func64 (by kernel_rfl) rfl #[.string a0] rfl q1_ ?_; (with_reducible refine (skiffref1_Active.calls kj3 a0 t410 t411 t412 t413 t414 t415 _ A11.out).mono ?_); rintro e w13 ⟨rfl, hb⟩; refine ⟨_, rfl, ?_⟩; have n0_ := Aside0.mk (blk_below (g := gb406) (o := .cells #[.int .i64 a1_0, .int .i64 a1_1, .int .i64 a1_2, .int .i64 a1_3] 25 (0, 0)) (by (with_reducible repeat (first | refine blk_drewN ?_ _ | refine blk_drew ?_ | refine blk_alloc ?_ _)); exact BK406.out) hb); have n1_ := Aside0.mk (below_step (by repeat (first | (with_reducible first | exact HB.out | apply below_alloc | apply pw_below_drewN | apply below_drew1 | refine below_set ?_ GE406.out) | exact HB.out)) hb); clear BK406; clear HB; have BK406 := n0_; have HB := n1_; clear n0_ n1_; (try clear hb); (try clear hb2); (try clear hk); (try clear hi)) | ((with_reducible refine gate_dst (N := 9) rfl ?_); refine box_event ?hg (N := 9) ?hd (cs := #[.int .i64 0, .int .i64 0, .int .i64 0, .int .i64 0, .int .i64 0]) (t := 59) ?hr ?_; (case hd => rfl); (case hg => rfl); (case hr => first | (go_simp; done) | (go_simp; rfl)); intro gb416 hg w14 hbox hb; have n0_ := Aside0.mk (blk_below (g := gb406) (o := .cells #[.int .i64 a1_0, .int .i64 a1_1, .int .i64 a1_2, .int .i64 a1_3] 25 (0, 0)) (by (with_reducible repeat (first | refine blk_drewN ?_ _ | refine blk_drew ?_ | refine blk_alloc ?_ _)); exact BK406.out) hb); have n1_ := Aside0.mk (below_step (by repeat (first | (with_reducible first | exact HB.out | apply below_alloc | apply pw_below_drewN | apply below_drew1 | refine below_set ?_ GE406.out) | exact HB.out)) hb); have n2_ := Aside0.mk (hbox); have n3_ := Aside0.mk ((by rw [hg]; exact (below_size (by repeat (first | (with_reducible first | exact HB.out | apply below_alloc | apply pw_below_drewN | apply below_drew1 | refine below_set ?_ GE406.out) | exact HB.out))) : w.heap.size ≤ gb416)); have n4_ := Aside0.mk ((by rw [hg]; exact (below_size (by repeat (first | (with_reducible first | exact HB.out | apply below_alloc | apply pw_below_drewN | apply below_drew1 | refine below_set ?_ GE406.out) | exact HB.out))) : w.heap.size ≤ gb416)); have n5_ := Aside0.mk ((by rw [hg]; exact Nat.ne_of_lt (blk_lt (g := gb406) (o := .cells #[.int .i64 a1_0, .int .i64 a1_1, .int .i64 a1_2, .int .i64 a1_3] 25 (0, 0)) (by (with_reducible repeat (first | refine blk_drewN ?_ _ | refine blk_drew ?_ | refine blk_alloc ?_ _)); exact BK406.out)) : gb406 ≠ gb416)); have n6_ := Aside0.mk ((by rw [hg]; exact Nat.ne_of_gt (blk_lt (g := gb406) (o := .cells #[.int .i64 a1_0, .int .i64 a1_1, .int .i64 a1_2, .int .i64 a1_3] 25 (0, 0)) (by (with_reducible repeat (first | refine blk_drewN ?_ _ | refine blk_drew ?_ | refine blk_alloc ?_ _)); exact BK406.out)) : gb416 ≠ gb406)); clear BK406; clear HB; have BK406 := n0_; have HB := n1_; have BK416 := n2_; have GW416 := n3_; have GE416 := n4_; have NB406_416 := n5_; have NB416_406 := n6_; clear n0_ n1_ n2_ n3_ n4_ n5_ n6_; clear hb hbox hg; have hnb15 := NB416_406.out; have hnc15 := NB406_416.out; have hcz16_0 : w14.cell? ⟨gb416, 0, none⟩ = some (.int .i64 0) := (blk_cell BK416.out 0).trans rfl; have hcz16_1 : w14.cell? ⟨gb416, 1, none⟩ = some (.int .i64 0) := (blk_cell BK416.out 1).trans rfl; have hcz16_2 : w14.cell? ⟨gb416, 2, none⟩ = some (.int .i64 0) := (blk_cell BK416.out 2).trans rfl; have hcz16_3 : w14.cell? ⟨gb416, 3, none⟩ = some (.int .i64 0) := (blk_cell BK416.out 3).trans rfl; have hcz16_4 : w14.cell? ⟨gb416, 4, none⟩ = some (.int .i64 0) := (blk_cell BK416.out 4).trans rfl; have hfz16_0 := blk_frozen BK416.out 0; have hfz16_1 := blk_frozen BK416.out 1; have hfz16_2 := blk_frozen BK416.out 2; have hfz16_3 := blk_frozen BK416.out 3; have hfz16_4 := blk_frozen BK416.out 4))
    (try simp only [Act.put, List.setIfInBounds_toArray, List.set_cons_zero, List.set_cons_succ])
    go_cut [8] (fun v8 wc => ∃ (kq : Nat) (x8_11 : Int), v8 = .int .i64 x8_11 ∧ Aside0 (skiffref1_Append.j1 kq a0 t407 x8_11 = some (r1, r2)) ∧ Aside0 (kq ≤ kj3) ∧ Aside0 (wc.heap[gb406]? = some (.cells #[.int .i64 a1_0, .int .i64 a1_1, .int .i64 a1_2, .int .i64 a1_3] 25 (0, 0))) ∧ Aside0 (wc.heap[gb416]? = some (.cells #[.int .i64 t410, .int .i64 t411, .int .i64 t412, .int .i64 t413, .int .i64 t414] 59 (0, 0))) ∧ Aside0 (Below w.heap.size w wc))
    case first =>
     have H := HC12.out
     clear HC12
     by_cases c17 : t415 = 0
     ·rw [if_pos c17] at H
      have c17b0 : (t415 == 0) = true := beq_iff_eq.mpr c17
      have c17b1 : (t415 != 0) = false := bne_eq_false_iff_eq.mpr c17
      clear c17
      (first | rw [c17b0] | (simp only [i64_w, i32_w]; rw [c17b0]) | skip)
      have H' := Aside0.mk H
      clear H
      have hnb18 := NB416_406.out
      have hnc18 := NB406_416.out
      have hcz19_0 : w14.cell? ⟨gb416, 0, none⟩ = some (.int .i64 0) := (blk_cell BK416.out 0).trans rfl
      have hcz19_1 : w14.cell? ⟨gb416, 1, none⟩ = some (.int .i64 0) := (blk_cell BK416.out 1).trans rfl
      have hcz19_2 : w14.cell? ⟨gb416, 2, none⟩ = some (.int .i64 0) := (blk_cell BK416.out 2).trans rfl
      have hcz19_3 : w14.cell? ⟨gb416, 3, none⟩ = some (.int .i64 0) := (blk_cell BK416.out 3).trans rfl
      have hcz19_4 : w14.cell? ⟨gb416, 4, none⟩ = some (.int .i64 0) := (blk_cell BK416.out 4).trans rfl
      have hfz19_0 := blk_frozen BK416.out 0
      have hfz19_1 := blk_frozen BK416.out 1
      have hfz19_2 := blk_frozen BK416.out 2
      have hfz19_3 := blk_frozen BK416.out 3
      have hfz19_4 := blk_frozen BK416.out 4
      go_wp2
      go_meet
      case rel => exact ⟨_, (wrap64 (Int.tdiv t410 96)), (by first | rfl | (simp; done) | (simp [*]; done)), H', ⟨by have := HJ3.out; first | omega | exact Nat.le_refl _⟩, ⟨by (with_reducible repeat (first | refine blk_drewN ?_ _ | refine blk_drew ?_ | refine blk_alloc ?_ _)); refine blk_far ?_ NB406_416.out _; (with_reducible repeat (first | refine blk_drewN ?_ _ | refine blk_drew ?_ | refine blk_alloc ?_ _)); refine blk_far ?_ NB406_416.out _; (with_reducible repeat (first | refine blk_drewN ?_ _ | refine blk_drew ?_ | refine blk_alloc ?_ _)); refine blk_far ?_ NB406_416.out _; (with_reducible repeat (first | refine blk_drewN ?_ _ | refine blk_drew ?_ | refine blk_alloc ?_ _)); refine blk_far ?_ NB406_416.out _; (with_reducible repeat (first | refine blk_drewN ?_ _ | refine blk_drew ?_ | refine blk_alloc ?_ _)); refine blk_far ?_ NB406_416.out _; (with_reducible repeat (first | refine blk_drewN ?_ _ | refine blk_drew ?_ | refine blk_alloc ?_ _)); exact BK406.out⟩, ⟨by (with_reducible repeat (first | refine blk_drewN ?_ _ | refine blk_drew ?_ | refine blk_alloc ?_ _)); refine blk_put (cs := #[.int .i64 t410, .int .i64 t411, .int .i64 t412, .int .i64 t413, .int .i64 0]) ?_ 4 _ rfl; (with_reducible repeat (first | refine blk_drewN ?_ _ | refine blk_drew ?_ | refine blk_alloc ?_ _)); refine blk_put (cs := #[.int .i64 t410, .int .i64 t411, .int .i64 t412, .int .i64 0, .int .i64 0]) ?_ 3 _ rfl; (with_reducible repeat (first | refine blk_drewN ?_ _ | refine blk_drew ?_ | refine blk_alloc ?_ _)); refine blk_put (cs := #[.int .i64 t410, .int .i64 t411, .int .i64 0, .int .i64 0, .int .i64 0]) ?_ 2 _ rfl; (with_reducible repeat (first | refine blk_drewN ?_ _ | refine blk_drew ?_ | refine blk_alloc ?_ _)); refine blk_put (cs := #[.int .i64 t410, .int .i64 0, .int .i64 0, .int .i64 0, .int .i64 0]) ?_ 1 _ rfl; (with_reducible repeat (first | refine blk_drewN ?_ _ | refine blk_drew ?_ | refine blk_alloc ?_ _)); refine blk_put (cs := #[.int .i64 0, .int .i64 0, .int .i64 0, .int .i64 0, .int .i64 0]) ?_ 0 _ rfl; (with_reducible repeat (first | refine blk_drewN ?_ _ | refine blk_drew ?_ | refine blk_alloc ?_ _)); exact BK416.out⟩, ⟨by repeat (first | (with_reducible first | exact HB.out | apply below_alloc | apply pw_below_drewN | apply below_drew1 | refine below_set ?_ GE406.out | refine below_set ?_ GE416.out) | exact HB.out)⟩⟩
     ·rw [if_neg c17] at H
      have c17b0 : (t415 == 0) = false := beq_eq_false_iff_ne.mpr c17
      have c17b1 : (t415 != 0) = true := bne_iff_ne.mpr c17
      (first | rw [c17b0] | (simp only [i64_w, i32_w]; rw [c17b0]) | skip)
      have H' := Aside0.mk H
      clear H
      go_wp2
      go_meet
      case rel => exact ⟨_, (0), (by first | rfl | (simp; done) | (simp [*]; done)), H', ⟨by have := HJ3.out; first | omega | exact Nat.le_refl _⟩, ⟨by (with_reducible repeat (first | refine blk_drewN ?_ _ | refine blk_drew ?_ | refine blk_alloc ?_ _)); refine blk_far ?_ NB406_416.out _; (with_reducible repeat (first | refine blk_drewN ?_ _ | refine blk_drew ?_ | refine blk_alloc ?_ _)); refine blk_far ?_ NB406_416.out _; (with_reducible repeat (first | refine blk_drewN ?_ _ | refine blk_drew ?_ | refine blk_alloc ?_ _)); refine blk_far ?_ NB406_416.out _; (with_reducible repeat (first | refine blk_drewN ?_ _ | refine blk_drew ?_ | refine blk_alloc ?_ _)); refine blk_far ?_ NB406_416.out _; (with_reducible repeat (first | refine blk_drewN ?_ _ | refine blk_drew ?_ | refine blk_alloc ?_ _)); refine blk_far ?_ NB406_416.out _; (with_reducible repeat (first | refine blk_drewN ?_ _ | refine blk_drew ?_ | refine blk_alloc ?_ _)); exact BK406.out⟩, ⟨by (with_reducible repeat (first | refine blk_drewN ?_ _ | refine blk_drew ?_ | refine blk_alloc ?_ _)); refine blk_put (cs := #[.int .i64 t410, .int .i64 t411, .int .i64 t412, .int .i64 t413, .int .i64 0]) ?_ 4 _ rfl; (with_reducible repeat (first | refine blk_drewN ?_ _ | refine blk_drew ?_ | refine blk_alloc ?_ _)); refine blk_put (cs := #[.int .i64 t410, .int .i64 t411, .int .i64 t412, .int .i64 0, .int .i64 0]) ?_ 3 _ rfl; (with_reducible repeat (first | refine blk_drewN ?_ _ | refine blk_drew ?_ | refine blk_alloc ?_ _)); refine blk_put (cs := #[.int .i64 t410, .int .i64 t411, .int .i64 0, .int .i64 0, .int .i64 0]) ?_ 2 _ rfl; (with_reducible repeat (first | refine blk_drewN ?_ _ | refine blk_drew ?_ | refine blk_alloc ?_ _)); refine blk_put (cs := #[.int .i64 t410, .int .i64 0, .int .i64 0, .int .i64 0, .int .i64 0]) ?_ 1 _ rfl; (with_reducible repeat (first | refine blk_drewN ?_ _ | refine blk_drew ?_ | refine blk_alloc ?_ _)); refine blk_put (cs := #[.int .i64 0, .int .i64 0, .int .i64 0, .int .i64 0, .int .i64 0]) ?_ 0 _ rfl; (with_reducible repeat (first | refine blk_drewN ?_ _ | refine blk_drew ?_ | refine blk_alloc ?_ _)); exact BK416.out⟩, ⟨by repeat (first | (with_reducible first | exact HB.out | apply below_alloc | apply pw_below_drewN | apply below_drew1 | refine below_set ?_ GE406.out | refine below_set ?_ GE416.out) | exact HB.out)⟩⟩
    case rest =>
     clear HC12
     try clear c1
     try clear c2
     try clear p2
     try clear c4
     try clear c6
     try clear p6
     try clear c9
     try clear c10
     try clear c15
     try clear c17
     try clear c17b0
     try clear c17b1
     try clear c18
     try clear hcz16_0
     try clear hcz16_1
     try clear hcz16_2
     try clear hcz16_3
     try clear hcz16_4
     try clear hcz19_0
     try clear hcz19_1
     try clear hcz19_2
     try clear hcz19_3
     try clear hcz19_4
     try clear hcz6_0
     try clear hcz6_1
     try clear hcz6_2
     try clear hcz6_3
     try clear hfz16_0
     try clear hfz16_1
     try clear hfz16_2
     try clear hfz16_3
     try clear hfz16_4
     try clear hfz19_0
     try clear hfz19_1
     try clear hfz19_2
     try clear hfz19_3
     try clear hfz19_4
     try clear hfz6_0
     try clear hfz6_1
     try clear hfz6_2
     try clear hfz6_3
     try clear p2
     obtain ⟨kq, x8_11, rfl, HA, HJ11, BK406, BK416, HB⟩ := hcut
     cases kq with
     | zero => exact absurd HA.out (by simp [skiffref1_Append.j1])
     | succ kj11 =>
      have H := HA.out
      clear HA
      simp only [skiffref1_Append.j1] at H
      replace H := Option.bind_eq_some_iff.mp H
      obtain ⟨⟨t417, t418, t419⟩, A200, H⟩ := H
      replace H : (if t418 = true then ((skiffref1_Words.f kj11 t417 t407).bind fun bt420 => (if ([] : List (S35)).length + bt420.1.length < 4398046511104 then (some ((([] : List (S35)) ++ bt420.1), 0)) else (none))) else (if ([] : List (S35)).length < 4398046511104 then ((some (([] : List (S35)) ++ [(⟨true, wrap64 ((wrap64 (1 - x8_11)) * 96), (⟨#[]⟩ : ByteArray)⟩ : S35)] : List (S35))).bind fun y427 => ((skiffref1_Words.f kj11 (wrap64 ((wrap64 (1 - x8_11)) * 96)) t407).bind fun bt430 => (if y427.length + bt430.1.length < 4398046511104 then (some ((y427 ++ bt430.1), 0)) else (none)))) else (none))) = some (r1, r2) := H
      have A20 := Aside0.mk A200
      clear A200
      by_cases c21 : t418 = true
      ·subst c21
       have H1 : ((skiffref1_Words.f kj11 t417 t407).bind fun bt420 => (if ([] : List (S35)).length + bt420.1.length < 4398046511104 then (some ((([] : List (S35)) ++ bt420.1), 0)) else (none))) = some (r1, r2) := by rw [if_pos rfl] at H; exact H
       clear H
       have H := H1
       clear H1
       replace H := Option.bind_eq_some_iff.mp H
       obtain ⟨⟨t420, t421⟩, A220, H⟩ := H
       replace H : (if ([] : List (S35)).length + t420.length < 4398046511104 then (some ((([] : List (S35)) ++ t420), 0)) else (none)) = some (r1, r2) := H
       have A22 := Aside0.mk A220
       clear A220
       by_cases c23 : ([] : List (S35)).length + t420.length < 4398046511104
       ·rw [if_pos c23] at H
        have LMc23 := Aside0.mk c23
        clear c23
        obtain ⟨y424, hy424⟩ : ∃ y_ : List (S35), y_ = (([] : List (S35)) ++ t420) := ⟨_, rfl⟩
        replace H : (some (y424, 0)) = some (r1, r2) := by first | (rw [hy424]; with_reducible exact H) | (have H2_ := (Option.bind_some _ _).symm.trans H; rw [hy424]; with_reducible exact H2_) | (have H2_ := (Option.bind_some _ _).symm.trans H; with_reducible exact H2_) | with_reducible exact H | (rw [hy424]; exact H) | exact H
        have Ny424 := Aside0.mk hy424
        clear hy424
        simp only [Option.some.injEq, Prod.mk.injEq] at H
        obtain ⟨rfl, rfl⟩ := H
        go_wp2_with (first | ((with_reducible refine gate_callee (f := 65) rfl ?_); refine goesL_ (some 41) rfl rfl Try.func65 (by kernel_rfl) rfl #[.string a0, .int .i64 x8_11] rfl q1_ ?_; (with_reducible refine (skiffref1_FreePlace.calls kj11 a0 x8_11 t417 true t419 _ A20.out).mono ?_); rintro e w24 ⟨rfl, hb⟩; refine ⟨_, rfl, ?_⟩; have n0_ := Aside0.mk (blk_below (g := gb406) (o := .cells #[.int .i64 a1_0, .int .i64 a1_1, .int .i64 a1_2, .int .i64 a1_3] 25 (0, 0)) (by (with_reducible repeat (first | refine blk_drewN ?_ _ | refine blk_drew ?_ | refine blk_alloc ?_ _)); exact BK406.out) hb); have n1_ := Aside0.mk (blk_below (g := gb416) (o := .cells #[.int .i64 t410, .int .i64 t411, .int .i64 t412, .int .i64 t413, .int .i64 t414] 59 (0, 0)) (by (with_reducible repeat (first | refine blk_drewN ?_ _ | refine blk_drew ?_ | refine blk_alloc ?_ _)); exact BK416.out) hb); have n2_ := Aside0.mk (below_step (by repeat (first | (with_reducible first | exact HB.out | apply below_alloc | apply pw_below_drewN | apply below_drew1 | refine below_set ?_ GE406.out | refine below_set ?_ GE416.out) | exact HB.out)) hb); clear BK406; clear BK416; clear HB; have BK406 := n0_; have BK416 := n1_; have HB := n2_; clear n0_ n1_ n2_; (try clear hb); (try clear hb2); (try clear hk); (try clear hi)) | ((with_reducible refine gate_callee (f := 17) rfl ?_); refine goesL_ (some 58) rfl rfl Try.func17 (by kernel_rfl) rfl #[.int .i64 t417, .string t407] rfl q1_ ?_; (with_reducible refine (skiffref1_Words.calls kj11 t417 t407 t420 t421 _ A22.out).mono ?_); rintro e w25 ⟨v422, rfl, ho0, hb⟩; refine ⟨_, rfl, ?_⟩; have n0_ := Aside0.mk (Kd.R_lower ho0 (below_size (by repeat (first | (with_reducible first | exact HB.out | apply below_alloc | apply pw_below_drewN | apply below_drew1 | refine below_set ?_ GE406.out | refine below_set ?_ GE416.out) | exact HB.out)))); have n1_ := Aside0.mk (blk_below (g := gb406) (o := .cells #[.int .i64 a1_0, .int .i64 a1_1, .int .i64 a1_2, .int .i64 a1_3] 25 (0, 0)) (by (with_reducible repeat (first | refine blk_drewN ?_ _ | refine blk_drew ?_ | refine blk_alloc ?_ _)); exact BK406.out) hb); have n2_ := Aside0.mk (blk_below (g := gb416) (o := .cells #[.int .i64 t410, .int .i64 t411, .int .i64 t412, .int .i64 t413, .int .i64 t414] 59 (0, 0)) (by (with_reducible repeat (first | refine blk_drewN ?_ _ | refine blk_drew ?_ | refine blk_alloc ?_ _)); exact BK416.out) hb); have n3_ := Aside0.mk (below_step (by repeat (first | (with_reducible first | exact HB.out | apply below_alloc | apply pw_below_drewN | apply below_drew1 | refine below_set ?_ GE406.out | refine below_set ?_ GE416.out) | exact HB.out)) hb); clear BK406; clear BK416; clear HB; have HO423 := n0_; have BK406 := n1_; have BK416 := n2_; have HB := n3_; clear n0_ n1_ n2_ n3_; (try clear hb); (try clear hb2); (try clear hk); (try clear hi); (try clear ho0); obtain ⟨Ao27, co27, eo27⟩ := Kd.R_slice HO423.out; subst eo27) | ((with_reducible refine gate_builtin (b := .append) (xs := #[.tmp 61, .tmp 62]) rfl ?_); at_builtin; refine Kd.R_append_rows k35 (w0 := w) w.heap.size rfl (.tmp 61) (.tmp 62) 36 35 (.agg #[(.bool false), (.int .i64 0), (.string ⟨#[]⟩)]) 32 rfl Try.underlying36 info35 rfl (by decide) (by omega) (.slice none 0 0) ([] : List (S35)) t420 _ _ _ (fun k_ => some k_ ≠ (.slice Ao27 t420.length co27 : Value).ownBlock) (fun _ => False) rfl rfl ?aO ?aR (fun _ _ h => h) (fun _ h => h.elim) ?aF ?aB ?aS ?aL ?_; (case aR => repeat (first | exact (Kd.R_reads' HO423.out).2.2 | (with_reducible refine Kd.C_alloc ?_ _) | (with_reducible refine Kd.C_drewN ?_ _) | (with_reducible refine Kd.C_drew ?_))); (case aB => exact (by repeat (first | (with_reducible first | exact HB.out | apply below_alloc | apply pw_below_drewN | apply below_drew1 | refine below_set ?_ GE406.out | refine below_set ?_ GE416.out) | exact HB.out))); (case aF => exact (fun k_ hk => Kd.fresh' (Kd.R_lt (by (with_reducible repeat (first | apply Kd.R_alloc | apply Kd.R_drewN | apply Kd.R_drew)); exact HO423.out)) k_ hk)); (case aO => exact ((Kd.R_nil _ _ _ _ (fun k_ => some k_ ≠ (.slice Ao27 t420.length co27 : Value).ownBlock)))); (case aS => exact (below_size (by repeat (first | (with_reducible first | exact HB.out | apply below_alloc | apply pw_below_drewN | apply below_drew1 | refine below_set ?_ GE406.out | refine below_set ?_ GE416.out) | exact HB.out)))); (case aL => have := LMc23.out; omega); intro v425 w26 ho hb hg hat; rw [← Ny424.out] at ho; have n0_ := Aside0.mk (blk_grown (g := gb406) (o := .cells #[.int .i64 a1_0, .int .i64 a1_1, .int .i64 a1_2, .int .i64 a1_3] 25 (0, 0)) (by (with_reducible repeat (first | refine blk_drewN ?_ _ | refine blk_drew ?_ | refine blk_alloc ?_ _)); exact BK406.out) hg (by simp [Value.ownBlock])); have n1_ := Aside0.mk (blk_grown (g := gb416) (o := .cells #[.int .i64 t410, .int .i64 t411, .int .i64 t412, .int .i64 t413, .int .i64 t414] 59 (0, 0)) (by (with_reducible repeat (first | refine blk_drewN ?_ _ | refine blk_drew ?_ | refine blk_alloc ?_ _)); exact BK416.out) hg (by simp [Value.ownBlock])); have n2_ := Aside0.mk (Kd.R_after (Kd.R_apart_nil (by (with_reducible repeat (first | apply Kd.R_alloc | apply Kd.R_drewN | apply Kd.R_drew)); exact HO423.out)) hg hat); have n3_ := Aside0.mk (hb); have n4_ := Aside0.mk (ho); clear BK406; clear BK416; clear HO423; clear HB; have BK406 := n0_; have BK416 := n1_; have HO423 := n2_; have HB := n3_; have HO426 := n4_; clear n0_ n1_ n2_ n3_ n4_; clear ho hb hg hat))
        go_ret2
        exact ⟨_, by first | rfl | (simp [errW_none, errW_some] <;> rfl) | (simp [*, errW_none, errW_some] <;> rfl), by (with_reducible repeat (first | apply Kd.R_alloc | apply Kd.R_drewN | apply Kd.R_drew)); exact Kd.R_mono HO426.out (fun _ hk => trivial), by repeat (first | (with_reducible first | exact HB.out | apply below_alloc | apply pw_below_drewN | apply below_drew1 | refine below_set ?_ GE406.out | refine below_set ?_ GE416.out) | exact HB.out)⟩
       ·rw [if_neg c23] at H
        exact absurd H (by simp)
      ·replace c21 := Bool.eq_false_iff.mpr c21
       subst c21
       have H1 : (if ([] : List (S35)).length < 4398046511104 then ((some (([] : List (S35)) ++ [(⟨true, wrap64 ((wrap64 (1 - x8_11)) * 96), (⟨#[]⟩ : ByteArray)⟩ : S35)] : List (S35))).bind fun y427 => ((skiffref1_Words.f kj11 (wrap64 ((wrap64 (1 - x8_11)) * 96)) t407).bind fun bt430 => (if y427.length + bt430.1.length < 4398046511104 then (some ((y427 ++ bt430.1), 0)) else (none)))) else (none)) = some (r1, r2) := by rw [if_neg (show ¬ (false = true) by decide)] at H; exact H
       clear H
       have H := H1
       clear H1
       by_cases c28 : ([] : List (S35)).length < 4398046511104
       ·rw [if_pos c28] at H
        have LMc28 := Aside0.mk c28
        clear c28
        obtain ⟨y427, hy427⟩ : ∃ y_ : List (S35), y_ = (([] : List (S35)) ++ [(⟨true, wrap64 ((wrap64 (1 - x8_11)) * 96), (⟨#[]⟩ : ByteArray)⟩ : S35)]) := ⟨_, rfl⟩
        replace H : ((skiffref1_Words.f kj11 (wrap64 ((wrap64 (1 - x8_11)) * 96)) t407).bind fun bt430 => (if y427.length + bt430.1.length < 4398046511104 then (some ((y427 ++ bt430.1), 0)) else (none))) = some (r1, r2) := by first | (rw [hy427]; with_reducible exact H) | (have H2_ := (Option.bind_some _ _).symm.trans H; rw [hy427]; with_reducible exact H2_) | (have H2_ := (Option.bind_some _ _).symm.trans H; with_reducible exact H2_) | with_reducible exact H | (rw [hy427]; exact H) | exact H
        have Ny427 := Aside0.mk hy427
        clear hy427
        replace H := Option.bind_eq_some_iff.mp H
        obtain ⟨⟨t430, t431⟩, A290, H⟩ := H
        replace H : (if y427.length + t430.length < 4398046511104 then (some ((y427 ++ t430), 0)) else (none)) = some (r1, r2) := H
        have A29 := Aside0.mk A290
        clear A290
        by_cases c30 : y427.length + t430.length < 4398046511104
        ·rw [if_pos c30] at H
         have LMc30 := Aside0.mk c30
         clear c30
         obtain ⟨y434, hy434⟩ : ∃ y_ : List (S35), y_ = (y427 ++ t430) := ⟨_, rfl⟩
         replace H : (some (y434, 0)) = some (r1, r2) := by first | (rw [hy434]; with_reducible exact H) | (have H2_ := (Option.bind_some _ _).symm.trans H; rw [hy434]; with_reducible exact H2_) | (have H2_ := (Option.bind_some _ _).symm.trans H; with_reducible exact H2_) | with_reducible exact H | (rw [hy434]; exact H) | exact H
         have Ny434 := Aside0.mk hy434
         clear hy434
         simp only [Option.some.injEq, Prod.mk.injEq] at H
         obtain ⟨rfl, rfl⟩ := H
         go_wp2_with (first | ((with_reducible refine gate_callee (f := 65) rfl ?_); refine goesL_ (some 41) rfl rfl Try.func65 (by kernel_rfl) rfl #[.string a0, .int .i64 x8_11] rfl q1_ ?_; (with_reducible refine (skiffref1_FreePlace.calls kj11 a0 x8_11 t417 false t419 _ A20.out).mono ?_); rintro e w31 ⟨rfl, hb⟩; refine ⟨_, rfl, ?_⟩; have n0_ := Aside0.mk (blk_below (g := gb406) (o := .cells #[.int .i64 a1_0, .int .i64 a1_1, .int .i64 a1_2, .int .i64 a1_3] 25 (0, 0)) (by (with_reducible repeat (first | refine blk_drewN ?_ _ | refine blk_drew ?_ | refine blk_alloc ?_ _)); exact BK406.out) hb); have n1_ := Aside0.mk (blk_below (g := gb416) (o := .cells #[.int .i64 t410, .int .i64 t411, .int .i64 t412, .int .i64 t413, .int .i64 t414] 59 (0, 0)) (by (with_reducible repeat (first | refine blk_drewN ?_ _ | refine blk_drew ?_ | refine blk_alloc ?_ _)); exact BK416.out) hb); have n2_ := Aside0.mk (below_step (by repeat (first | (with_reducible first | exact HB.out | apply below_alloc | apply pw_below_drewN | apply below_drew1 | refine below_set ?_ GE406.out | refine below_set ?_ GE416.out) | exact HB.out)) hb); clear BK406; clear BK416; clear HB; have BK406 := n0_; have BK416 := n1_; have HB := n2_; clear n0_ n1_ n2_; (try clear hb); (try clear hb2); (try clear hk); (try clear hi)) | ((with_reducible refine gate_builtin (b := .append) (xs := #[.tmp 50, .tmp 53]) rfl ?_); at_builtin; refine Kd.R_append k35 (w0 := w) w.heap.size rfl (.tmp 50) (.tmp 53) 36 35 (.agg #[(.bool false), (.int .i64 0), (.string ⟨#[]⟩)]) 32 rfl Try.underlying36 info35 rfl (by decide) (by omega) (.slice none 0 0) ([] : List (S35)) (⟨true, wrap64 ((wrap64 (1 - x8_11)) * 96), (⟨#[]⟩ : ByteArray)⟩ : S35) [.bool true, .int .i64 (wrap64 ((wrap64 (1 - x8_11)) * 96)), .string (⟨#[]⟩ : ByteArray)] (fun _ => True) (fun _ => False) rfl rfl ?aP (fun _ hk => hk.elim) ?aF ?aO ?aB ?aS ?aL ?_; (case aP => exact k35_mkM _ _ _ (⟨true, wrap64 ((wrap64 (1 - x8_11)) * 96), (⟨#[]⟩ : ByteArray)⟩ : S35)); (case aB => exact (by repeat (first | (with_reducible first | exact HB.out | apply below_alloc | apply pw_below_drewN | apply below_drew1 | refine below_set ?_ GE406.out | refine below_set ?_ GE416.out) | exact HB.out))); (case aF => exact (fun _ _ => trivial)); (case aO => exact ((Kd.R_nil _ _ _ _ (fun _ => True)))); (case aS => exact (below_size (by repeat (first | (with_reducible first | exact HB.out | apply below_alloc | apply pw_below_drewN | apply below_drew1 | refine below_set ?_ GE406.out | refine below_set ?_ GE416.out) | exact HB.out)))); (case aL => have := LMc28.out; omega); intro v428 w32 ho hb hg hat; rw [← Ny427.out] at ho; have n0_ := Aside0.mk (blk_grown (g := gb406) (o := .cells #[.int .i64 a1_0, .int .i64 a1_1, .int .i64 a1_2, .int .i64 a1_3] 25 (0, 0)) (by (with_reducible repeat (first | refine blk_drewN ?_ _ | refine blk_drew ?_ | refine blk_alloc ?_ _)); exact BK406.out) hg (by simp [Value.ownBlock])); have n1_ := Aside0.mk (blk_grown (g := gb416) (o := .cells #[.int .i64 t410, .int .i64 t411, .int .i64 t412, .int .i64 t413, .int .i64 t414] 59 (0, 0)) (by (with_reducible repeat (first | refine blk_drewN ?_ _ | refine blk_drew ?_ | refine blk_alloc ?_ _)); exact BK416.out) hg (by simp [Value.ownBlock])); have n2_ := Aside0.mk (hb); have n3_ := Aside0.mk (ho); clear BK406; clear BK416; clear HB; have BK406 := n0_; have BK416 := n1_; have HB := n2_; have HO429 := n3_; clear n0_ n1_ n2_ n3_; clear ho hb hg hat) | ((with_reducible refine gate_callee (f := 17) rfl ?_); refine goesL_ (some 58) rfl rfl Try.func17 (by kernel_rfl) rfl #[.int .i64 (wrap64 ((wrap64 (1 - x8_11)) * 96)), .string t407] rfl q1_ ?_; (with_reducible refine (skiffref1_Words.calls kj11 (wrap64 ((wrap64 (1 - x8_11)) * 96)) t407 t430 t431 _ A29.out).mono ?_); rintro e w33 ⟨v432, rfl, ho0, hb⟩; refine ⟨_, rfl, ?_⟩; have n0_ := Aside0.mk (Kd.R_elder' (by (with_reducible repeat (first | apply Kd.R_alloc | apply Kd.R_drewN | apply Kd.R_drew)); exact HO429.out) (Kd.R_base ho0) hb); have n1_ := Aside0.mk (Kd.R_lower (Kd.R_new' ho0 (Kd.R_lt (by (with_reducible repeat (first | apply Kd.R_alloc | apply Kd.R_drewN | apply Kd.R_drew)); exact HO429.out))) (below_size (by repeat (first | (with_reducible first | exact HB.out | apply below_alloc | apply pw_below_drewN | apply below_drew1 | refine below_set ?_ GE406.out | refine below_set ?_ GE416.out) | exact HB.out)))); have n2_ := Aside0.mk (blk_below (g := gb406) (o := .cells #[.int .i64 a1_0, .int .i64 a1_1, .int .i64 a1_2, .int .i64 a1_3] 25 (0, 0)) (by (with_reducible repeat (first | refine blk_drewN ?_ _ | refine blk_drew ?_ | refine blk_alloc ?_ _)); exact BK406.out) hb); have n3_ := Aside0.mk (blk_below (g := gb416) (o := .cells #[.int .i64 t410, .int .i64 t411, .int .i64 t412, .int .i64 t413, .int .i64 t414] 59 (0, 0)) (by (with_reducible repeat (first | refine blk_drewN ?_ _ | refine blk_drew ?_ | refine blk_alloc ?_ _)); exact BK416.out) hb); have n4_ := Aside0.mk (below_step (by repeat (first | (with_reducible first | exact HB.out | apply below_alloc | apply pw_below_drewN | apply below_drew1 | refine below_set ?_ GE406.out | refine below_set ?_ GE416.out) | exact HB.out)) hb); clear HO429; clear BK406; clear BK416; clear HB; have HO429 := n0_; have HO433 := n1_; have BK406 := n2_; have BK416 := n3_; have HB := n4_; clear n0_ n1_ n2_ n3_ n4_; (try clear hb); (try clear hb2); (try clear hk); (try clear hi); (try clear ho0); obtain ⟨Ao35, co35, eo35⟩ := Kd.R_slice HO433.out; subst eo35) | ((with_reducible refine gate_builtin (b := .append) (xs := #[.tmp 61, .tmp 62]) rfl ?_); at_builtin; refine Kd.R_append_rows k35 (w0 := w) w.heap.size rfl (.tmp 61) (.tmp 62) 36 35 (.agg #[(.bool false), (.int .i64 0), (.string ⟨#[]⟩)]) 32 rfl Try.underlying36 info35 rfl (by decide) (by omega) v428 y427 t430 _ _ _ (fun k_ => some k_ ≠ (.slice Ao35 t430.length co35 : Value).ownBlock) (fun _ => False) rfl rfl ?aO ?aR (fun _ _ h => h) (fun _ h => h.elim) ?aF ?aB ?aS ?aL ?_; (case aR => repeat (first | exact (Kd.R_reads' HO433.out).2.2 | (with_reducible refine Kd.C_alloc ?_ _) | (with_reducible refine Kd.C_drewN ?_ _) | (with_reducible refine Kd.C_drew ?_))); (case aB => exact (by repeat (first | (with_reducible first | exact HB.out | apply below_alloc | apply pw_below_drewN | apply below_drew1 | refine below_set ?_ GE406.out | refine below_set ?_ GE416.out) | exact HB.out))); (case aF => exact (fun k_ hk => Kd.fresh' (Kd.R_lt (by (with_reducible repeat (first | apply Kd.R_alloc | apply Kd.R_drewN | apply Kd.R_drew)); exact HO433.out)) k_ hk)); (case aO => exact (by (with_reducible repeat (first | apply Kd.R_alloc | apply Kd.R_drewN | apply Kd.R_drew)); exact Kd.R_mono HO429.out (fun _ hk => hk.2))); (case aS => exact (below_size (by repeat (first | (with_reducible first | exact HB.out | apply below_alloc | apply pw_below_drewN | apply below_drew1 | refine below_set ?_ GE406.out | refine below_set ?_ GE416.out) | exact HB.out)))); (case aL => have := LMc30.out; omega); intro v435 w34 ho hb hg hat; rw [← Ny434.out] at ho; have n0_ := Aside0.mk (blk_grown (g := gb406) (o := .cells #[.int .i64 a1_0, .int .i64 a1_1, .int .i64 a1_2, .int .i64 a1_3] 25 (0, 0)) (by (with_reducible repeat (first | refine blk_drewN ?_ _ | refine blk_drew ?_ | refine blk_alloc ?_ _)); exact BK406.out) hg (Kd.R_ne HO429.out BK406.out (by decide))); have n1_ := Aside0.mk (blk_grown (g := gb416) (o := .cells #[.int .i64 t410, .int .i64 t411, .int .i64 t412, .int .i64 t413, .int .i64 t414] 59 (0, 0)) (by (with_reducible repeat (first | refine blk_drewN ?_ _ | refine blk_drew ?_ | refine blk_alloc ?_ _)); exact BK416.out) hg (Kd.R_ne HO429.out BK416.out (by decide))); have n2_ := Aside0.mk (Kd.R_after (ok := (fun _ => True)) (by (with_reducible repeat (first | apply Kd.R_alloc | apply Kd.R_drewN | apply Kd.R_drew)); exact HO433.out) hg hat); have n3_ := Aside0.mk (hb); have n4_ := Aside0.mk (ho); clear BK406; clear BK416; clear HO433; clear HB; clear HO429; have BK406 := n0_; have BK416 := n1_; have HO433 := n2_; have HB := n3_; have HO436 := n4_; clear n0_ n1_ n2_ n3_ n4_; clear ho hb hg hat))
         go_ret2
         exact ⟨_, by first | rfl | (simp [errW_none, errW_some] <;> rfl) | (simp [*, errW_none, errW_some] <;> rfl), by (with_reducible repeat (first | apply Kd.R_alloc | apply Kd.R_drewN | apply Kd.R_drew)); exact Kd.R_mono HO436.out (fun _ hk => trivial), by repeat (first | (with_reducible first | exact HB.out | apply below_alloc | apply pw_below_drewN | apply below_drew1 | refine below_set ?_ GE406.out | refine below_set ?_ GE416.out) | exact HB.out)⟩
        ·rw [if_neg c30] at H
         exact absurd H (by simp)
       ·rw [if_neg c28] at H
        exact absurd H (by simp)
mutual
def skifflaw5_held.l0 : Nat → ByteArray → List (S35) → Int → Option (ByteArray)
 | 0, _, _, _ => none
 | k + 1, x1, x2, x4 => if x4 < (x2.length : Int) then (if 0 ≤ x4 then ((skiffref1_Do.f k x1 ((rd_T35 x2 x4).f0) ((rd_T35 x2 x4).f1) ((rd_T35 x2 x4).f2)).bind fun bt443 => (skifflaw5_held.l0 k bt443.1 x2 (wrap64 (x4 + 1)))) else (none)) else ((skiffref1_RecordOf.f k x1 0 12).bind fun bt445 => ((skiffref1_Append.f k x1 bt445.1 bt445.2.1 bt445.2.2.1 bt445.2.2.2.1).bind fun bt451 => (skifflaw5_held.l1 k x1 bt451.1 0)))
def skifflaw5_held.l1 : Nat → ByteArray → List (S35) → Int → Option (ByteArray)
 | 0, _, _, _ => none
 | k + 1, x1, x2, x7 => if x7 < (x2.length : Int) then (if 0 ≤ x7 then ((skiffref1_Do.f k x1 ((rd_T35 x2 x7).f0) ((rd_T35 x2 x7).f1) ((rd_T35 x2 x7).f2)).bind fun bt456 => (skifflaw5_held.l1 k bt456.1 x2 (wrap64 (x7 + 1)))) else (none)) else (some x1)
end
def skifflaw5_held.f (k : Nat)  : Option (ByteArray) := (skiffref1_Blank.f k).bind fun t437 => ((skiffref1_Words.f k 192 (⟨#[97, 98, 97, 98, 97, 98, 97, 98, 97, 98, 97, 98]⟩ : ByteArray)).bind fun bt438 => (skifflaw5_held.l0 k t437 bt438.1 0))
set_option maxHeartbeats 8000000 in
set_option maxRecDepth 100000 in
theorem skifflaw5_held.calls (k : Nat)  (r : ByteArray) (w : World) (h : skifflaw5_held.f k  = some r) :
  Calls Try.prog 53 #[] w fun e w' => e = .returned (.string r) ∧ Below w.heap.size w w' := by
 have hu35 := Try.underlying35
 have hu25 := Try.underlying25
 have HB := Aside0.mk (Below.refl w.heap.size w)
 have H : ((skiffref1_Blank.f k).bind fun t437 => ((skiffref1_Words.f k 192 (⟨#[97, 98, 97, 98, 97, 98, 97, 98, 97, 98, 97, 98]⟩ : ByteArray)).bind fun bt438 => (skifflaw5_held.l0 k t437 bt438.1 0))) = some r := h
 clear h
 replace H := Option.bind_eq_some_iff.mp H
 obtain ⟨t437, A10, H⟩ := H
 replace H : ((skiffref1_Words.f k 192 (⟨#[97, 98, 97, 98, 97, 98, 97, 98, 97, 98, 97, 98]⟩ : ByteArray)).bind fun bt438 => (skifflaw5_held.l0 k t437 bt438.1 0)) = some r := H
 have A1 := Aside0.mk A10
 clear A10
 replace H := Option.bind_eq_some_iff.mp H
 obtain ⟨⟨t438, t439⟩, A20, H⟩ := H
 replace H : (skifflaw5_held.l0 k t437 t438 0) = some r := H
 have A2 := Aside0.mk A20
 clear A20
 have H' := Aside0.mk H
 clear H
 go_enter Try.func53, Try.ntmps53
 go_wp2_with (first | ((with_reducible refine gate_callee (f := 27) rfl ?_); refine goesL_ (some 8) rfl rfl Try.func27 (by kernel_rfl) rfl #[] rfl q1_ ?_; (with_reducible refine (skiffref1_Blank.calls k  t437 _ A1.out).mono ?_); rintro e w3 ⟨rfl, hb⟩; refine ⟨_, rfl, ?_⟩; have n0_ := Aside0.mk (below_step (by repeat (first | (with_reducible first | exact HB.out | apply below_alloc | apply pw_below_drewN | apply below_drew1) | exact HB.out)) hb); clear HB; have HB := n0_; clear n0_; (try clear hb); (try clear hb2); (try clear hk); (try clear hi)) | ((with_reducible refine gate_callee (f := 17) rfl ?_); refine goesL_ (some 10) rfl rfl Try.func17 (by kernel_rfl) rfl #[.int .i64 192, .string (⟨#[97, 98, 97, 98, 97, 98, 97, 98, 97, 98, 97, 98]⟩ : ByteArray)] rfl q1_ ?_; (with_reducible refine (skiffref1_Words.calls k 192 (⟨#[97, 98, 97, 98, 97, 98, 97, 98, 97, 98, 97, 98]⟩ : ByteArray) t438 t439 _ A2.out).mono ?_); rintro e w4 ⟨v440, rfl, ho0, hb⟩; refine ⟨_, rfl, ?_⟩; have n0_ := Aside0.mk (Kd.R_lower ho0 (below_size (by repeat (first | (with_reducible first | exact HB.out | apply below_alloc | apply pw_below_drewN | apply below_drew1) | exact HB.out)))); have n1_ := Aside0.mk (below_step (by repeat (first | (with_reducible first | exact HB.out | apply below_alloc | apply pw_below_drewN | apply below_drew1) | exact HB.out)) hb); clear HB; have HO441 := n0_; have HB := n1_; clear n0_ n1_; (try clear hb); (try clear hb2); (try clear hk); (try clear hi); (try clear ho0)))
 go_loopg [1, 4] k (fun kq v1 v4 w' => ∃ (x1_1 : ByteArray) (x4_1 : Int), v1 = .string x1_1 ∧ v4 = .int .i64 x4_1 ∧ Aside0 (skifflaw5_held.l0 kq x1_1 t438 x4_1 = some r) ∧ Aside0 (kq ≤ k) ∧ Aside0 (Kd.R k35 35 w' w.heap.size (fun _ => True) v440 t438) ∧ Aside0 (Below w.heap.size w w'))
 case atStart => exact ⟨(t437), (0), (by first | rfl | (simp; done) | (simp [*]; done)), (by first | rfl | (simp; done) | (simp [*]; done)), H', ⟨Nat.le_refl _⟩, ⟨by (with_reducible repeat (first | apply Kd.R_alloc | apply Kd.R_drewN | apply Kd.R_drew)); exact HO441.out⟩, ⟨by repeat (first | (with_reducible first | exact HB.out | apply below_alloc | apply pw_below_drewN | apply below_drew1) | exact HB.out)⟩⟩
 case round =>
  clear H'
  try clear c1
  try clear c2
  try clear p2
  obtain ⟨x1_1, x4_1, rfl, rfl, HA, HK1, HO_2, HB⟩ := hrel
  cases gk with
  | zero => exact absurd HA.out (by simp [skifflaw5_held.l0])
  | succ k1 =>
   have H := HA.out
   clear HA
   simp only [skifflaw5_held.l0] at H
   by_cases c5 : x4_1 < (t438.length : Int)
   ·rw [if_pos c5] at H
    have c5b0 : decide (x4_1 < (t438.length : Int)) = true := decide_eq_true c5
    clear c5
    by_cases c6 : 0 ≤ x4_1
    ·rw [if_pos c6] at H
     have c6b0 : decide (0 ≤ x4_1) = true := decide_eq_true c6
     clear c6
     replace H := Option.bind_eq_some_iff.mp H
     obtain ⟨⟨t443, t444⟩, A70, H⟩ := H
     replace H : (skifflaw5_held.l0 k1 t443 t438 (wrap64 (x4_1 + 1))) = some r := H
     have A7 := Aside0.mk A70
     clear A70
     have H' := Aside0.mk H
     clear H
     obtain ⟨Ao8, co8, eo8⟩ := Kd.R_slice HO_2.out
     subst eo8
     have p442 : 0 ≤ (x4_1 : Int) := of_decide_eq_true (by first | (with_reducible assumption) | assumption)
     have q442 : x4_1 < (t438.length : Int) := of_decide_eq_true (by first | (with_reducible assumption) | assumption)
     obtain ⟨ad442, e442, hx442_0, hx442_1, hx442_2⟩ := at_T35 (Kd.R_reads' HO_2.out).2.2 x4_1 p442 q442
     cases e442
     replace p442 := eq_true p442
     replace q442 := eq_true q442
     go_wp2_with (first | ((with_reducible refine gate_callee (f := 19) rfl ?_); refine goesL_ (some 25) rfl rfl Try.func19 (by kernel_rfl) rfl #[.string x1_1, .agg #[.bool ((rd_T35 t438 x4_1).f0), .int .i64 ((rd_T35 t438 x4_1).f1), .string ((rd_T35 t438 x4_1).f2)]] rfl q1_ ?_; (with_reducible refine (skiffref1_Do.calls k1 x1_1 ((rd_T35 t438 x4_1).f0) ((rd_T35 t438 x4_1).f1) ((rd_T35 t438 x4_1).f2) t443 t444 _ A7.out).mono ?_); rintro e w9 ⟨rfl, hb⟩; refine ⟨_, rfl, ?_⟩; have n0_ := Aside0.mk (Kd.R_below (by (with_reducible repeat (first | apply Kd.R_alloc | apply Kd.R_drewN | apply Kd.R_drew)); exact HO_2.out) hb); have n1_ := Aside0.mk (below_step (by repeat (first | (with_reducible first | exact HB.out | apply below_alloc | apply pw_below_drewN | apply below_drew1) | exact HB.out)) hb); clear HO_2; clear HB; have HO_2 := n0_; have HB := n1_; clear n0_ n1_; (try clear hb); (try clear hb2); (try clear hk); (try clear hi)))
     go_roundg k1
     case measure => have := HK1.out; omega
     case rel => exact ⟨(t443), (wrap64 (x4_1 + 1)), (by first | rfl | (simp; done) | (simp [*]; done)), (by first | rfl | (simp; done) | (simp [*]; done)), H', ⟨by have := HK1.out; omega⟩, ⟨by (with_reducible repeat (first | apply Kd.R_alloc | apply Kd.R_drewN | apply Kd.R_drew)); exact HO_2.out⟩, ⟨by repeat (first | (with_reducible first | exact HB.out | apply below_alloc | apply pw_below_drewN | apply below_drew1) | exact HB.out)⟩⟩
    ·rw [if_neg c6] at H
     exact absurd H (by simp)
   ·rw [if_neg c5] at H
    have c5b0 : decide (x4_1 < (t438.length : Int)) = false := decide_eq_false c5
    clear c5
    replace H := Option.bind_eq_some_iff.mp H
    obtain ⟨⟨t445, t446, t447, t448, t449⟩, A100, H⟩ := H
    replace H : ((skiffref1_Append.f k1 x1_1 t445 t446 t447 t448).bind fun bt451 => (skifflaw5_held.l1 k1 x1_1 bt451.1 0)) = some r := H
    have A10 := Aside0.mk A100
    clear A100
    replace H := Option.bind_eq_some_iff.mp H
    obtain ⟨⟨t451, t454⟩, A110, H⟩ := H
    replace H : (skifflaw5_held.l1 k1 x1_1 t451 0) = some r := H
    have A11 := Aside0.mk A110
    clear A110
    have H' := Aside0.mk H
    clear H
    obtain ⟨Ao12, co12, eo12⟩ := Kd.R_slice HO_2.out
    subst eo12
    go_wp2_with (first | ((with_reducible refine gate_callee (f := 40) rfl ?_); refine goesL_ (some 30) rfl rfl Try.func40 (by kernel_rfl) rfl #[.string x1_1, .int .i64 0, .int .i64 12] rfl q1_ ?_; (with_reducible refine (skiffref1_RecordOf.calls k1 x1_1 0 12 t445 t446 t447 t448 t449 _ A10.out).mono ?_); rintro e w13 ⟨rfl, hb⟩; refine ⟨_, rfl, ?_⟩; have n0_ := Aside0.mk (Kd.R_below (by (with_reducible repeat (first | apply Kd.R_alloc | apply Kd.R_drewN | apply Kd.R_drew)); exact HO_2.out) hb); have n1_ := Aside0.mk (below_step (by repeat (first | (with_reducible first | exact HB.out | apply below_alloc | apply pw_below_drewN | apply below_drew1) | exact HB.out)) hb); clear HO_2; clear HB; have HO_2 := n0_; have HB := n1_; clear n0_ n1_; (try clear hb); (try clear hb2); (try clear hk); (try clear hi)) | ((with_reducible refine gate_dst (N := 5) rfl ?_); refine box_event ?hg (N := 5) ?hd (cs := #[.int .i64 0, .int .i64 0, .int .i64 0, .int .i64 0]) (t := 25) ?hr ?_; (case hd => rfl); (case hg => rfl); (case hr => first | (go_simp; done) | (go_simp; rfl)); intro gb450 hg w14 hbox hb; have n0_ := Aside0.mk (Kd.R_below (by (with_reducible repeat (first | apply Kd.R_alloc | apply Kd.R_drewN | apply Kd.R_drew)); exact HO_2.out) hb); have n1_ := Aside0.mk (below_step (by repeat (first | (with_reducible first | exact HB.out | apply below_alloc | apply pw_below_drewN | apply below_drew1) | exact HB.out)) hb); have n2_ := Aside0.mk (hbox); have n3_ := Aside0.mk ((by rw [hg]; exact (below_size (by repeat (first | (with_reducible first | exact HB.out | apply below_alloc | apply pw_below_drewN | apply below_drew1) | exact HB.out))) : w.heap.size ≤ gb450)); have n4_ := Aside0.mk ((by rw [hg]; exact (below_size (by repeat (first | (with_reducible first | exact HB.out | apply below_alloc | apply pw_below_drewN | apply below_drew1) | exact HB.out))) : w.heap.size ≤ gb450)); clear HO_2; clear HB; have HO_2 := n0_; have HB := n1_; have BK450 := n2_; have GW450 := n3_; have GE450 := n4_; clear n0_ n1_ n2_ n3_ n4_; clear hb hbox hg; have hcz15_0 : w14.cell? ⟨gb450, 0, none⟩ = some (.int .i64 0) := (blk_cell BK450.out 0).trans rfl; have hcz15_1 : w14.cell? ⟨gb450, 1, none⟩ = some (.int .i64 0) := (blk_cell BK450.out 1).trans rfl; have hcz15_2 : w14.cell? ⟨gb450, 2, none⟩ = some (.int .i64 0) := (blk_cell BK450.out 2).trans rfl; have hcz15_3 : w14.cell? ⟨gb450, 3, none⟩ = some (.int .i64 0) := (blk_cell BK450.out 3).trans rfl; have hfz15_0 := blk_frozen BK450.out 0; have hfz15_1 := blk_frozen BK450.out 1; have hfz15_2 := blk_frozen BK450.out 2; have hfz15_3 := blk_frozen BK450.out 3) | ((with_reducible refine gate_callee (f := 41) rfl ?_); refine goesL_ (some 36) rfl rfl Try.func41 (by kernel_rfl) rfl #[.string x1_1, .agg #[.int .i64 t445, .int .i64 t446, .int .i64 t447, .int .i64 t448]] rfl q1_ ?_; (with_reducible refine (skiffref1_Append.calls k1 x1_1 t445 t446 t447 t448 t451 t454 _ A11.out).mono ?_); rintro e w16 ⟨v452, rfl, ho0, hb⟩; refine ⟨_, rfl, ?_⟩; have n0_ := Aside0.mk (Kd.R_elder' (by (with_reducible repeat (first | apply Kd.R_alloc | apply Kd.R_drewN | apply Kd.R_drew)); exact (Kd.R_mono (Kd.R_far (p := ⟨gb450, 3, none⟩) (Kd.R_far (p := ⟨gb450, 2, none⟩) (Kd.R_far (p := ⟨gb450, 1, none⟩) (Kd.R_far (p := ⟨gb450, 0, none⟩) (Kd.R_types HO_2.out BK450.out (by decide)) (fun _ hk => hk.2) (.int .i64 t445)) (fun _ hk => hk.2) (.int .i64 t446)) (fun _ hk => hk.2) (.int .i64 t447)) (fun _ hk => hk.2) (.int .i64 t448)) (fun _ h_ => h_.1))) (Kd.R_base ho0) hb); have n1_ := Aside0.mk (Kd.R_lower (Kd.R_new' ho0 (Kd.R_lt (by (with_reducible repeat (first | apply Kd.R_alloc | apply Kd.R_drewN | apply Kd.R_drew)); exact (Kd.R_mono (Kd.R_far (p := ⟨gb450, 3, none⟩) (Kd.R_far (p := ⟨gb450, 2, none⟩) (Kd.R_far (p := ⟨gb450, 1, none⟩) (Kd.R_far (p := ⟨gb450, 0, none⟩) (Kd.R_types HO_2.out BK450.out (by decide)) (fun _ hk => hk.2) (.int .i64 t445)) (fun _ hk => hk.2) (.int .i64 t446)) (fun _ hk => hk.2) (.int .i64 t447)) (fun _ hk => hk.2) (.int .i64 t448)) (fun _ h_ => h_.1))))) (below_size (by repeat (first | (with_reducible first | exact HB.out | apply below_alloc | apply pw_below_drewN | apply below_drew1 | refine below_set ?_ GE450.out) | exact HB.out)))); have n2_ := Aside0.mk (blk_below (g := gb450) (o := .cells #[.int .i64 t445, .int .i64 t446, .int .i64 t447, .int .i64 t448] 25 (0, 0)) (by (with_reducible repeat (first | refine blk_drewN ?_ _ | refine blk_drew ?_ | refine blk_alloc ?_ _)); refine blk_put (cs := #[.int .i64 t445, .int .i64 t446, .int .i64 t447, .int .i64 0]) ?_ 3 _ rfl; (with_reducible repeat (first | refine blk_drewN ?_ _ | refine blk_drew ?_ | refine blk_alloc ?_ _)); refine blk_put (cs := #[.int .i64 t445, .int .i64 t446, .int .i64 0, .int .i64 0]) ?_ 2 _ rfl; (with_reducible repeat (first | refine blk_drewN ?_ _ | refine blk_drew ?_ | refine blk_alloc ?_ _)); refine blk_put (cs := #[.int .i64 t445, .int .i64 0, .int .i64 0, .int .i64 0]) ?_ 1 _ rfl; (with_reducible repeat (first | refine blk_drewN ?_ _ | refine blk_drew ?_ | refine blk_alloc ?_ _)); refine blk_put (cs := #[.int .i64 0, .int .i64 0, .int .i64 0, .int .i64 0]) ?_ 0 _ rfl; (with_reducible repeat (first | refine blk_drewN ?_ _ | refine blk_drew ?_ | refine blk_alloc ?_ _)); exact BK450.out) hb); have n3_ := Aside0.mk (below_step (by repeat (first | (with_reducible first | exact HB.out | apply below_alloc | apply pw_below_drewN | apply below_drew1 | refine below_set ?_ GE450.out) | exact HB.out)) hb); clear HO_2; clear BK450; clear HB; have HO_2 := n0_; have HO453 := n1_; have BK450 := n2_; have HB := n3_; clear n0_ n1_ n2_ n3_; (try clear hb); (try clear hb2); (try clear hk); (try clear hi); (try clear ho0)))
    go_loopg [1, 7] k1 (fun kq v1 v7 w' => ∃ (x1_2 : ByteArray) (x7_2 : Int), v1 = .string x1_2 ∧ v7 = .int .i64 x7_2 ∧ Aside0 (skifflaw5_held.l1 kq x1_2 t451 x7_2 = some r) ∧ Aside0 (kq ≤ k1) ∧ Aside0 (Kd.R k35 35 w' w.heap.size (fun _ => True) v452 t451) ∧ Aside0 (w'.heap[gb450]? = some (.cells #[.int .i64 t445, .int .i64 t446, .int .i64 t447, .int .i64 t448] 25 (0, 0))) ∧ Aside0 (Below w.heap.size w w'))
    case atStart => exact ⟨(x1_1), (0), (by first | rfl | (simp; done) | (simp [*]; done)), (by first | rfl | (simp; done) | (simp [*]; done)), H', ⟨Nat.le_refl _⟩, ⟨by (with_reducible repeat (first | apply Kd.R_alloc | apply Kd.R_drewN | apply Kd.R_drew)); exact Kd.R_mono HO453.out (fun _ hk => trivial)⟩, ⟨by (with_reducible repeat (first | refine blk_drewN ?_ _ | refine blk_drew ?_ | refine blk_alloc ?_ _)); exact BK450.out⟩, ⟨by repeat (first | (with_reducible first | exact HB.out | apply below_alloc | apply pw_below_drewN | apply below_drew1 | refine below_set ?_ GE450.out) | exact HB.out)⟩⟩
    case round =>
     clear H'
     try clear c1
     try clear c2
     try clear p2
     try clear c4
     try clear p4
     try clear q4
     try clear hx4
     try clear c5
     try clear c5b0
     try clear c6
     try clear c6b0
     try clear p6
     try clear hcz15_0
     try clear hcz15_1
     try clear hcz15_2
     try clear hcz15_3
     try clear hfz15_0
     try clear hfz15_1
     try clear hfz15_2
     try clear hfz15_3
     try clear hx442_0
     try clear hx442_1
     try clear hx442_2
     try clear p2
     try clear p442
     try clear q442
     obtain ⟨x1_2, x7_2, rfl, rfl, HA, HK2, HO_2, BK450, HB⟩ := hrel
     cases gk with
     | zero => exact absurd HA.out (by simp [skifflaw5_held.l1])
     | succ k2 =>
      have H := HA.out
      clear HA
      simp only [skifflaw5_held.l1] at H
      by_cases c17 : x7_2 < (t451.length : Int)
      ·rw [if_pos c17] at H
       have c17b0 : decide (x7_2 < (t451.length : Int)) = true := decide_eq_true c17
       clear c17
       by_cases c18 : 0 ≤ x7_2
       ·rw [if_pos c18] at H
        have c18b0 : decide (0 ≤ x7_2) = true := decide_eq_true c18
        clear c18
        replace H := Option.bind_eq_some_iff.mp H
        obtain ⟨⟨t456, t457⟩, A190, H⟩ := H
        replace H : (skifflaw5_held.l1 k2 t456 t451 (wrap64 (x7_2 + 1))) = some r := H
        have A19 := Aside0.mk A190
        clear A190
        have H' := Aside0.mk H
        clear H
        obtain ⟨Ao20, co20, eo20⟩ := Kd.R_slice HO_2.out
        subst eo20
        have p455 : 0 ≤ (x7_2 : Int) := of_decide_eq_true (by first | (with_reducible assumption) | assumption)
        have q455 : x7_2 < (t451.length : Int) := of_decide_eq_true (by first | (with_reducible assumption) | assumption)
        obtain ⟨ad455, e455, hx455_0, hx455_1, hx455_2⟩ := at_T35 (Kd.R_reads' HO_2.out).2.2 x7_2 p455 q455
        cases e455
        replace p455 := eq_true p455
        replace q455 := eq_true q455
        go_wp2_with (first | ((with_reducible refine gate_callee (f := 19) rfl ?_); refine goesL_ (some 51) rfl rfl Try.func19 (by kernel_rfl) rfl #[.string x1_2, .agg #[.bool ((rd_T35 t451 x7_2).f0), .int .i64 ((rd_T35 t451 x7_2).f1), .string ((rd_T35 t451 x7_2).f2)]] rfl q1_ ?_; (with_reducible refine (skiffref1_Do.calls k2 x1_2 ((rd_T35 t451 x7_2).f0) ((rd_T35 t451 x7_2).f1) ((rd_T35 t451 x7_2).f2) t456 t457 _ A19.out).mono ?_); rintro e w21 ⟨rfl, hb⟩; refine ⟨_, rfl, ?_⟩; have n0_ := Aside0.mk (Kd.R_below (by (with_reducible repeat (first | apply Kd.R_alloc | apply Kd.R_drewN | apply Kd.R_drew)); exact HO_2.out) hb); have n1_ := Aside0.mk (blk_below (g := gb450) (o := .cells #[.int .i64 t445, .int .i64 t446, .int .i64 t447, .int .i64 t448] 25 (0, 0)) (by (with_reducible repeat (first | refine blk_drewN ?_ _ | refine blk_drew ?_ | refine blk_alloc ?_ _)); exact BK450.out) hb); have n2_ := Aside0.mk (below_step (by repeat (first | (with_reducible first | exact HB.out | apply below_alloc | apply pw_below_drewN | apply below_drew1 | refine below_set ?_ GE450.out) | exact HB.out)) hb); clear HO_2; clear BK450; clear HB; have HO_2 := n0_; have BK450 := n1_; have HB := n2_; clear n0_ n1_ n2_; (try clear hb); (try clear hb2); (try clear hk); (try clear hi)))
        go_roundg k2
        case measure => have := HK1.out; have := HK2.out; omega
        case rel => exact ⟨(t456), (wrap64 (x7_2 + 1)), (by first | rfl | (simp; done) | (simp [*]; done)), (by first | rfl | (simp; done) | (simp [*]; done)), H', ⟨by have := HK1.out; have := HK2.out; omega⟩, ⟨by (with_reducible repeat (first | apply Kd.R_alloc | apply Kd.R_drewN | apply Kd.R_drew)); exact HO_2.out⟩, ⟨by (with_reducible repeat (first | refine blk_drewN ?_ _ | refine blk_drew ?_ | refine blk_alloc ?_ _)); exact BK450.out⟩, ⟨by repeat (first | (with_reducible first | exact HB.out | apply below_alloc | apply pw_below_drewN | apply below_drew1 | refine below_set ?_ GE450.out) | exact HB.out)⟩⟩
       ·rw [if_neg c18] at H
        exact absurd H (by simp)
      ·rw [if_neg c17] at H
       have c17b0 : decide (x7_2 < (t451.length : Int)) = false := decide_eq_false c17
       clear c17
       obtain rfl := Option.some.inj H
       obtain ⟨Ao22, co22, eo22⟩ := Kd.R_slice HO_2.out
       subst eo22
       go_wp2
       go_ret
       exact ⟨by first | rfl | (simp [errW_none, errW_some] <;> rfl) | (simp [*, errW_none, errW_some] <;> rfl), by repeat (first | (with_reducible first | exact HB.out | apply below_alloc | apply pw_below_drewN | apply below_drew1 | refine below_set ?_ GE450.out) | exact HB.out)⟩
def skifflaw5_awake.f (k : Nat)  : Option (Bool) := (skifflaw5_held.f k).bind fun t458 => ((journal_Scan.f k t458).bind fun bt459 => ((skifflaw5_held.f k).bind fun t463 => ((journal_Free.f k t463 0).bind fun bt464 => ((skifflaw5_held.f k).bind fun t467 => ((journal_Free.f k t467 2).bind fun bt468 => ((journal_Scan.f k (⟨#[]⟩ : ByteArray)).bind fun bt471 => (if (bt459.1.length : Int) = 1 then (if 0 < (bt459.1.length : Int) then (if ((rd_T59 bt459.1 0).f0) = 0 then (if ((rd_T59 bt459.1 0).f1.f0) = 1 then (if ((rd_T59 bt459.1 0).f1.f2) = 12 then ((skifflaw0_Num.f bt459.2).bind fun t478 => (if t478 = 0 then (if bt464.1 = 24 then (if bt464.2.1 = true then ((skifflaw0_Num.f bt464.2.2).bind fun t479 => (if t479 = 0 then ((skifflaw0_Num.f bt468.2.2).bind fun t480 => (if t480 = 500 then ((skifflaw0_Num.f bt471.2).bind fun t481 => (some (t481 == 500))) else (none))) else (none))) else (none)) else (none)) else (none))) else (none)) else (none)) else (none)) else (none)) else (none))))))))
set_option maxHeartbeats 8000000 in
set_option maxRecDepth 100000 in
theorem skifflaw5_awake.calls (k : Nat)  (r : Bool) (w : World) (h : skifflaw5_awake.f k  = some r) :
  Calls Try.prog 28 #[] w fun e w' => e = .returned (.bool r) ∧ Below w.heap.size w w' := by
 have HB := Aside0.mk (Below.refl w.heap.size w)
 have H : ((skifflaw5_held.f k).bind fun t458 => ((journal_Scan.f k t458).bind fun bt459 => ((skifflaw5_held.f k).bind fun t463 => ((journal_Free.f k t463 0).bind fun bt464 => ((skifflaw5_held.f k).bind fun t467 => ((journal_Free.f k t467 2).bind fun bt468 => ((journal_Scan.f k (⟨#[]⟩ : ByteArray)).bind fun bt471 => (if (bt459.1.length : Int) = 1 then (if 0 < (bt459.1.length : Int) then (if ((rd_T59 bt459.1 0).f0) = 0 then (if ((rd_T59 bt459.1 0).f1.f0) = 1 then (if ((rd_T59 bt459.1 0).f1.f2) = 12 then ((skifflaw0_Num.f bt459.2).bind fun t478 => (if t478 = 0 then (if bt464.1 = 24 then (if bt464.2.1 = true then ((skifflaw0_Num.f bt464.2.2).bind fun t479 => (if t479 = 0 then ((skifflaw0_Num.f bt468.2.2).bind fun t480 => (if t480 = 500 then ((skifflaw0_Num.f bt471.2).bind fun t481 => (some (t481 == 500))) else (none))) else (none))) else (none)) else (none)) else (none))) else (none)) else (none)) else (none)) else (none)) else (none))))))))) = some r := h
 clear h
 replace H := Option.bind_eq_some_iff.mp H
 obtain ⟨t458, A10, H⟩ := H
 replace H : ((journal_Scan.f k t458).bind fun bt459 => ((skifflaw5_held.f k).bind fun t463 => ((journal_Free.f k t463 0).bind fun bt464 => ((skifflaw5_held.f k).bind fun t467 => ((journal_Free.f k t467 2).bind fun bt468 => ((journal_Scan.f k (⟨#[]⟩ : ByteArray)).bind fun bt471 => (if (bt459.1.length : Int) = 1 then (if 0 < (bt459.1.length : Int) then (if ((rd_T59 bt459.1 0).f0) = 0 then (if ((rd_T59 bt459.1 0).f1.f0) = 1 then (if ((rd_T59 bt459.1 0).f1.f2) = 12 then ((skifflaw0_Num.f bt459.2).bind fun t478 => (if t478 = 0 then (if bt464.1 = 24 then (if bt464.2.1 = true then ((skifflaw0_Num.f bt464.2.2).bind fun t479 => (if t479 = 0 then ((skifflaw0_Num.f bt468.2.2).bind fun t480 => (if t480 = 500 then ((skifflaw0_Num.f bt471.2).bind fun t481 => (some (t481 == 500))) else (none))) else (none))) else (none)) else (none)) else (none))) else (none)) else (none)) else (none)) else (none)) else (none)))))))) = some r := H
 have A1 := Aside0.mk A10
 clear A10
 replace H := Option.bind_eq_some_iff.mp H
 obtain ⟨⟨t459, t460⟩, A20, H⟩ := H
 replace H : ((skifflaw5_held.f k).bind fun t463 => ((journal_Free.f k t463 0).bind fun bt464 => ((skifflaw5_held.f k).bind fun t467 => ((journal_Free.f k t467 2).bind fun bt468 => ((journal_Scan.f k (⟨#[]⟩ : ByteArray)).bind fun bt471 => (if (t459.length : Int) = 1 then (if 0 < (t459.length : Int) then (if ((rd_T59 t459 0).f0) = 0 then (if ((rd_T59 t459 0).f1.f0) = 1 then (if ((rd_T59 t459 0).f1.f2) = 12 then ((skifflaw0_Num.f t460).bind fun t478 => (if t478 = 0 then (if bt464.1 = 24 then (if bt464.2.1 = true then ((skifflaw0_Num.f bt464.2.2).bind fun t479 => (if t479 = 0 then ((skifflaw0_Num.f bt468.2.2).bind fun t480 => (if t480 = 500 then ((skifflaw0_Num.f bt471.2).bind fun t481 => (some (t481 == 500))) else (none))) else (none))) else (none)) else (none)) else (none))) else (none)) else (none)) else (none)) else (none)) else (none))))))) = some r := H
 have A2 := Aside0.mk A20
 clear A20
 replace H := Option.bind_eq_some_iff.mp H
 obtain ⟨t463, A30, H⟩ := H
 replace H : ((journal_Free.f k t463 0).bind fun bt464 => ((skifflaw5_held.f k).bind fun t467 => ((journal_Free.f k t467 2).bind fun bt468 => ((journal_Scan.f k (⟨#[]⟩ : ByteArray)).bind fun bt471 => (if (t459.length : Int) = 1 then (if 0 < (t459.length : Int) then (if ((rd_T59 t459 0).f0) = 0 then (if ((rd_T59 t459 0).f1.f0) = 1 then (if ((rd_T59 t459 0).f1.f2) = 12 then ((skifflaw0_Num.f t460).bind fun t478 => (if t478 = 0 then (if bt464.1 = 24 then (if bt464.2.1 = true then ((skifflaw0_Num.f bt464.2.2).bind fun t479 => (if t479 = 0 then ((skifflaw0_Num.f bt468.2.2).bind fun t480 => (if t480 = 500 then ((skifflaw0_Num.f bt471.2).bind fun t481 => (some (t481 == 500))) else (none))) else (none))) else (none)) else (none)) else (none))) else (none)) else (none)) else (none)) else (none)) else (none)))))) = some r := H
 have A3 := Aside0.mk A30
 clear A30
 replace H := Option.bind_eq_some_iff.mp H
 obtain ⟨⟨t464, t465, t466⟩, A40, H⟩ := H
 replace H : ((skifflaw5_held.f k).bind fun t467 => ((journal_Free.f k t467 2).bind fun bt468 => ((journal_Scan.f k (⟨#[]⟩ : ByteArray)).bind fun bt471 => (if (t459.length : Int) = 1 then (if 0 < (t459.length : Int) then (if ((rd_T59 t459 0).f0) = 0 then (if ((rd_T59 t459 0).f1.f0) = 1 then (if ((rd_T59 t459 0).f1.f2) = 12 then ((skifflaw0_Num.f t460).bind fun t478 => (if t478 = 0 then (if t464 = 24 then (if t465 = true then ((skifflaw0_Num.f t466).bind fun t479 => (if t479 = 0 then ((skifflaw0_Num.f bt468.2.2).bind fun t480 => (if t480 = 500 then ((skifflaw0_Num.f bt471.2).bind fun t481 => (some (t481 == 500))) else (none))) else (none))) else (none)) else (none)) else (none))) else (none)) else (none)) else (none)) else (none)) else (none))))) = some r := H
 have A4 := Aside0.mk A40
 clear A40
 replace H := Option.bind_eq_some_iff.mp H
 obtain ⟨t467, A50, H⟩ := H
 replace H : ((journal_Free.f k t467 2).bind fun bt468 => ((journal_Scan.f k (⟨#[]⟩ : ByteArray)).bind fun bt471 => (if (t459.length : Int) = 1 then (if 0 < (t459.length : Int) then (if ((rd_T59 t459 0).f0) = 0 then (if ((rd_T59 t459 0).f1.f0) = 1 then (if ((rd_T59 t459 0).f1.f2) = 12 then ((skifflaw0_Num.f t460).bind fun t478 => (if t478 = 0 then (if t464 = 24 then (if t465 = true then ((skifflaw0_Num.f t466).bind fun t479 => (if t479 = 0 then ((skifflaw0_Num.f bt468.2.2).bind fun t480 => (if t480 = 500 then ((skifflaw0_Num.f bt471.2).bind fun t481 => (some (t481 == 500))) else (none))) else (none))) else (none)) else (none)) else (none))) else (none)) else (none)) else (none)) else (none)) else (none)))) = some r := H
 have A5 := Aside0.mk A50
 clear A50
 replace H := Option.bind_eq_some_iff.mp H
 obtain ⟨⟨t468, t469, t470⟩, A60, H⟩ := H
 replace H : ((journal_Scan.f k (⟨#[]⟩ : ByteArray)).bind fun bt471 => (if (t459.length : Int) = 1 then (if 0 < (t459.length : Int) then (if ((rd_T59 t459 0).f0) = 0 then (if ((rd_T59 t459 0).f1.f0) = 1 then (if ((rd_T59 t459 0).f1.f2) = 12 then ((skifflaw0_Num.f t460).bind fun t478 => (if t478 = 0 then (if t464 = 24 then (if t465 = true then ((skifflaw0_Num.f t466).bind fun t479 => (if t479 = 0 then ((skifflaw0_Num.f t470).bind fun t480 => (if t480 = 500 then ((skifflaw0_Num.f bt471.2).bind fun t481 => (some (t481 == 500))) else (none))) else (none))) else (none)) else (none)) else (none))) else (none)) else (none)) else (none)) else (none)) else (none))) = some r := H
 have A6 := Aside0.mk A60
 clear A60
 replace H := Option.bind_eq_some_iff.mp H
 obtain ⟨⟨t471, t472⟩, A70, H⟩ := H
 replace H : (if (t459.length : Int) = 1 then (if 0 < (t459.length : Int) then (if ((rd_T59 t459 0).f0) = 0 then (if ((rd_T59 t459 0).f1.f0) = 1 then (if ((rd_T59 t459 0).f1.f2) = 12 then ((skifflaw0_Num.f t460).bind fun t478 => (if t478 = 0 then (if t464 = 24 then (if t465 = true then ((skifflaw0_Num.f t466).bind fun t479 => (if t479 = 0 then ((skifflaw0_Num.f t470).bind fun t480 => (if t480 = 500 then ((skifflaw0_Num.f t472).bind fun t481 => (some (t481 == 500))) else (none))) else (none))) else (none)) else (none)) else (none))) else (none)) else (none)) else (none)) else (none)) else (none)) = some r := H
 have A7 := Aside0.mk A70
 clear A70
 by_cases c8 : (t459.length : Int) = 1
 ·rw [if_pos c8] at H
  have c8b0 : ((t459.length : Int) == 1) = true := beq_iff_eq.mpr c8
  have c8b1 : ((t459.length : Int) != 1) = false := bne_eq_false_iff_eq.mpr c8
  clear c8
  by_cases c9 : 0 < (t459.length : Int)
  ·rw [if_pos c9] at H
   have c9b0 : decide (0 < (t459.length : Int)) = true := decide_eq_true c9
   have c9b1 : decide (0 < t459.length) = true := decide_eq_true (by omega)
   clear c9
   by_cases c10 : ((rd_T59 t459 0).f0) = 0
   ·rw [if_pos c10] at H
    have c10b0 : (((rd_T59 t459 0).f0) == 0) = true := beq_iff_eq.mpr c10
    have c10b1 : (((rd_T59 t459 0).f0) != 0) = false := bne_eq_false_iff_eq.mpr c10
    clear c10
    by_cases c11 : ((rd_T59 t459 0).f1.f0) = 1
    ·rw [if_pos c11] at H
     have c11b0 : (((rd_T59 t459 0).f1.f0) == 1) = true := beq_iff_eq.mpr c11
     have c11b1 : (((rd_T59 t459 0).f1.f0) != 1) = false := bne_eq_false_iff_eq.mpr c11
     clear c11
     by_cases c12 : ((rd_T59 t459 0).f1.f2) = 12
     ·rw [if_pos c12] at H
      have c12b0 : (((rd_T59 t459 0).f1.f2) == 12) = true := beq_iff_eq.mpr c12
      have c12b1 : (((rd_T59 t459 0).f1.f2) != 12) = false := bne_eq_false_iff_eq.mpr c12
      clear c12
      replace H := Option.bind_eq_some_iff.mp H
      obtain ⟨t478, A130, H⟩ := H
      replace H : (if t478 = 0 then (if t464 = 24 then (if t465 = true then ((skifflaw0_Num.f t466).bind fun t479 => (if t479 = 0 then ((skifflaw0_Num.f t470).bind fun t480 => (if t480 = 500 then ((skifflaw0_Num.f t472).bind fun t481 => (some (t481 == 500))) else (none))) else (none))) else (none)) else (none)) else (none)) = some r := H
      have A13 := Aside0.mk A130
      clear A130
      by_cases c14 : t478 = 0
      ·rw [if_pos c14] at H
       have c14b0 : (t478 == 0) = true := beq_iff_eq.mpr c14
       have c14b1 : (t478 != 0) = false := bne_eq_false_iff_eq.mpr c14
       clear c14
       by_cases c15 : t464 = 24
       ·rw [if_pos c15] at H
        have c15b0 : (t464 == 24) = true := beq_iff_eq.mpr c15
        have c15b1 : (t464 != 24) = false := bne_eq_false_iff_eq.mpr c15
        clear c15
        by_cases c16 : t465 = true
        ·subst c16
         have H1 : ((skifflaw0_Num.f t466).bind fun t479 => (if t479 = 0 then ((skifflaw0_Num.f t470).bind fun t480 => (if t480 = 500 then ((skifflaw0_Num.f t472).bind fun t481 => (some (t481 == 500))) else (none))) else (none))) = some r := by rw [if_pos rfl] at H; exact H
         clear H
         have H := H1
         clear H1
         replace H := Option.bind_eq_some_iff.mp H
         obtain ⟨t479, A170, H⟩ := H
         replace H : (if t479 = 0 then ((skifflaw0_Num.f t470).bind fun t480 => (if t480 = 500 then ((skifflaw0_Num.f t472).bind fun t481 => (some (t481 == 500))) else (none))) else (none)) = some r := H
         have A17 := Aside0.mk A170
         clear A170
         by_cases c18 : t479 = 0
         ·rw [if_pos c18] at H
          have c18b0 : (t479 == 0) = true := beq_iff_eq.mpr c18
          have c18b1 : (t479 != 0) = false := bne_eq_false_iff_eq.mpr c18
          clear c18
          replace H := Option.bind_eq_some_iff.mp H
          obtain ⟨t480, A190, H⟩ := H
          replace H : (if t480 = 500 then ((skifflaw0_Num.f t472).bind fun t481 => (some (t481 == 500))) else (none)) = some r := H
          have A19 := Aside0.mk A190
          clear A190
          by_cases c20 : t480 = 500
          ·rw [if_pos c20] at H
           have c20b0 : (t480 == 500) = true := beq_iff_eq.mpr c20
           have c20b1 : (t480 != 500) = false := bne_eq_false_iff_eq.mpr c20
           clear c20
           replace H := Option.bind_eq_some_iff.mp H
           obtain ⟨t481, A210, H⟩ := H
           replace H : (some (t481 == 500)) = some r := H
           have A21 := Aside0.mk A210
           clear A210
           obtain rfl := Option.some.inj H
           go_enter Try.func28, Try.ntmps28
           go_wp2_with (first | ((with_reducible refine gate_callee (f := 53) rfl ?_); refine goesL_ (some 12) rfl rfl Try.func53 (by kernel_rfl) rfl #[] rfl q1_ ?_; (with_reducible refine (skifflaw5_held.calls k  t458 _ A1.out).mono ?_); rintro e w22 ⟨rfl, hb⟩; refine ⟨_, rfl, ?_⟩; have n0_ := Aside0.mk (below_step (by repeat (first | (with_reducible first | exact HB.out | apply below_alloc | apply pw_below_drewN | apply below_drew1) | exact HB.out)) hb); clear HB; have HB := n0_; clear n0_; (try clear hb); (try clear hb2); (try clear hk); (try clear hi)) | ((with_reducible refine gate_callee (f := 30) rfl ?_); refine goesL_ (some 13) rfl rfl Try.func30 (by kernel_rfl) rfl #[.string t458] rfl q1_ ?_; (with_reducible refine (journal_Scan.calls k t458 t459 t460 _ A2.out).mono ?_); rintro e w23 ⟨v461, rfl, ho0, hb⟩; refine ⟨_, rfl, ?_⟩; have n0_ := Aside0.mk (Kd.R_lower ho0 (below_size (by repeat (first | (with_reducible first | exact HB.out | apply below_alloc | apply pw_below_drewN | apply below_drew1) | exact HB.out)))); have n1_ := Aside0.mk (below_step (by repeat (first | (with_reducible first | exact HB.out | apply below_alloc | apply pw_below_drewN | apply below_drew1) | exact HB.out)) hb); clear HB; have HO462 := n0_; have HB := n1_; clear n0_ n1_; (try clear hb); (try clear hb2); (try clear hk); (try clear hi); (try clear ho0)) | ((with_reducible refine gate_callee (f := 53) rfl ?_); refine goesL_ (some 17) rfl rfl Try.func53 (by kernel_rfl) rfl #[] rfl q1_ ?_; (with_reducible refine (skifflaw5_held.calls k  t463 _ A3.out).mono ?_); rintro e w24 ⟨rfl, hb⟩; refine ⟨_, rfl, ?_⟩; have n0_ := Aside0.mk (Kd.R_below (by (with_reducible repeat (first | apply Kd.R_alloc | apply Kd.R_drewN | apply Kd.R_drew)); exact HO462.out) hb); have n1_ := Aside0.mk (below_step (by repeat (first | (with_reducible first | exact HB.out | apply below_alloc | apply pw_below_drewN | apply below_drew1) | exact HB.out)) hb); clear HO462; clear HB; have HO462 := n0_; have HB := n1_; clear n0_ n1_; (try clear hb); (try clear hb2); (try clear hk); (try clear hi)) | ((with_reducible refine gate_callee (f := 31) rfl ?_); refine goesL_ (some 18) rfl rfl Try.func31 (by kernel_rfl) rfl #[.string t463, .int .i64 0] rfl q1_ ?_; (with_reducible refine (journal_Free.calls k t463 0 t464 true t466 _ A4.out).mono ?_); rintro e w25 ⟨rfl, hb⟩; refine ⟨_, rfl, ?_⟩; have n0_ := Aside0.mk (Kd.R_below (by (with_reducible repeat (first | apply Kd.R_alloc | apply Kd.R_drewN | apply Kd.R_drew)); exact HO462.out) hb); have n1_ := Aside0.mk (below_step (by repeat (first | (with_reducible first | exact HB.out | apply below_alloc | apply pw_below_drewN | apply below_drew1) | exact HB.out)) hb); clear HO462; clear HB; have HO462 := n0_; have HB := n1_; clear n0_ n1_; (try clear hb); (try clear hb2); (try clear hk); (try clear hi)) | ((with_reducible refine gate_callee (f := 53) rfl ?_); refine goesL_ (some 23) rfl rfl Try.func53 (by kernel_rfl) rfl #[] rfl q1_ ?_; (with_reducible refine (skifflaw5_held.calls k  t467 _ A5.out).mono ?_); rintro e w26 ⟨rfl, hb⟩; refine ⟨_, rfl, ?_⟩; have n0_ := Aside0.mk (Kd.R_below (by (with_reducible repeat (first | apply Kd.R_alloc | apply Kd.R_drewN | apply Kd.R_drew)); exact HO462.out) hb); have n1_ := Aside0.mk (below_step (by repeat (first | (with_reducible first | exact HB.out | apply below_alloc | apply pw_below_drewN | apply below_drew1) | exact HB.out)) hb); clear HO462; clear HB; have HO462 := n0_; have HB := n1_; clear n0_ n1_; (try clear hb); (try clear hb2); (try clear hk); (try clear hi)) | ((with_reducible refine gate_callee (f := 31) rfl ?_); refine goesL_ (some 24) rfl rfl Try.func31 (by kernel_rfl) rfl #[.string t467, .int .i64 2] rfl q1_ ?_; (with_reducible refine (journal_Free.calls k t467 2 t468 t469 t470 _ A6.out).mono ?_); rintro e w27 ⟨rfl, hb⟩; refine ⟨_, rfl, ?_⟩; have n0_ := Aside0.mk (Kd.R_below (by (with_reducible repeat (first | apply Kd.R_alloc | apply Kd.R_drewN | apply Kd.R_drew)); exact HO462.out) hb); have n1_ := Aside0.mk (below_step (by repeat (first | (with_reducible first | exact HB.out | apply below_alloc | apply pw_below_drewN | apply below_drew1) | exact HB.out)) hb); clear HO462; clear HB; have HO462 := n0_; have HB := n1_; clear n0_ n1_; (try clear hb); (try clear hb2); (try clear hk); (try clear hi)) | ((with_reducible refine gate_callee (f := 30) rfl ?_); refine goesL_ (some 29) rfl rfl Try.func30 (by kernel_rfl) rfl #[.string (⟨#[]⟩ : ByteArray)] rfl q1_ ?_; (with_reducible refine (journal_Scan.calls k (⟨#[]⟩ : ByteArray) t471 t472 _ A7.out).mono ?_); rintro e w28 ⟨v473, rfl, ho0, hb⟩; refine ⟨_, rfl, ?_⟩; have n0_ := Aside0.mk (Kd.R_elder' (by (with_reducible repeat (first | apply Kd.R_alloc | apply Kd.R_drewN | apply Kd.R_drew)); exact HO462.out) (Kd.R_base ho0) hb); have n1_ := Aside0.mk (Kd.R_lower (Kd.R_new' ho0 (Kd.R_lt (by (with_reducible repeat (first | apply Kd.R_alloc | apply Kd.R_drewN | apply Kd.R_drew)); exact HO462.out))) (below_size (by repeat (first | (with_reducible first | exact HB.out | apply below_alloc | apply pw_below_drewN | apply below_drew1) | exact HB.out)))); have n2_ := Aside0.mk (below_step (by repeat (first | (with_reducible first | exact HB.out | apply below_alloc | apply pw_below_drewN | apply below_drew1) | exact HB.out)) hb); clear HO462; clear HB; have HO462 := n0_; have HO474 := n1_; have HB := n2_; clear n0_ n1_ n2_; (try clear hb); (try clear hb2); (try clear hk); (try clear hi); (try clear ho0); obtain ⟨Ao29, co29, eo29⟩ := Kd.R_slice HO462.out; subst eo29; have p475 : 0 ≤ (0 : Int) := (by omega); have q475 : 0 < (t459.length : Int) := of_decide_eq_true (by first | (with_reducible assumption) | assumption); obtain ⟨ad475, e475, hx475_0, hx475_1, hx475_2, hx475_3, hx475_4⟩ := at_T59 (Kd.R_reads' HO462.out).2.2 0 p475 q475; cases e475; have qi475 : (0 < t459.length) = True := eq_true (by omega); (try rw [show ((0 : Int)).toNat = 0 from rfl] at hx475_0); (try rw [show 0 * 5 = 0 from rfl] at hx475_0); (try rw [Addr.add_zero'] at hx475_0); (try rw [show ((0 : Int)).toNat = 0 from rfl] at hx475_1); (try rw [show 0 * 5 = 0 from rfl] at hx475_1); (try rw [Addr.add_zero'] at hx475_1); (try rw [show ((0 : Int)).toNat = 0 from rfl] at hx475_2); (try rw [show 0 * 5 = 0 from rfl] at hx475_2); (try rw [Addr.add_zero'] at hx475_2); (try rw [show ((0 : Int)).toNat = 0 from rfl] at hx475_3); (try rw [show 0 * 5 = 0 from rfl] at hx475_3); (try rw [Addr.add_zero'] at hx475_3); (try rw [show ((0 : Int)).toNat = 0 from rfl] at hx475_4); (try rw [show 0 * 5 = 0 from rfl] at hx475_4); (try rw [Addr.add_zero'] at hx475_4); replace p475 := eq_true p475; replace q475 := eq_true q475; have p476 : 0 ≤ (0 : Int) := (by omega); have q476 : 0 < (t459.length : Int) := of_decide_eq_true (by first | (with_reducible assumption) | assumption); obtain ⟨ad476, e476, hx476_0, hx476_1, hx476_2, hx476_3, hx476_4⟩ := at_T59 (Kd.R_reads' HO462.out).2.2 0 p476 q476; obtain rfl : ad475 = ad476 := (by injection e476); have qi476 : (0 < t459.length) = True := eq_true (by omega); (try rw [show ((0 : Int)).toNat = 0 from rfl] at hx476_0); (try rw [show 0 * 5 = 0 from rfl] at hx476_0); (try rw [Addr.add_zero'] at hx476_0); (try rw [show ((0 : Int)).toNat = 0 from rfl] at hx476_1); (try rw [show 0 * 5 = 0 from rfl] at hx476_1); (try rw [Addr.add_zero'] at hx476_1); (try rw [show ((0 : Int)).toNat = 0 from rfl] at hx476_2); (try rw [show 0 * 5 = 0 from rfl] at hx476_2); (try rw [Addr.add_zero'] at hx476_2); (try rw [show ((0 : Int)).toNat = 0 from rfl] at hx476_3); (try rw [show 0 * 5 = 0 from rfl] at hx476_3); (try rw [Addr.add_zero'] at hx476_3); (try rw [show ((0 : Int)).toNat = 0 from rfl] at hx476_4); (try rw [show 0 * 5 = 0 from rfl] at hx476_4); (try rw [Addr.add_zero'] at hx476_4); replace p476 := eq_true p476; replace q476 := eq_true q476; have p477 : 0 ≤ (0 : Int) := (by omega); have q477 : 0 < (t459.length : Int) := of_decide_eq_true (by first | (with_reducible assumption) | assumption); obtain ⟨ad477, e477, hx477_0, hx477_1, hx477_2, hx477_3, hx477_4⟩ := at_T59 (Kd.R_reads' HO462.out).2.2 0 p477 q477; obtain rfl : ad475 = ad477 := (by injection e477); have qi477 : (0 < t459.length) = True := eq_true (by omega); (try rw [show ((0 : Int)).toNat = 0 from rfl] at hx477_0); (try rw [show 0 * 5 = 0 from rfl] at hx477_0); (try rw [Addr.add_zero'] at hx477_0); (try rw [show ((0 : Int)).toNat = 0 from rfl] at hx477_1); (try rw [show 0 * 5 = 0 from rfl] at hx477_1); (try rw [Addr.add_zero'] at hx477_1); (try rw [show ((0 : Int)).toNat = 0 from rfl] at hx477_2); (try rw [show 0 * 5 = 0 from rfl] at hx477_2); (try rw [Addr.add_zero'] at hx477_2); (try rw [show ((0 : Int)).toNat = 0 from rfl] at hx477_3); (try rw [show 0 * 5 = 0 from rfl] at hx477_3); (try rw [Addr.add_zero'] at hx477_3); (try rw [show ((0 : Int)).toNat = 0 from rfl] at hx477_4); (try rw [show 0 * 5 = 0 from rfl] at hx477_4); (try rw [Addr.add_zero'] at hx477_4); replace p477 := eq_true p477; replace q477 := eq_true q477) | (go_at_call 13; (with_reducible refine (skifflaw0_Num.calls t460 t478 _ A13.out).mono ?_); rintro e w' ⟨rfl, ⟨nd, rfl⟩⟩) | (go_at_call 13; (with_reducible refine (skifflaw0_Num.calls t466 t479 _ A17.out).mono ?_); rintro e w' ⟨rfl, ⟨nd, rfl⟩⟩) | (go_at_call 13; (with_reducible refine (skifflaw0_Num.calls t470 t480 _ A19.out).mono ?_); rintro e w' ⟨rfl, ⟨nd, rfl⟩⟩) | (go_at_call 13; (with_reducible refine (skifflaw0_Num.calls t472 t481 _ A21.out).mono ?_); rintro e w' ⟨rfl, ⟨nd, rfl⟩⟩))
           go_ret
           exact ⟨by first | rfl | (simp [errW_none, errW_some] <;> rfl) | (simp [*, errW_none, errW_some] <;> rfl), by repeat (first | (with_reducible first | exact HB.out | apply below_alloc | apply pw_below_drewN | apply below_drew1) | exact HB.out)⟩
          ·rw [if_neg c20] at H
           exact absurd H (by simp)
         ·rw [if_neg c18] at H
          exact absurd H (by simp)
        ·replace c16 := Bool.eq_false_iff.mpr c16
         subst c16
         have H1 : (none) = some r := by rw [if_neg (show ¬ (false = true) by decide)] at H; exact H
         clear H
         have H := H1
         clear H1
         exact absurd H (by simp)
       ·rw [if_neg c15] at H
        exact absurd H (by simp)
      ·rw [if_neg c14] at H
       exact absurd H (by simp)
     ·rw [if_neg c12] at H
      exact absurd H (by simp)
    ·rw [if_neg c11] at H
     exact absurd H (by simp)
   ·rw [if_neg c10] at H
    exact absurd H (by simp)
  ·rw [if_neg c9] at H
   exact absurd H (by simp)
 ·rw [if_neg c8] at H
  exact absurd H (by simp)
def skifflaw0_SamePlaces.l0 : Nat → List (S59) → List (S59) → Int → Option (Bool)
 | 0, _, _, _ => none
 | k + 1, x0, x1, x5 => if x5 < (x0.length : Int) then (if 0 ≤ x5 then (if x5 < (x1.length : Int) then (if (!(((rd_T59 x0 x5).f0) == ((rd_T59 x1 x5).f0)) || ((!(((rd_T59 x0 x5).f1.f0) == ((rd_T59 x1 x5).f1.f0)) || (!(((rd_T59 x0 x5).f1.f1) == ((rd_T59 x1 x5).f1.f1)) || (!(((rd_T59 x0 x5).f1.f2) == ((rd_T59 x1 x5).f1.f2)) || (!(((rd_T59 x0 x5).f1.f3) == ((rd_T59 x1 x5).f1.f3)))))))) = true then (some false) else (skifflaw0_SamePlaces.l0 k x0 x1 (wrap64 (x5 + 1)))) else (none)) else (none)) else (some true)
def skifflaw0_SamePlaces.f (k : Nat) (l0 : List (S59)) (l1 : List (S59)) : Option (Bool) := if (l0.length : Int) = (l1.length : Int) then (skifflaw0_SamePlaces.l0 k l0 l1 0) else (some false)
set_option maxHeartbeats 8000000 in
set_option maxRecDepth 100000 in
theorem skifflaw0_SamePlaces.calls (k : Nat) (A0 : Option Addr) (c0 : Nat) (l0 : List (S59)) (A1 : Option Addr) (c1 : Nat) (l1 : List (S59)) (r : Bool) (w : World) (hr0 : Kd.C k59 w A0 l0.length l0) (hc0 : l0.length ≤ c0) (hr1 : Kd.C k59 w A1 l1.length l1) (hc1 : l1.length ≤ c1) (h : skifflaw0_SamePlaces.f k l0 l1 = some r) :
  Calls Try.prog 32 #[.slice A0 l0.length c0, .slice A1 l1.length c1] w fun e w' => e = .returned (.bool r) ∧ Drawn0 w w' := by
 have hu59 := Try.underlying59
 have HR0 := Aside0.mk hr0
 have HC0 := Aside0.mk hc0
 clear hr0 hc0
 have HR1 := Aside0.mk hr1
 have HC1 := Aside0.mk hc1
 clear hr1 hc1
 have H : (if (l0.length : Int) = (l1.length : Int) then (skifflaw0_SamePlaces.l0 k l0 l1 0) else (some false)) = some r := h
 clear h
 by_cases c3 : (l0.length : Int) = (l1.length : Int)
 ·rw [if_pos c3] at H
  have c3b0 : ((l0.length : Int) == (l1.length : Int)) = true := beq_iff_eq.mpr c3
  have c3b1 : ((l0.length : Int) != (l1.length : Int)) = false := bne_eq_false_iff_eq.mpr c3
  have c3b2 : (l0.length == l1.length) = true := by first | simpa using c3 | (simp at c3 ⊢; omega)
  clear c3
  have H' := Aside0.mk H
  clear H
  go_enter Try.func32, Try.ntmps32
  go_wp2
  repeat (go_quiet (fail); try go_wp2)
  go_loopg [5] k (fun kq v5 w' => ∃ (x5_1 : Int), v5 = .int .i64 x5_1 ∧ Aside0 (skifflaw0_SamePlaces.l0 kq l0 l1 x5_1 = some r) ∧ Aside0 (kq ≤ k) ∧ Drawn0 w w')
  case atStart => exact ⟨(0), (by first | rfl | (simp; done) | (simp [*]; done)), H', ⟨Nat.le_refl _⟩, by repeat (first | exact Drawn0.refl _ | apply Drawn0.step)⟩
  case round =>
   clear H'
   try clear c1
   try clear p2
   try clear c3
   try clear c3b0
   try clear c3b1
   try clear c3b2
   obtain ⟨x5_1, rfl, HA, HK1, ⟨m1, rfl⟩⟩ := hrel
   cases gk with
   | zero => exact absurd HA.out (by simp [skifflaw0_SamePlaces.l0])
   | succ k1 =>
    have H := HA.out
    clear HA
    simp only [skifflaw0_SamePlaces.l0] at H
    by_cases c4 : x5_1 < (l0.length : Int)
    ·rw [if_pos c4] at H
     have c4b0 : decide (x5_1 < (l0.length : Int)) = true := decide_eq_true c4
     clear c4
     by_cases c5 : 0 ≤ x5_1
     ·rw [if_pos c5] at H
      have c5b0 : decide (0 ≤ x5_1) = true := decide_eq_true c5
      clear c5
      by_cases c6 : x5_1 < (l1.length : Int)
      ·rw [if_pos c6] at H
       have c6b0 : decide (x5_1 < (l1.length : Int)) = true := decide_eq_true c6
       clear c6
       by_cases c7 : (!(((rd_T59 l0 x5_1).f0) == ((rd_T59 l1 x5_1).f0)) || ((!(((rd_T59 l0 x5_1).f1.f0) == ((rd_T59 l1 x5_1).f1.f0)) || (!(((rd_T59 l0 x5_1).f1.f1) == ((rd_T59 l1 x5_1).f1.f1)) || (!(((rd_T59 l0 x5_1).f1.f2) == ((rd_T59 l1 x5_1).f1.f2)) || (!(((rd_T59 l0 x5_1).f1.f3) == ((rd_T59 l1 x5_1).f1.f3)))))))) = true
       ·rw [if_pos c7] at H
        have c7b0 : (!(((rd_T59 l0 x5_1).f0) == ((rd_T59 l1 x5_1).f0)) || ((!(((rd_T59 l0 x5_1).f1.f0) == ((rd_T59 l1 x5_1).f1.f0)) || (!(((rd_T59 l0 x5_1).f1.f1) == ((rd_T59 l1 x5_1).f1.f1)) || (!(((rd_T59 l0 x5_1).f1.f2) == ((rd_T59 l1 x5_1).f1.f2)) || (!(((rd_T59 l0 x5_1).f1.f3) == ((rd_T59 l1 x5_1).f1.f3)))))))) = true := c7
        clear c7
        obtain rfl := Option.some.inj H
        have p482 : 0 ≤ (x5_1 : Int) := of_decide_eq_true (by first | (with_reducible assumption) | assumption)
        have q482 : x5_1 < (l0.length : Int) := of_decide_eq_true (by first | (with_reducible assumption) | assumption)
        obtain ⟨ad482, e482, hx482_0, hx482_1, hx482_2, hx482_3, hx482_4⟩ := at_T59 HR0.out x5_1 p482 q482
        cases e482
        replace p482 := eq_true p482
        replace q482 := eq_true q482
        have p483 : 0 ≤ (x5_1 : Int) := of_decide_eq_true (by first | (with_reducible assumption) | assumption)
        have q483 : x5_1 < (l1.length : Int) := of_decide_eq_true (by first | (with_reducible assumption) | assumption)
        obtain ⟨ad483, e483, hx483_0, hx483_1, hx483_2, hx483_3, hx483_4⟩ := at_T59 HR1.out x5_1 p483 q483
        cases e483
        replace p483 := eq_true p483
        replace q483 := eq_true q483
        go_wp2
        repeat (go_quiet (fail); try go_wp2)
        go_ret
        exact ⟨by first | rfl | (simp; done) | (simp [*]; done), by repeat (first | exact Drawn0.refl _ | apply Drawn0.step)⟩
       ·rw [if_neg c7] at H
        have c7b0 : (!(((rd_T59 l0 x5_1).f0) == ((rd_T59 l1 x5_1).f0)) || ((!(((rd_T59 l0 x5_1).f1.f0) == ((rd_T59 l1 x5_1).f1.f0)) || (!(((rd_T59 l0 x5_1).f1.f1) == ((rd_T59 l1 x5_1).f1.f1)) || (!(((rd_T59 l0 x5_1).f1.f2) == ((rd_T59 l1 x5_1).f1.f2)) || (!(((rd_T59 l0 x5_1).f1.f3) == ((rd_T59 l1 x5_1).f1.f3)))))))) = false := by simpa using c7
        clear c7
        have H' := Aside0.mk H
        clear H
        have p482 : 0 ≤ (x5_1 : Int) := of_decide_eq_true (by first | (with_reducible assumption) | assumption)
        have q482 : x5_1 < (l0.length : Int) := of_decide_eq_true (by first | (with_reducible assumption) | assumption)
        obtain ⟨ad482, e482, hx482_0, hx482_1, hx482_2, hx482_3, hx482_4⟩ := at_T59 HR0.out x5_1 p482 q482
        cases e482
        replace p482 := eq_true p482
        replace q482 := eq_true q482
        have p483 : 0 ≤ (x5_1 : Int) := of_decide_eq_true (by first | (with_reducible assumption) | assumption)
        have q483 : x5_1 < (l1.length : Int) := of_decide_eq_true (by first | (with_reducible assumption) | assumption)
        obtain ⟨ad483, e483, hx483_0, hx483_1, hx483_2, hx483_3, hx483_4⟩ := at_T59 HR1.out x5_1 p483 q483
        cases e483
        replace p483 := eq_true p483
        replace q483 := eq_true q483
        go_wp2
        repeat (go_quiet (fail); try go_wp2)
        go_roundg k1
        case measure => have := HK1.out; omega
        case rel => exact ⟨(wrap64 (x5_1 + 1)), (by first | rfl | (simp; done) | (simp [*]; done)), H', ⟨by have := HK1.out; omega⟩, by repeat (first | exact Drawn0.refl _ | apply Drawn0.step)⟩
      ·rw [if_neg c6] at H
       exact absurd H (by simp)
     ·rw [if_neg c5] at H
      exact absurd H (by simp)
    ·rw [if_neg c4] at H
     have c4b0 : decide (x5_1 < (l0.length : Int)) = false := decide_eq_false c4
     clear c4
     obtain rfl := Option.some.inj H
     go_wp2
     repeat (go_quiet (fail); try go_wp2)
     go_ret
     exact ⟨by first | rfl | (simp; done) | (simp [*]; done), by repeat (first | exact Drawn0.refl _ | apply Drawn0.step)⟩
 ·rw [if_neg c3] at H
  have c3b0 : ((l0.length : Int) == (l1.length : Int)) = false := beq_eq_false_iff_ne.mpr c3
  have c3b1 : ((l0.length : Int) != (l1.length : Int)) = true := bne_iff_ne.mpr c3
  have c3b2 : (l0.length == l1.length) = false := by first | simpa using c3 | (simp at c3 ⊢; omega)
  obtain rfl := Option.some.inj H
  go_enter Try.func32, Try.ntmps32
  go_wp2
  repeat (go_quiet (fail); try go_wp2)
  go_ret
  exact ⟨by first | rfl | (simp; done) | (simp [*]; done), by repeat (first | exact Drawn0.refl _ | apply Drawn0.step)⟩
end Go.Proofs.Ytjihlabmddfjhaa.PAll

-- Written by this session's own program (wip/tools/myprint.py), which runs the kit's print over functions proved by hand.
namespace Go.Proofs.Ytjihlabmddfjhaa.PAll
open Go.RowKit Go.Proofs.YtjihlabmddfjhaaW.PrintWords Go.Proofs.YtjihlabmddfjhaaW.PrintLast Go.Proofs.YtjihlabmddfjhaaW.PrintMore
attribute [local go_sem] max2_int min2_int max_two min_two max_three min_three max_four min_four   -- for this text's walks alone
set_option linter.unusedVariables false
set_option linter.unusedSimpArgs false
def skifflaw5_JournalRow.l0 : Nat → Int → Int → ByteArray → List (S59) → Int → Int → Option (Bool)
 | 0, _, _, _, _, _, _ => none
 | k + 1, x0, x1, x5, x6, x7, x8 => if x8 < 8 then ((Hand.skiffref1_PutEntry.f k (wrap64 (1 + x8)) (Go.bits .and .i64 x8 1) (wrap64 (5 + x8)) (wrap64 (100 + x8))).bind fun bt486 => (if 0 ≤ x8 then (if (Go.bits .and .i64 (shr .i64 x0 x8) 1) = 1 then (if x6.length < 3518437208883 then (if x5.size + bt486.1.size ≤ 9223372036854775807 then (skifflaw5_JournalRow.l0 k x0 x1 (x5 ++ bt486.1) (x6 ++ [(⟨wrap64 (24 * x8), (⟨wrap64 (1 + x8), Go.bits .and .i64 x8 1, wrap64 (5 + x8), wrap64 (100 + x8)⟩ : S25)⟩ : S59)]) x7 (wrap64 (x8 + 1))) else (none)) else (none)) else (if (Go.bits .and .i64 (shr .i64 x1 x8) 1) = 1 then (if 1 ≤ (bt486.1.size : Int) then (if 1 + (bt486.1.extract 1 bt486.1.size).size ≤ 9223372036854775807 then (if (Go.bits .and .i64 x8 1) = 0 then (if 0 ≤ 23 then (if 23 ≤ (((⟨#[0]⟩ : ByteArray) ++ (bt486.1.extract 1 bt486.1.size)).size : Int) then (if (((⟨#[0]⟩ : ByteArray) ++ (bt486.1.extract 1 bt486.1.size)).extract 0 23).size + 1 ≤ 9223372036854775807 then (if x5.size + ((((⟨#[0]⟩ : ByteArray) ++ (bt486.1.extract 1 bt486.1.size)).extract 0 23) ++ (⟨#[0]⟩ : ByteArray)).size ≤ 9223372036854775807 then (skifflaw5_JournalRow.l0 k x0 x1 (x5 ++ ((((⟨#[0]⟩ : ByteArray) ++ (bt486.1.extract 1 bt486.1.size)).extract 0 23) ++ (⟨#[0]⟩ : ByteArray))) x6 x7 (wrap64 (x8 + 1))) else (none)) else (none)) else (none)) else (none)) else (if x5.size + ((⟨#[0]⟩ : ByteArray) ++ (bt486.1.extract 1 bt486.1.size)).size ≤ 9223372036854775807 then (skifflaw5_JournalRow.l0 k x0 x1 (x5 ++ ((⟨#[0]⟩ : ByteArray) ++ (bt486.1.extract 1 bt486.1.size))) x6 x7 (wrap64 (x8 + 1))) else (none))) else (none)) else (none)) else ((skiffref1_Blank.f k).bind fun t491 => (if 0 ≤ 24 then (if 24 ≤ (t491.size : Int) then (if x7 < 0 then (if x8 < 4 then (if x5.size + (t491.extract 0 24).size ≤ 9223372036854775807 then (skifflaw5_JournalRow.l0 k x0 x1 (x5 ++ (t491.extract 0 24)) x6 (wrap64 (24 * x8)) (wrap64 (x8 + 1))) else (none)) else (if x5.size + (t491.extract 0 24).size ≤ 9223372036854775807 then (skifflaw5_JournalRow.l0 k x0 x1 (x5 ++ (t491.extract 0 24)) x6 x7 (wrap64 (x8 + 1))) else (none))) else (if x5.size + (t491.extract 0 24).size ≤ 9223372036854775807 then (skifflaw5_JournalRow.l0 k x0 x1 (x5 ++ (t491.extract 0 24)) x6 x7 (wrap64 (x8 + 1))) else (none))) else (none)) else (none))))) else (none))) else ((skiffref1_Blank.f k).bind fun t492 => (if 192 ≤ (t492.size : Int) then (if x5.size + (t492.extract 192 t492.size).size ≤ 9223372036854775807 then ((journal_Scan.f k (x5 ++ (t492.extract 192 t492.size))).bind fun bt493 => ((journal_Free.f k (x5 ++ (t492.extract 192 t492.size)) 0).bind fun bt497 => ((skifflaw0_Num.f bt493.2).bind fun t500 => (if t500 = 0 then ((skifflaw0_SamePlaces.f k bt493.1 x6).bind fun t501 => (if t501 = true then ((skifflaw0_Num.f bt497.2.2).bind fun t502 => (if t502 = 0 then (if (bt497.2.1 == (decide (x7 ≥ 0))) = true then (if bt497.2.1 = true then (some (bt497.1 == x7)) else (some true)) else (none)) else (none))) else (none))) else (none))))) else (none)) else (none)))
def skifflaw5_JournalRow.f (k : Nat) (a0 : Int) (a1 : Int) : Option (Bool) := (skifflaw5_awake.f k).bind fun t484 => (if t484 = true then (skifflaw5_JournalRow.l0 k a0 a1 (⟨#[]⟩ : ByteArray) ([] : List (S59)) (-1) 0) else (none))
set_option maxHeartbeats 8000000 in
set_option maxRecDepth 100000 in
theorem skifflaw5_JournalRow.calls (k : Nat) (a0 : Int) (a1 : Int) (r : Bool) (w : World) (h : skifflaw5_JournalRow.f k a0 a1 = some r) :
  Calls Try.prog 10 #[.int .i64 a0, .int .i64 a1] w fun e w' => e = .returned (.bool r) ∧ Below w.heap.size w w' := by
 have hu25 := Try.underlying25
 have hu59 := Try.underlying59
 have HB := Aside0.mk (Below.refl w.heap.size w)
 have H : ((skifflaw5_awake.f k).bind fun t484 => (if t484 = true then (skifflaw5_JournalRow.l0 k a0 a1 (⟨#[]⟩ : ByteArray) ([] : List (S59)) (-1) 0) else (none))) = some r := h
 clear h
 replace H := Option.bind_eq_some_iff.mp H
 obtain ⟨t484, A30, H⟩ := H
 replace H : (if t484 = true then (skifflaw5_JournalRow.l0 k a0 a1 (⟨#[]⟩ : ByteArray) ([] : List (S59)) (-1) 0) else (none)) = some r := H
 have A3 := Aside0.mk A30
 clear A30
 by_cases c4 : t484 = true
 ·subst c4
  have H1 : (skifflaw5_JournalRow.l0 k a0 a1 (⟨#[]⟩ : ByteArray) ([] : List (S59)) (-1) 0) = some r := by rw [if_pos rfl] at H; exact H
  clear H
  have H := H1
  clear H1
  have H' := Aside0.mk H
  clear H
  go_enter Try.func10, Try.ntmps10
  go_wp2_with (first | ((with_reducible refine gate_callee (f := 28) rfl ?_); refine goesL_ (some 17) rfl rfl Try.func28 (by kernel_rfl) rfl #[] rfl q1_ ?_; (with_reducible refine (skifflaw5_awake.calls k  true _ A3.out).mono ?_); rintro e w5 ⟨rfl, hb⟩; refine ⟨_, rfl, ?_⟩; have n0_ := Aside0.mk (below_step (by repeat (first | (with_reducible first | exact HB.out | apply below_alloc | apply pw_below_drewN | apply below_drew1) | exact HB.out)) hb); clear HB; have HB := n0_; clear n0_; (try clear hb); (try clear hb2); (try clear hk); (try clear hi)))
  go_loopg [5, 6, 7, 8] k (fun kq v5 v6 v7 v8 w' => ∃ (x5_1 : ByteArray) (x6_1 : List (S59)) (x7_1 : Int) (x8_1 : Int), v5 = .string x5_1 ∧ v7 = .int .i64 x7_1 ∧ v8 = .int .i64 x8_1 ∧ Aside0 (skifflaw5_JournalRow.l0 kq a0 a1 x5_1 x6_1 x7_1 x8_1 = some r) ∧ Aside0 (kq ≤ k) ∧ Aside0 (Kd.R k59 59 w' w.heap.size (fun _ => True) v6 x6_1) ∧ Aside0 (Below w.heap.size w w'))
  case atStart => exact ⟨((⟨#[]⟩ : ByteArray)), (([] : List (S59))), ((-1)), (0), (by first | rfl | (simp; done) | (simp [*]; done)), (by first | rfl | (simp; done) | (simp [*]; done)), (by first | rfl | (simp; done) | (simp [*]; done)), H', ⟨Nat.le_refl _⟩, ⟨by first | exact Kd.R_nil _ _ _ _ _ | exact Kd.N_nil _ _ _ _ _ | exact Kd.V_nil _ _ _ _ _ | exact Kd.Q_nil _ _ _ _ _ | exact Kd.S_nil _ _ _ _ _⟩, ⟨by repeat (first | (with_reducible first | exact HB.out | apply below_alloc | apply pw_below_drewN | apply below_drew1) | exact HB.out)⟩⟩
  case round =>
   clear H'
   try clear c1
   try clear c2
   try clear p2
   try clear c4
   obtain ⟨x5_1, x6_1, x7_1, x8_1, rfl, rfl, rfl, HA, HK1, HO_6, HB⟩ := hrel
   cases gk with
   | zero => exact absurd HA.out (by simp [skifflaw5_JournalRow.l0])
   | succ k1 =>
    have H := HA.out
    clear HA
    simp only [skifflaw5_JournalRow.l0] at H
    by_cases c6 : x8_1 < 8
    ·rw [if_pos c6] at H
     have c6b0 : decide (x8_1 < 8) = true := decide_eq_true c6
     clear c6
     replace H := Option.bind_eq_some_iff.mp H
     obtain ⟨⟨t486, t487⟩, A70, H⟩ := H
     replace H : (if 0 ≤ x8_1 then (if (Go.bits .and .i64 (shr .i64 a0 x8_1) 1) = 1 then (if x6_1.length < 3518437208883 then (if x5_1.size + t486.size ≤ 9223372036854775807 then (skifflaw5_JournalRow.l0 k1 a0 a1 (x5_1 ++ t486) (x6_1 ++ [(⟨wrap64 (24 * x8_1), (⟨wrap64 (1 + x8_1), Go.bits .and .i64 x8_1 1, wrap64 (5 + x8_1), wrap64 (100 + x8_1)⟩ : S25)⟩ : S59)]) x7_1 (wrap64 (x8_1 + 1))) else (none)) else (none)) else (if (Go.bits .and .i64 (shr .i64 a1 x8_1) 1) = 1 then (if 1 ≤ (t486.size : Int) then (if 1 + (t486.extract 1 t486.size).size ≤ 9223372036854775807 then (if (Go.bits .and .i64 x8_1 1) = 0 then (if 0 ≤ 23 then (if 23 ≤ (((⟨#[0]⟩ : ByteArray) ++ (t486.extract 1 t486.size)).size : Int) then (if (((⟨#[0]⟩ : ByteArray) ++ (t486.extract 1 t486.size)).extract 0 23).size + 1 ≤ 9223372036854775807 then (if x5_1.size + ((((⟨#[0]⟩ : ByteArray) ++ (t486.extract 1 t486.size)).extract 0 23) ++ (⟨#[0]⟩ : ByteArray)).size ≤ 9223372036854775807 then (skifflaw5_JournalRow.l0 k1 a0 a1 (x5_1 ++ ((((⟨#[0]⟩ : ByteArray) ++ (t486.extract 1 t486.size)).extract 0 23) ++ (⟨#[0]⟩ : ByteArray))) x6_1 x7_1 (wrap64 (x8_1 + 1))) else (none)) else (none)) else (none)) else (none)) else (if x5_1.size + ((⟨#[0]⟩ : ByteArray) ++ (t486.extract 1 t486.size)).size ≤ 9223372036854775807 then (skifflaw5_JournalRow.l0 k1 a0 a1 (x5_1 ++ ((⟨#[0]⟩ : ByteArray) ++ (t486.extract 1 t486.size))) x6_1 x7_1 (wrap64 (x8_1 + 1))) else (none))) else (none)) else (none)) else ((skiffref1_Blank.f k1).bind fun t491 => (if 0 ≤ 24 then (if 24 ≤ (t491.size : Int) then (if x7_1 < 0 then (if x8_1 < 4 then (if x5_1.size + (t491.extract 0 24).size ≤ 9223372036854775807 then (skifflaw5_JournalRow.l0 k1 a0 a1 (x5_1 ++ (t491.extract 0 24)) x6_1 (wrap64 (24 * x8_1)) (wrap64 (x8_1 + 1))) else (none)) else (if x5_1.size + (t491.extract 0 24).size ≤ 9223372036854775807 then (skifflaw5_JournalRow.l0 k1 a0 a1 (x5_1 ++ (t491.extract 0 24)) x6_1 x7_1 (wrap64 (x8_1 + 1))) else (none))) else (if x5_1.size + (t491.extract 0 24).size ≤ 9223372036854775807 then (skifflaw5_JournalRow.l0 k1 a0 a1 (x5_1 ++ (t491.extract 0 24)) x6_1 x7_1 (wrap64 (x8_1 + 1))) else (none))) else (none)) else (none))))) else (none)) = some r := H
     have A7 := Aside0.mk A70
     clear A70
     by_cases c8 : 0 ≤ x8_1
     ·rw [if_pos c8] at H
      have c8b0 := eq_true c8
      have c8b1 : decide (0 ≤ x8_1) = true := decide_eq_true c8
      clear c8
      obtain ⟨ji9, hji9⟩ : ∃ j_ : Int, (shr .i64 a0 x8_1) = j_ := ⟨_, rfl⟩
      replace H : (if (Go.bits .and .i64 (ji9) 1) = 1 then (if x6_1.length < 3518437208883 then (if x5_1.size + t486.size ≤ 9223372036854775807 then (skifflaw5_JournalRow.l0 k1 a0 a1 (x5_1 ++ t486) (x6_1 ++ [(⟨wrap64 (24 * x8_1), (⟨wrap64 (1 + x8_1), Go.bits .and .i64 x8_1 1, wrap64 (5 + x8_1), wrap64 (100 + x8_1)⟩ : S25)⟩ : S59)]) x7_1 (wrap64 (x8_1 + 1))) else (none)) else (none)) else (if (Go.bits .and .i64 (shr .i64 a1 x8_1) 1) = 1 then (if 1 ≤ (t486.size : Int) then (if 1 + (t486.extract 1 t486.size).size ≤ 9223372036854775807 then (if (Go.bits .and .i64 x8_1 1) = 0 then (if 0 ≤ 23 then (if 23 ≤ (((⟨#[0]⟩ : ByteArray) ++ (t486.extract 1 t486.size)).size : Int) then (if (((⟨#[0]⟩ : ByteArray) ++ (t486.extract 1 t486.size)).extract 0 23).size + 1 ≤ 9223372036854775807 then (if x5_1.size + ((((⟨#[0]⟩ : ByteArray) ++ (t486.extract 1 t486.size)).extract 0 23) ++ (⟨#[0]⟩ : ByteArray)).size ≤ 9223372036854775807 then (skifflaw5_JournalRow.l0 k1 a0 a1 (x5_1 ++ ((((⟨#[0]⟩ : ByteArray) ++ (t486.extract 1 t486.size)).extract 0 23) ++ (⟨#[0]⟩ : ByteArray))) x6_1 x7_1 (wrap64 (x8_1 + 1))) else (none)) else (none)) else (none)) else (none)) else (if x5_1.size + ((⟨#[0]⟩ : ByteArray) ++ (t486.extract 1 t486.size)).size ≤ 9223372036854775807 then (skifflaw5_JournalRow.l0 k1 a0 a1 (x5_1 ++ ((⟨#[0]⟩ : ByteArray) ++ (t486.extract 1 t486.size))) x6_1 x7_1 (wrap64 (x8_1 + 1))) else (none))) else (none)) else (none)) else ((skiffref1_Blank.f k1).bind fun t491 => (if 0 ≤ 24 then (if 24 ≤ (t491.size : Int) then (if x7_1 < 0 then (if x8_1 < 4 then (if x5_1.size + (t491.extract 0 24).size ≤ 9223372036854775807 then (skifflaw5_JournalRow.l0 k1 a0 a1 (x5_1 ++ (t491.extract 0 24)) x6_1 (wrap64 (24 * x8_1)) (wrap64 (x8_1 + 1))) else (none)) else (if x5_1.size + (t491.extract 0 24).size ≤ 9223372036854775807 then (skifflaw5_JournalRow.l0 k1 a0 a1 (x5_1 ++ (t491.extract 0 24)) x6_1 x7_1 (wrap64 (x8_1 + 1))) else (none))) else (if x5_1.size + (t491.extract 0 24).size ≤ 9223372036854775807 then (skifflaw5_JournalRow.l0 k1 a0 a1 (x5_1 ++ (t491.extract 0 24)) x6_1 x7_1 (wrap64 (x8_1 + 1))) else (none))) else (none)) else (none))))) = some r := by first | (rw [hji9] at H; exact H) | (simp only [hji9] at H ⊢; exact H)
      (try rw [hji9] at A7)
      have hji9_ : (a0 / 2 ^ min x8_1.toNat 64) = ji9 := hji9
      have hji9z : x8_1 ≤ 64 → (a0 / 2 ^ x8_1.toNat) = ji9 := shr_small hji9
      by_cases c10 : (Go.bits .and .i64 (ji9) 1) = 1
      ·rw [if_pos c10] at H
       have c10b0 : ((Go.bits .and .i64 (ji9) 1) == 1) = true := beq_iff_eq.mpr c10
       have c10b1 : ((Go.bits .and .i64 (ji9) 1) != 1) = false := bne_eq_false_iff_eq.mpr c10
       clear c10
       by_cases c11 : x6_1.length < 3518437208883
       ·rw [if_pos c11] at H
        have LMc11 := Aside0.mk c11
        clear c11
        obtain ⟨y488, hy488⟩ : ∃ y_ : List (S59), y_ = (x6_1 ++ [(⟨wrap64 (24 * x8_1), (⟨wrap64 (1 + x8_1), Go.bits .and .i64 x8_1 1, wrap64 (5 + x8_1), wrap64 (100 + x8_1)⟩ : S25)⟩ : S59)]) := ⟨_, rfl⟩
        replace H : (if x5_1.size + t486.size ≤ 9223372036854775807 then (skifflaw5_JournalRow.l0 k1 a0 a1 (x5_1 ++ t486) y488 x7_1 (wrap64 (x8_1 + 1))) else (none)) = some r := by first | (rw [hy488]; with_reducible exact H) | (have H2_ := (Option.bind_some _ _).symm.trans H; rw [hy488]; with_reducible exact H2_) | (have H2_ := (Option.bind_some _ _).symm.trans H; with_reducible exact H2_) | with_reducible exact H | (rw [hy488]; exact H) | exact H
        have Ny488 := Aside0.mk hy488
        clear hy488
        by_cases c12 : x5_1.size + t486.size ≤ 9223372036854775807
        ·rw [if_pos c12] at H
         have c12b0 := eq_true c12
         have c12b1 : decide (x5_1.size + t486.size ≤ 9223372036854775807) = true := decide_eq_true c12
         try have c12b2 : (9223372036854775807 < x5_1.size + t486.size) = False := eq_false (Nat.not_lt.2 c12)
         have H' := Aside0.mk H
         clear H
         go_wp2_with (first | ((with_reducible refine gate_dst (N := 9) rfl ?_); refine box_event ?hg (N := 9) ?hd (cs := #[.int .i64 0, .int .i64 0, .int .i64 0, .int .i64 0]) (t := 25) ?hr ?_; (case hd => rfl); (case hg => rfl); (case hr => first | (go_simp; done) | (go_simp; rfl)); intro gb485 hg w13 hbox hb; have n0_ := Aside0.mk (Kd.R_below (by (with_reducible repeat (first | apply Kd.R_alloc | apply Kd.R_drewN | apply Kd.R_drew)); exact HO_6.out) hb); have n1_ := Aside0.mk (below_step (by repeat (first | (with_reducible first | exact HB.out | apply below_alloc | apply pw_below_drewN | apply below_drew1) | exact HB.out)) hb); have n2_ := Aside0.mk (hbox); have n3_ := Aside0.mk ((by rw [hg]; exact (below_size (by repeat (first | (with_reducible first | exact HB.out | apply below_alloc | apply pw_below_drewN | apply below_drew1) | exact HB.out))) : w.heap.size ≤ gb485)); have n4_ := Aside0.mk ((by rw [hg]; exact (below_size (by repeat (first | (with_reducible first | exact HB.out | apply below_alloc | apply pw_below_drewN | apply below_drew1) | exact HB.out))) : w.heap.size ≤ gb485)); clear HO_6; clear HB; have HO_6 := n0_; have HB := n1_; have BK485 := n2_; have GW485 := n3_; have GE485 := n4_; clear n0_ n1_ n2_ n3_ n4_; clear hb hbox hg; have hcz14_0 : w13.cell? ⟨gb485, 0, none⟩ = some (.int .i64 0) := (blk_cell BK485.out 0).trans rfl; have hcz14_1 : w13.cell? ⟨gb485, 1, none⟩ = some (.int .i64 0) := (blk_cell BK485.out 1).trans rfl; have hcz14_2 : w13.cell? ⟨gb485, 2, none⟩ = some (.int .i64 0) := (blk_cell BK485.out 2).trans rfl; have hcz14_3 : w13.cell? ⟨gb485, 3, none⟩ = some (.int .i64 0) := (blk_cell BK485.out 3).trans rfl; have hfz14_0 := blk_frozen BK485.out 0; have hfz14_1 := blk_frozen BK485.out 1; have hfz14_2 := blk_frozen BK485.out 2; have hfz14_3 := blk_frozen BK485.out 3) | ((with_reducible refine gate_callee (f := 29) rfl ?_); refine goesL_ (some 34) rfl rfl Try.func29 (by kernel_rfl) rfl #[.agg #[.int .i64 (wrap64 (1 + x8_1)), .int .i64 (Go.bits .and .i64 x8_1 1), .int .i64 (wrap64 (5 + x8_1)), .int .i64 (wrap64 (100 + x8_1))]] rfl q1_ ?_; (with_reducible refine (Hand.skiffref1_PutEntry.calls k1 (wrap64 (1 + x8_1)) (Go.bits .and .i64 x8_1 1) (wrap64 (5 + x8_1)) (wrap64 (100 + x8_1)) t486 t487 _ A7.out).mono ?_); rintro e w15 ⟨rfl, hb⟩; refine ⟨_, rfl, ?_⟩; have n0_ := Aside0.mk (Kd.R_below (by (with_reducible repeat (first | apply Kd.R_alloc | apply Kd.R_drewN | apply Kd.R_drew)); exact (Kd.R_mono (Kd.R_far (p := ⟨gb485, 3, none⟩) (Kd.R_far (p := ⟨gb485, 2, none⟩) (Kd.R_far (p := ⟨gb485, 1, none⟩) (Kd.R_far (p := ⟨gb485, 0, none⟩) (Kd.R_types HO_6.out BK485.out (by decide)) (fun _ hk => hk.2) (.int .i64 (wrap64 (1 + x8_1)))) (fun _ hk => hk.2) (.int .i64 (Go.bits .and .i64 x8_1 1))) (fun _ hk => hk.2) (.int .i64 (wrap64 (5 + x8_1)))) (fun _ hk => hk.2) (.int .i64 (wrap64 (100 + x8_1)))) (fun _ h_ => h_.1))) hb); have n1_ := Aside0.mk (blk_below (g := gb485) (o := .cells #[.int .i64 (wrap64 (1 + x8_1)), .int .i64 (Go.bits .and .i64 x8_1 1), .int .i64 (wrap64 (5 + x8_1)), .int .i64 (wrap64 (100 + x8_1))] 25 (0, 0)) (by (with_reducible repeat (first | refine blk_drewN ?_ _ | refine blk_drew ?_ | refine blk_alloc ?_ _)); refine blk_put (cs := #[.int .i64 (wrap64 (1 + x8_1)), .int .i64 (Go.bits .and .i64 x8_1 1), .int .i64 (wrap64 (5 + x8_1)), .int .i64 0]) ?_ 3 _ rfl; (with_reducible repeat (first | refine blk_drewN ?_ _ | refine blk_drew ?_ | refine blk_alloc ?_ _)); refine blk_put (cs := #[.int .i64 (wrap64 (1 + x8_1)), .int .i64 (Go.bits .and .i64 x8_1 1), .int .i64 0, .int .i64 0]) ?_ 2 _ rfl; (with_reducible repeat (first | refine blk_drewN ?_ _ | refine blk_drew ?_ | refine blk_alloc ?_ _)); refine blk_put (cs := #[.int .i64 (wrap64 (1 + x8_1)), .int .i64 0, .int .i64 0, .int .i64 0]) ?_ 1 _ rfl; (with_reducible repeat (first | refine blk_drewN ?_ _ | refine blk_drew ?_ | refine blk_alloc ?_ _)); refine blk_put (cs := #[.int .i64 0, .int .i64 0, .int .i64 0, .int .i64 0]) ?_ 0 _ rfl; (with_reducible repeat (first | refine blk_drewN ?_ _ | refine blk_drew ?_ | refine blk_alloc ?_ _)); exact BK485.out) hb); have n2_ := Aside0.mk (below_step (by repeat (first | (with_reducible first | exact HB.out | apply below_alloc | apply pw_below_drewN | apply below_drew1 | refine below_set ?_ GE485.out) | exact HB.out)) hb); clear HO_6; clear BK485; clear HB; have HO_6 := n0_; have BK485 := n1_; have HB := n2_; clear n0_ n1_ n2_; (try clear hb); (try clear hb2); (try clear hk); (try clear hi); have hcz16_0 : w15.cell? ⟨gb485, 0, none⟩ = some (.int .i64 (wrap64 (1 + x8_1))) := (blk_cell BK485.out 0).trans rfl; have hcz16_1 : w15.cell? ⟨gb485, 1, none⟩ = some (.int .i64 (Go.bits .and .i64 x8_1 1)) := (blk_cell BK485.out 1).trans rfl; have hcz16_2 : w15.cell? ⟨gb485, 2, none⟩ = some (.int .i64 (wrap64 (5 + x8_1))) := (blk_cell BK485.out 2).trans rfl; have hcz16_3 : w15.cell? ⟨gb485, 3, none⟩ = some (.int .i64 (wrap64 (100 + x8_1))) := (blk_cell BK485.out 3).trans rfl; have hfz16_0 := blk_frozen BK485.out 0; have hfz16_1 := blk_frozen BK485.out 1; have hfz16_2 := blk_frozen BK485.out 2; have hfz16_3 := blk_frozen BK485.out 3) | ((with_reducible refine gate_builtin (b := .append) (xs := #[.tmp 53, .tmp 58]) rfl ?_); at_builtin; refine Kd.R_append k59 (w0 := w) w.heap.size rfl (.tmp 53) (.tmp 58) 56 59 (.agg #[(.int .i64 0), (.int .i64 0), (.int .i64 0), (.int .i64 0), (.int .i64 0)]) 40 rfl Try.underlying56 info59 rfl (by decide) (by omega) u6 x6_1 (⟨wrap64 (24 * x8_1), (⟨wrap64 (1 + x8_1), Go.bits .and .i64 x8_1 1, wrap64 (5 + x8_1), wrap64 (100 + x8_1)⟩ : S25)⟩ : S59) [.int .i64 (wrap64 (24 * x8_1)), .int .i64 (wrap64 (1 + x8_1)), .int .i64 (Go.bits .and .i64 x8_1 1), .int .i64 (wrap64 (5 + x8_1)), .int .i64 (wrap64 (100 + x8_1))] (fun _ => True) (fun _ => False) rfl rfl ?aP (fun _ hk => hk.elim) ?aF ?aO ?aB ?aS ?aL ?_; (case aP => exact k59_mkM _ _ _ (⟨wrap64 (24 * x8_1), (⟨wrap64 (1 + x8_1), Go.bits .and .i64 x8_1 1, wrap64 (5 + x8_1), wrap64 (100 + x8_1)⟩ : S25)⟩ : S59)); (case aB => exact (by repeat (first | (with_reducible first | exact HB.out | apply below_alloc | apply pw_below_drewN | apply below_drew1 | refine below_set ?_ GE485.out) | exact HB.out))); (case aF => exact (fun _ _ => trivial)); (case aO => exact (by (with_reducible repeat (first | apply Kd.R_alloc | apply Kd.R_drewN | apply Kd.R_drew)); exact HO_6.out)); (case aS => exact (below_size (by repeat (first | (with_reducible first | exact HB.out | apply below_alloc | apply pw_below_drewN | apply below_drew1 | refine below_set ?_ GE485.out) | exact HB.out)))); (case aL => have := LMc11.out; omega); intro v489 w17 ho hb hg hat; rw [← Ny488.out] at ho; have n0_ := Aside0.mk (blk_grown (g := gb485) (o := .cells #[.int .i64 (wrap64 (1 + x8_1)), .int .i64 (Go.bits .and .i64 x8_1 1), .int .i64 (wrap64 (5 + x8_1)), .int .i64 (wrap64 (100 + x8_1))] 25 (0, 0)) (by (with_reducible repeat (first | refine blk_drewN ?_ _ | refine blk_drew ?_ | refine blk_alloc ?_ _)); exact BK485.out) hg (Kd.R_ne HO_6.out BK485.out (by decide))); have n1_ := Aside0.mk (hb); have n2_ := Aside0.mk (ho); clear BK485; clear HB; clear HO_6; have BK485 := n0_; have HB := n1_; have HO490 := n2_; clear n0_ n1_ n2_; clear ho hb hg hat))
         go_roundg k1
         case measure => have := HK1.out; omega
         case rel => exact ⟨(x5_1 ++ t486), (y488), (x7_1), (wrap64 (x8_1 + 1)), (by first | rfl | (simp; done) | (simp [*]; done)), (by first | rfl | (simp; done) | (simp [*]; done)), (by first | rfl | (simp; done) | (simp [*]; done)), H', ⟨by have := HK1.out; omega⟩, ⟨by (with_reducible repeat (first | apply Kd.R_alloc | apply Kd.R_drewN | apply Kd.R_drew)); exact HO490.out⟩, ⟨by repeat (first | (with_reducible first | exact HB.out | apply below_alloc | apply pw_below_drewN | apply below_drew1 | refine below_set ?_ GE485.out) | exact HB.out)⟩⟩
        ·rw [if_neg c12] at H
         exact absurd H (by simp)
       ·rw [if_neg c11] at H
        exact absurd H (by simp)
      ·rw [if_neg c10] at H
       have c10b0 : ((Go.bits .and .i64 (ji9) 1) == 1) = false := beq_eq_false_iff_ne.mpr c10
       have c10b1 : ((Go.bits .and .i64 (ji9) 1) != 1) = true := bne_iff_ne.mpr c10
       have c18b0 := eq_true (of_decide_eq_true (by first | (with_reducible assumption) | assumption) : 0 ≤ x8_1)
       obtain ⟨ji19, hji19⟩ : ∃ j_ : Int, (shr .i64 a1 x8_1) = j_ := ⟨_, rfl⟩
       replace H : (if (Go.bits .and .i64 (ji19) 1) = 1 then (if 1 ≤ (t486.size : Int) then (if 1 + (t486.extract 1 t486.size).size ≤ 9223372036854775807 then (if (Go.bits .and .i64 x8_1 1) = 0 then (if 0 ≤ 23 then (if 23 ≤ (((⟨#[0]⟩ : ByteArray) ++ (t486.extract 1 t486.size)).size : Int) then (if (((⟨#[0]⟩ : ByteArray) ++ (t486.extract 1 t486.size)).extract 0 23).size + 1 ≤ 9223372036854775807 then (if x5_1.size + ((((⟨#[0]⟩ : ByteArray) ++ (t486.extract 1 t486.size)).extract 0 23) ++ (⟨#[0]⟩ : ByteArray)).size ≤ 9223372036854775807 then (skifflaw5_JournalRow.l0 k1 a0 a1 (x5_1 ++ ((((⟨#[0]⟩ : ByteArray) ++ (t486.extract 1 t486.size)).extract 0 23) ++ (⟨#[0]⟩ : ByteArray))) x6_1 x7_1 (wrap64 (x8_1 + 1))) else (none)) else (none)) else (none)) else (none)) else (if x5_1.size + ((⟨#[0]⟩ : ByteArray) ++ (t486.extract 1 t486.size)).size ≤ 9223372036854775807 then (skifflaw5_JournalRow.l0 k1 a0 a1 (x5_1 ++ ((⟨#[0]⟩ : ByteArray) ++ (t486.extract 1 t486.size))) x6_1 x7_1 (wrap64 (x8_1 + 1))) else (none))) else (none)) else (none)) else ((skiffref1_Blank.f k1).bind fun t491 => (if 0 ≤ 24 then (if 24 ≤ (t491.size : Int) then (if x7_1 < 0 then (if x8_1 < 4 then (if x5_1.size + (t491.extract 0 24).size ≤ 9223372036854775807 then (skifflaw5_JournalRow.l0 k1 a0 a1 (x5_1 ++ (t491.extract 0 24)) x6_1 (wrap64 (24 * x8_1)) (wrap64 (x8_1 + 1))) else (none)) else (if x5_1.size + (t491.extract 0 24).size ≤ 9223372036854775807 then (skifflaw5_JournalRow.l0 k1 a0 a1 (x5_1 ++ (t491.extract 0 24)) x6_1 x7_1 (wrap64 (x8_1 + 1))) else (none))) else (if x5_1.size + (t491.extract 0 24).size ≤ 9223372036854775807 then (skifflaw5_JournalRow.l0 k1 a0 a1 (x5_1 ++ (t491.extract 0 24)) x6_1 x7_1 (wrap64 (x8_1 + 1))) else (none))) else (none)) else (none)))) = some r := by first | (rw [hji19] at H; exact H) | (simp only [hji19] at H ⊢; exact H)
       (try rw [hji19] at A7)
       have hji19_ : (a1 / 2 ^ min x8_1.toNat 64) = ji19 := hji19
       have hji19z : x8_1 ≤ 64 → (a1 / 2 ^ x8_1.toNat) = ji19 := shr_small hji19
       by_cases c20 : (Go.bits .and .i64 (ji19) 1) = 1
       ·rw [if_pos c20] at H
        have c20b0 : ((Go.bits .and .i64 (ji19) 1) == 1) = true := beq_iff_eq.mpr c20
        have c20b1 : ((Go.bits .and .i64 (ji19) 1) != 1) = false := bne_eq_false_iff_eq.mpr c20
        clear c20
        by_cases c21 : 1 ≤ (t486.size : Int)
        ·rw [if_pos c21] at H
         have c21b0 := eq_true c21
         have c21b1 : decide (1 ≤ (t486.size : Int)) = true := decide_eq_true c21
         clear c21
         by_cases c22 : 1 + (t486.extract 1 t486.size).size ≤ 9223372036854775807
         ·rw [if_pos c22] at H
          have c22b0 := eq_true c22
          have c22b1 : decide (1 + (t486.extract 1 t486.size).size ≤ 9223372036854775807) = true := decide_eq_true c22
          try have c22b2 : (9223372036854775807 < 1 + (t486.extract 1 t486.size).size) = False := eq_false (Nat.not_lt.2 c22)
          by_cases c23 : (Go.bits .and .i64 x8_1 1) = 0
          ·rw [if_pos c23] at H
           have c23b0 : ((Go.bits .and .i64 x8_1 1) == 0) = true := beq_iff_eq.mpr c23
           have c23b1 : ((Go.bits .and .i64 x8_1 1) != 0) = false := bne_eq_false_iff_eq.mpr c23
           clear c23
           by_cases c24 : 0 ≤ 23
           ·rw [if_pos c24] at H
            have c24b0 := eq_true c24
            have c24b1 : decide (0 ≤ 23) = true := decide_eq_true c24
            clear c24
            by_cases c25 : 23 ≤ (((⟨#[0]⟩ : ByteArray) ++ (t486.extract 1 t486.size)).size : Int)
            ·rw [if_pos c25] at H
             have c25b0 := eq_true c25
             have c25b1 : decide (23 ≤ (((⟨#[0]⟩ : ByteArray) ++ (t486.extract 1 t486.size)).size : Int)) = true := decide_eq_true c25
             by_cases c26 : (((⟨#[0]⟩ : ByteArray) ++ (t486.extract 1 t486.size)).extract 0 23).size + 1 ≤ 9223372036854775807
             ·rw [if_pos c26] at H
              have c26b0 := eq_true c26
              have c26b1 : decide ((((⟨#[0]⟩ : ByteArray) ++ (t486.extract 1 t486.size)).extract 0 23).size + 1 ≤ 9223372036854775807) = true := decide_eq_true c26
              try have c26b2 : (9223372036854775807 < (((⟨#[0]⟩ : ByteArray) ++ (t486.extract 1 t486.size)).extract 0 23).size + 1) = False := eq_false (Nat.not_lt.2 c26)
              by_cases c27 : x5_1.size + ((((⟨#[0]⟩ : ByteArray) ++ (t486.extract 1 t486.size)).extract 0 23) ++ (⟨#[0]⟩ : ByteArray)).size ≤ 9223372036854775807
              ·rw [if_pos c27] at H
               have c27b0 := eq_true c27
               have c27b1 : decide (x5_1.size + ((((⟨#[0]⟩ : ByteArray) ++ (t486.extract 1 t486.size)).extract 0 23) ++ (⟨#[0]⟩ : ByteArray)).size ≤ 9223372036854775807) = true := decide_eq_true c27
               try have c27b2 : (9223372036854775807 < x5_1.size + ((((⟨#[0]⟩ : ByteArray) ++ (t486.extract 1 t486.size)).extract 0 23) ++ (⟨#[0]⟩ : ByteArray)).size) = False := eq_false (Nat.not_lt.2 c27)
               have H' := Aside0.mk H
               clear H
               have hz24 : t486.size = 24 := by rcases M.PutEntry_size A7.out with h | h; (· exact h); (· exact absurd (of_eq_true c21b0) (by rw [h]; decide))
               obtain ⟨u_, hu_⟩ : ∃ u_ : ByteArray, (⟨#[0]⟩ : ByteArray) ++ (t486.extract 1 24) = u_ := ⟨_, rfl⟩
               have hus_ : u_.size = 24 := by rw [← hu_, ByteArray.size_append, ByteArray.size_extract, hz24]; rfl
               have hm0_ := of_eq_true c27b0
               rw [hz24, hu_] at hm0_ H'
               obtain ⟨v_, hv_⟩ : ∃ v_ : ByteArray, (u_.extract 0 23) ++ (⟨#[0]⟩ : ByteArray) = v_ := ⟨_, rfl⟩
               have hvs_ : v_.size = 24 := by rw [← hv_, ByteArray.size_append, ByteArray.size_extract, hus_]; rfl
               rw [hv_] at hm0_ H'
               rw [hvs_] at hm0_
               have hm_ : (9223372036854775807 < x5_1.size + 24) = False := eq_false (by omega)
               clear hm0_
               go_wp2_with (first | ((with_reducible refine gate_dst (N := 9) rfl ?_); refine box_event ?hg (N := 9) ?hd (cs := #[.int .i64 0, .int .i64 0, .int .i64 0, .int .i64 0]) (t := 25) ?hr ?_; (case hd => rfl); (case hg => rfl); (case hr => first | (go_simp; done) | (go_simp; rfl)); intro gb485 hg w28 hbox hb; have n0_ := Aside0.mk (Kd.R_below (by (with_reducible repeat (first | apply Kd.R_alloc | apply Kd.R_drewN | apply Kd.R_drew)); exact HO_6.out) hb); have n1_ := Aside0.mk (below_step (by repeat (first | (with_reducible first | exact HB.out | apply below_alloc | apply pw_below_drewN | apply below_drew1) | exact HB.out)) hb); have n2_ := Aside0.mk (hbox); have n3_ := Aside0.mk ((by rw [hg]; exact (below_size (by repeat (first | (with_reducible first | exact HB.out | apply below_alloc | apply pw_below_drewN | apply below_drew1) | exact HB.out))) : w.heap.size ≤ gb485)); have n4_ := Aside0.mk ((by rw [hg]; exact (below_size (by repeat (first | (with_reducible first | exact HB.out | apply below_alloc | apply pw_below_drewN | apply below_drew1) | exact HB.out))) : w.heap.size ≤ gb485)); clear HO_6; clear HB; have HO_6 := n0_; have HB := n1_; have BK485 := n2_; have GW485 := n3_; have GE485 := n4_; clear n0_ n1_ n2_ n3_ n4_; clear hb hbox hg; have hcz29_0 : w28.cell? ⟨gb485, 0, none⟩ = some (.int .i64 0) := (blk_cell BK485.out 0).trans rfl; have hcz29_1 : w28.cell? ⟨gb485, 1, none⟩ = some (.int .i64 0) := (blk_cell BK485.out 1).trans rfl; have hcz29_2 : w28.cell? ⟨gb485, 2, none⟩ = some (.int .i64 0) := (blk_cell BK485.out 2).trans rfl; have hcz29_3 : w28.cell? ⟨gb485, 3, none⟩ = some (.int .i64 0) := (blk_cell BK485.out 3).trans rfl; have hfz29_0 := blk_frozen BK485.out 0; have hfz29_1 := blk_frozen BK485.out 1; have hfz29_2 := blk_frozen BK485.out 2; have hfz29_3 := blk_frozen BK485.out 3) | ((with_reducible refine gate_callee (f := 29) rfl ?_); refine goesL_ (some 34) rfl rfl Try.func29 (by kernel_rfl) rfl #[.agg #[.int .i64 (wrap64 (1 + x8_1)), .int .i64 (Go.bits .and .i64 x8_1 1), .int .i64 (wrap64 (5 + x8_1)), .int .i64 (wrap64 (100 + x8_1))]] rfl q1_ ?_; (with_reducible refine (Hand.skiffref1_PutEntry.calls k1 (wrap64 (1 + x8_1)) (Go.bits .and .i64 x8_1 1) (wrap64 (5 + x8_1)) (wrap64 (100 + x8_1)) t486 t487 _ A7.out).mono ?_); rintro e w30 ⟨rfl, hb⟩; refine ⟨_, rfl, ?_⟩; have n0_ := Aside0.mk (Kd.R_below (by (with_reducible repeat (first | apply Kd.R_alloc | apply Kd.R_drewN | apply Kd.R_drew)); exact (Kd.R_mono (Kd.R_far (p := ⟨gb485, 3, none⟩) (Kd.R_far (p := ⟨gb485, 2, none⟩) (Kd.R_far (p := ⟨gb485, 1, none⟩) (Kd.R_far (p := ⟨gb485, 0, none⟩) (Kd.R_types HO_6.out BK485.out (by decide)) (fun _ hk => hk.2) (.int .i64 (wrap64 (1 + x8_1)))) (fun _ hk => hk.2) (.int .i64 (Go.bits .and .i64 x8_1 1))) (fun _ hk => hk.2) (.int .i64 (wrap64 (5 + x8_1)))) (fun _ hk => hk.2) (.int .i64 (wrap64 (100 + x8_1)))) (fun _ h_ => h_.1))) hb); have n1_ := Aside0.mk (blk_below (g := gb485) (o := .cells #[.int .i64 (wrap64 (1 + x8_1)), .int .i64 (Go.bits .and .i64 x8_1 1), .int .i64 (wrap64 (5 + x8_1)), .int .i64 (wrap64 (100 + x8_1))] 25 (0, 0)) (by (with_reducible repeat (first | refine blk_drewN ?_ _ | refine blk_drew ?_ | refine blk_alloc ?_ _)); refine blk_put (cs := #[.int .i64 (wrap64 (1 + x8_1)), .int .i64 (Go.bits .and .i64 x8_1 1), .int .i64 (wrap64 (5 + x8_1)), .int .i64 0]) ?_ 3 _ rfl; (with_reducible repeat (first | refine blk_drewN ?_ _ | refine blk_drew ?_ | refine blk_alloc ?_ _)); refine blk_put (cs := #[.int .i64 (wrap64 (1 + x8_1)), .int .i64 (Go.bits .and .i64 x8_1 1), .int .i64 0, .int .i64 0]) ?_ 2 _ rfl; (with_reducible repeat (first | refine blk_drewN ?_ _ | refine blk_drew ?_ | refine blk_alloc ?_ _)); refine blk_put (cs := #[.int .i64 (wrap64 (1 + x8_1)), .int .i64 0, .int .i64 0, .int .i64 0]) ?_ 1 _ rfl; (with_reducible repeat (first | refine blk_drewN ?_ _ | refine blk_drew ?_ | refine blk_alloc ?_ _)); refine blk_put (cs := #[.int .i64 0, .int .i64 0, .int .i64 0, .int .i64 0]) ?_ 0 _ rfl; (with_reducible repeat (first | refine blk_drewN ?_ _ | refine blk_drew ?_ | refine blk_alloc ?_ _)); exact BK485.out) hb); have n2_ := Aside0.mk (below_step (by repeat (first | (with_reducible first | exact HB.out | apply below_alloc | apply pw_below_drewN | apply below_drew1 | refine below_set ?_ GE485.out) | exact HB.out)) hb); clear HO_6; clear BK485; clear HB; have HO_6 := n0_; have BK485 := n1_; have HB := n2_; clear n0_ n1_ n2_; (try clear hb); (try clear hb2); (try clear hk); (try clear hi)))
               go_roundg k1
               case measure => have := HK1.out; omega
               case rel => exact ⟨(x5_1 ++ v_), (x6_1), (x7_1), (wrap64 (x8_1 + 1)), (by first | rfl | (simp; done) | (simp [*]; done)), (by first | rfl | (simp; done) | (simp [*]; done)), (by first | rfl | (simp; done) | (simp [*]; done)), H', ⟨by have := HK1.out; omega⟩, ⟨by (with_reducible repeat (first | apply Kd.R_alloc | apply Kd.R_drewN | apply Kd.R_drew)); exact HO_6.out⟩, ⟨by repeat (first | (with_reducible first | exact HB.out | apply below_alloc | apply pw_below_drewN | apply below_drew1 | refine below_set ?_ GE485.out) | exact HB.out)⟩⟩
              ·rw [if_neg c27] at H
               exact absurd H (by simp)
             ·rw [if_neg c26] at H
              exact absurd H (by simp)
            ·rw [if_neg c25] at H
             exact absurd H (by simp)
           ·rw [if_neg c24] at H
            exact absurd H (by simp)
          ·rw [if_neg c23] at H
           have c23b0 : ((Go.bits .and .i64 x8_1 1) == 0) = false := beq_eq_false_iff_ne.mpr c23
           have c23b1 : ((Go.bits .and .i64 x8_1 1) != 0) = true := bne_iff_ne.mpr c23
           by_cases c31 : x5_1.size + ((⟨#[0]⟩ : ByteArray) ++ (t486.extract 1 t486.size)).size ≤ 9223372036854775807
           ·rw [if_pos c31] at H
            have c31b0 := eq_true c31
            have c31b1 : decide (x5_1.size + ((⟨#[0]⟩ : ByteArray) ++ (t486.extract 1 t486.size)).size ≤ 9223372036854775807) = true := decide_eq_true c31
            try have c31b2 : (9223372036854775807 < x5_1.size + ((⟨#[0]⟩ : ByteArray) ++ (t486.extract 1 t486.size)).size) = False := eq_false (Nat.not_lt.2 c31)
            have H' := Aside0.mk H
            clear H
            have hz24 : t486.size = 24 := by rcases M.PutEntry_size A7.out with h | h; (· exact h); (· exact absurd (of_eq_true c21b0) (by rw [h]; decide))
            obtain ⟨u_, hu_⟩ : ∃ u_ : ByteArray, (⟨#[0]⟩ : ByteArray) ++ (t486.extract 1 24) = u_ := ⟨_, rfl⟩
            have hus_ : u_.size = 24 := by rw [← hu_, ByteArray.size_append, ByteArray.size_extract, hz24]; rfl
            have hm0_ := of_eq_true c31b0
            rw [hz24, hu_] at hm0_ H'
            rw [hus_] at hm0_
            have hm_ : (9223372036854775807 < x5_1.size + 24) = False := eq_false (by omega)
            clear hm0_
            go_wp2_with (first | ((with_reducible refine gate_dst (N := 9) rfl ?_); refine box_event ?hg (N := 9) ?hd (cs := #[.int .i64 0, .int .i64 0, .int .i64 0, .int .i64 0]) (t := 25) ?hr ?_; (case hd => rfl); (case hg => rfl); (case hr => first | (go_simp; done) | (go_simp; rfl)); intro gb485 hg w32 hbox hb; have n0_ := Aside0.mk (Kd.R_below (by (with_reducible repeat (first | apply Kd.R_alloc | apply Kd.R_drewN | apply Kd.R_drew)); exact HO_6.out) hb); have n1_ := Aside0.mk (below_step (by repeat (first | (with_reducible first | exact HB.out | apply below_alloc | apply pw_below_drewN | apply below_drew1) | exact HB.out)) hb); have n2_ := Aside0.mk (hbox); have n3_ := Aside0.mk ((by rw [hg]; exact (below_size (by repeat (first | (with_reducible first | exact HB.out | apply below_alloc | apply pw_below_drewN | apply below_drew1) | exact HB.out))) : w.heap.size ≤ gb485)); have n4_ := Aside0.mk ((by rw [hg]; exact (below_size (by repeat (first | (with_reducible first | exact HB.out | apply below_alloc | apply pw_below_drewN | apply below_drew1) | exact HB.out))) : w.heap.size ≤ gb485)); clear HO_6; clear HB; have HO_6 := n0_; have HB := n1_; have BK485 := n2_; have GW485 := n3_; have GE485 := n4_; clear n0_ n1_ n2_ n3_ n4_; clear hb hbox hg; have hcz33_0 : w32.cell? ⟨gb485, 0, none⟩ = some (.int .i64 0) := (blk_cell BK485.out 0).trans rfl; have hcz33_1 : w32.cell? ⟨gb485, 1, none⟩ = some (.int .i64 0) := (blk_cell BK485.out 1).trans rfl; have hcz33_2 : w32.cell? ⟨gb485, 2, none⟩ = some (.int .i64 0) := (blk_cell BK485.out 2).trans rfl; have hcz33_3 : w32.cell? ⟨gb485, 3, none⟩ = some (.int .i64 0) := (blk_cell BK485.out 3).trans rfl; have hfz33_0 := blk_frozen BK485.out 0; have hfz33_1 := blk_frozen BK485.out 1; have hfz33_2 := blk_frozen BK485.out 2; have hfz33_3 := blk_frozen BK485.out 3) | ((with_reducible refine gate_callee (f := 29) rfl ?_); refine goesL_ (some 34) rfl rfl Try.func29 (by kernel_rfl) rfl #[.agg #[.int .i64 (wrap64 (1 + x8_1)), .int .i64 (Go.bits .and .i64 x8_1 1), .int .i64 (wrap64 (5 + x8_1)), .int .i64 (wrap64 (100 + x8_1))]] rfl q1_ ?_; (with_reducible refine (Hand.skiffref1_PutEntry.calls k1 (wrap64 (1 + x8_1)) (Go.bits .and .i64 x8_1 1) (wrap64 (5 + x8_1)) (wrap64 (100 + x8_1)) t486 t487 _ A7.out).mono ?_); rintro e w34 ⟨rfl, hb⟩; refine ⟨_, rfl, ?_⟩; have n0_ := Aside0.mk (Kd.R_below (by (with_reducible repeat (first | apply Kd.R_alloc | apply Kd.R_drewN | apply Kd.R_drew)); exact (Kd.R_mono (Kd.R_far (p := ⟨gb485, 3, none⟩) (Kd.R_far (p := ⟨gb485, 2, none⟩) (Kd.R_far (p := ⟨gb485, 1, none⟩) (Kd.R_far (p := ⟨gb485, 0, none⟩) (Kd.R_types HO_6.out BK485.out (by decide)) (fun _ hk => hk.2) (.int .i64 (wrap64 (1 + x8_1)))) (fun _ hk => hk.2) (.int .i64 (Go.bits .and .i64 x8_1 1))) (fun _ hk => hk.2) (.int .i64 (wrap64 (5 + x8_1)))) (fun _ hk => hk.2) (.int .i64 (wrap64 (100 + x8_1)))) (fun _ h_ => h_.1))) hb); have n1_ := Aside0.mk (blk_below (g := gb485) (o := .cells #[.int .i64 (wrap64 (1 + x8_1)), .int .i64 (Go.bits .and .i64 x8_1 1), .int .i64 (wrap64 (5 + x8_1)), .int .i64 (wrap64 (100 + x8_1))] 25 (0, 0)) (by (with_reducible repeat (first | refine blk_drewN ?_ _ | refine blk_drew ?_ | refine blk_alloc ?_ _)); refine blk_put (cs := #[.int .i64 (wrap64 (1 + x8_1)), .int .i64 (Go.bits .and .i64 x8_1 1), .int .i64 (wrap64 (5 + x8_1)), .int .i64 0]) ?_ 3 _ rfl; (with_reducible repeat (first | refine blk_drewN ?_ _ | refine blk_drew ?_ | refine blk_alloc ?_ _)); refine blk_put (cs := #[.int .i64 (wrap64 (1 + x8_1)), .int .i64 (Go.bits .and .i64 x8_1 1), .int .i64 0, .int .i64 0]) ?_ 2 _ rfl; (with_reducible repeat (first | refine blk_drewN ?_ _ | refine blk_drew ?_ | refine blk_alloc ?_ _)); refine blk_put (cs := #[.int .i64 (wrap64 (1 + x8_1)), .int .i64 0, .int .i64 0, .int .i64 0]) ?_ 1 _ rfl; (with_reducible repeat (first | refine blk_drewN ?_ _ | refine blk_drew ?_ | refine blk_alloc ?_ _)); refine blk_put (cs := #[.int .i64 0, .int .i64 0, .int .i64 0, .int .i64 0]) ?_ 0 _ rfl; (with_reducible repeat (first | refine blk_drewN ?_ _ | refine blk_drew ?_ | refine blk_alloc ?_ _)); exact BK485.out) hb); have n2_ := Aside0.mk (below_step (by repeat (first | (with_reducible first | exact HB.out | apply below_alloc | apply pw_below_drewN | apply below_drew1 | refine below_set ?_ GE485.out) | exact HB.out)) hb); clear HO_6; clear BK485; clear HB; have HO_6 := n0_; have BK485 := n1_; have HB := n2_; clear n0_ n1_ n2_; (try clear hb); (try clear hb2); (try clear hk); (try clear hi)))
            go_roundg k1
            case measure => have := HK1.out; omega
            case rel => exact ⟨(x5_1 ++ u_), (x6_1), (x7_1), (wrap64 (x8_1 + 1)), (by first | rfl | (simp; done) | (simp [*]; done)), (by first | rfl | (simp; done) | (simp [*]; done)), (by first | rfl | (simp; done) | (simp [*]; done)), H', ⟨by have := HK1.out; omega⟩, ⟨by (with_reducible repeat (first | apply Kd.R_alloc | apply Kd.R_drewN | apply Kd.R_drew)); exact HO_6.out⟩, ⟨by repeat (first | (with_reducible first | exact HB.out | apply below_alloc | apply pw_below_drewN | apply below_drew1 | refine below_set ?_ GE485.out) | exact HB.out)⟩⟩
           ·rw [if_neg c31] at H
            exact absurd H (by simp)
         ·rw [if_neg c22] at H
          exact absurd H (by simp)
        ·rw [if_neg c21] at H
         exact absurd H (by simp)
       ·rw [if_neg c20] at H
        have c20b0 : ((Go.bits .and .i64 (ji19) 1) == 1) = false := beq_eq_false_iff_ne.mpr c20
        have c20b1 : ((Go.bits .and .i64 (ji19) 1) != 1) = true := bne_iff_ne.mpr c20
        replace H := Option.bind_eq_some_iff.mp H
        obtain ⟨t491, A350, H⟩ := H
        replace H : (if 0 ≤ 24 then (if 24 ≤ (t491.size : Int) then (if x7_1 < 0 then (if x8_1 < 4 then (if x5_1.size + (t491.extract 0 24).size ≤ 9223372036854775807 then (skifflaw5_JournalRow.l0 k1 a0 a1 (x5_1 ++ (t491.extract 0 24)) x6_1 (wrap64 (24 * x8_1)) (wrap64 (x8_1 + 1))) else (none)) else (if x5_1.size + (t491.extract 0 24).size ≤ 9223372036854775807 then (skifflaw5_JournalRow.l0 k1 a0 a1 (x5_1 ++ (t491.extract 0 24)) x6_1 x7_1 (wrap64 (x8_1 + 1))) else (none))) else (if x5_1.size + (t491.extract 0 24).size ≤ 9223372036854775807 then (skifflaw5_JournalRow.l0 k1 a0 a1 (x5_1 ++ (t491.extract 0 24)) x6_1 x7_1 (wrap64 (x8_1 + 1))) else (none))) else (none)) else (none)) = some r := H
        have A35 := Aside0.mk A350
        clear A350
        by_cases c36 : 0 ≤ 24
        ·rw [if_pos c36] at H
         have c36b0 := eq_true c36
         have c36b1 : decide (0 ≤ 24) = true := decide_eq_true c36
         clear c36
         by_cases c37 : 24 ≤ (t491.size : Int)
         ·rw [if_pos c37] at H
          have c37b0 := eq_true c37
          have c37b1 : decide (24 ≤ (t491.size : Int)) = true := decide_eq_true c37
          clear c37
          by_cases c38 : x7_1 < 0
          ·rw [if_pos c38] at H
           have c38b0 : decide (x7_1 < 0) = true := decide_eq_true c38
           clear c38
           by_cases c39 : x8_1 < 4
           ·rw [if_pos c39] at H
            have c39b0 : decide (x8_1 < 4) = true := decide_eq_true c39
            clear c39
            by_cases c40 : x5_1.size + (t491.extract 0 24).size ≤ 9223372036854775807
            ·rw [if_pos c40] at H
             have c40b0 := eq_true c40
             have c40b1 : decide (x5_1.size + (t491.extract 0 24).size ≤ 9223372036854775807) = true := decide_eq_true c40
             try have c40b2 : (9223372036854775807 < x5_1.size + (t491.extract 0 24).size) = False := eq_false (Nat.not_lt.2 c40)
             have H' := Aside0.mk H
             clear H
             go_wp2_with (first | ((with_reducible refine gate_dst (N := 9) rfl ?_); refine box_event ?hg (N := 9) ?hd (cs := #[.int .i64 0, .int .i64 0, .int .i64 0, .int .i64 0]) (t := 25) ?hr ?_; (case hd => rfl); (case hg => rfl); (case hr => first | (go_simp; done) | (go_simp; rfl)); intro gb485 hg w41 hbox hb; have n0_ := Aside0.mk (Kd.R_below (by (with_reducible repeat (first | apply Kd.R_alloc | apply Kd.R_drewN | apply Kd.R_drew)); exact HO_6.out) hb); have n1_ := Aside0.mk (below_step (by repeat (first | (with_reducible first | exact HB.out | apply below_alloc | apply pw_below_drewN | apply below_drew1) | exact HB.out)) hb); have n2_ := Aside0.mk (hbox); have n3_ := Aside0.mk ((by rw [hg]; exact (below_size (by repeat (first | (with_reducible first | exact HB.out | apply below_alloc | apply pw_below_drewN | apply below_drew1) | exact HB.out))) : w.heap.size ≤ gb485)); have n4_ := Aside0.mk ((by rw [hg]; exact (below_size (by repeat (first | (with_reducible first | exact HB.out | apply below_alloc | apply pw_below_drewN | apply below_drew1) | exact HB.out))) : w.heap.size ≤ gb485)); clear HO_6; clear HB; have HO_6 := n0_; have HB := n1_; have BK485 := n2_; have GW485 := n3_; have GE485 := n4_; clear n0_ n1_ n2_ n3_ n4_; clear hb hbox hg; have hcz42_0 : w41.cell? ⟨gb485, 0, none⟩ = some (.int .i64 0) := (blk_cell BK485.out 0).trans rfl; have hcz42_1 : w41.cell? ⟨gb485, 1, none⟩ = some (.int .i64 0) := (blk_cell BK485.out 1).trans rfl; have hcz42_2 : w41.cell? ⟨gb485, 2, none⟩ = some (.int .i64 0) := (blk_cell BK485.out 2).trans rfl; have hcz42_3 : w41.cell? ⟨gb485, 3, none⟩ = some (.int .i64 0) := (blk_cell BK485.out 3).trans rfl; have hfz42_0 := blk_frozen BK485.out 0; have hfz42_1 := blk_frozen BK485.out 1; have hfz42_2 := blk_frozen BK485.out 2; have hfz42_3 := blk_frozen BK485.out 3) | ((with_reducible refine gate_callee (f := 29) rfl ?_); refine goesL_ (some 34) rfl rfl Try.func29 (by kernel_rfl) rfl #[.agg #[.int .i64 (wrap64 (1 + x8_1)), .int .i64 (Go.bits .and .i64 x8_1 1), .int .i64 (wrap64 (5 + x8_1)), .int .i64 (wrap64 (100 + x8_1))]] rfl q1_ ?_; (with_reducible refine (Hand.skiffref1_PutEntry.calls k1 (wrap64 (1 + x8_1)) (Go.bits .and .i64 x8_1 1) (wrap64 (5 + x8_1)) (wrap64 (100 + x8_1)) t486 t487 _ A7.out).mono ?_); rintro e w43 ⟨rfl, hb⟩; refine ⟨_, rfl, ?_⟩; have n0_ := Aside0.mk (Kd.R_below (by (with_reducible repeat (first | apply Kd.R_alloc | apply Kd.R_drewN | apply Kd.R_drew)); exact (Kd.R_mono (Kd.R_far (p := ⟨gb485, 3, none⟩) (Kd.R_far (p := ⟨gb485, 2, none⟩) (Kd.R_far (p := ⟨gb485, 1, none⟩) (Kd.R_far (p := ⟨gb485, 0, none⟩) (Kd.R_types HO_6.out BK485.out (by decide)) (fun _ hk => hk.2) (.int .i64 (wrap64 (1 + x8_1)))) (fun _ hk => hk.2) (.int .i64 (Go.bits .and .i64 x8_1 1))) (fun _ hk => hk.2) (.int .i64 (wrap64 (5 + x8_1)))) (fun _ hk => hk.2) (.int .i64 (wrap64 (100 + x8_1)))) (fun _ h_ => h_.1))) hb); have n1_ := Aside0.mk (blk_below (g := gb485) (o := .cells #[.int .i64 (wrap64 (1 + x8_1)), .int .i64 (Go.bits .and .i64 x8_1 1), .int .i64 (wrap64 (5 + x8_1)), .int .i64 (wrap64 (100 + x8_1))] 25 (0, 0)) (by (with_reducible repeat (first | refine blk_drewN ?_ _ | refine blk_drew ?_ | refine blk_alloc ?_ _)); refine blk_put (cs := #[.int .i64 (wrap64 (1 + x8_1)), .int .i64 (Go.bits .and .i64 x8_1 1), .int .i64 (wrap64 (5 + x8_1)), .int .i64 0]) ?_ 3 _ rfl; (with_reducible repeat (first | refine blk_drewN ?_ _ | refine blk_drew ?_ | refine blk_alloc ?_ _)); refine blk_put (cs := #[.int .i64 (wrap64 (1 + x8_1)), .int .i64 (Go.bits .and .i64 x8_1 1), .int .i64 0, .int .i64 0]) ?_ 2 _ rfl; (with_reducible repeat (first | refine blk_drewN ?_ _ | refine blk_drew ?_ | refine blk_alloc ?_ _)); refine blk_put (cs := #[.int .i64 (wrap64 (1 + x8_1)), .int .i64 0, .int .i64 0, .int .i64 0]) ?_ 1 _ rfl; (with_reducible repeat (first | refine blk_drewN ?_ _ | refine blk_drew ?_ | refine blk_alloc ?_ _)); refine blk_put (cs := #[.int .i64 0, .int .i64 0, .int .i64 0, .int .i64 0]) ?_ 0 _ rfl; (with_reducible repeat (first | refine blk_drewN ?_ _ | refine blk_drew ?_ | refine blk_alloc ?_ _)); exact BK485.out) hb); have n2_ := Aside0.mk (below_step (by repeat (first | (with_reducible first | exact HB.out | apply below_alloc | apply pw_below_drewN | apply below_drew1 | refine below_set ?_ GE485.out) | exact HB.out)) hb); clear HO_6; clear BK485; clear HB; have HO_6 := n0_; have BK485 := n1_; have HB := n2_; clear n0_ n1_ n2_; (try clear hb); (try clear hb2); (try clear hk); (try clear hi)) | ((with_reducible refine gate_callee (f := 27) rfl ?_); refine goesL_ (some 37) rfl rfl Try.func27 (by kernel_rfl) rfl #[] rfl q1_ ?_; (with_reducible refine (skiffref1_Blank.calls k1  t491 _ A35.out).mono ?_); rintro e w44 ⟨rfl, hb⟩; refine ⟨_, rfl, ?_⟩; have n0_ := Aside0.mk (Kd.R_below (by (with_reducible repeat (first | apply Kd.R_alloc | apply Kd.R_drewN | apply Kd.R_drew)); exact HO_6.out) hb); have n1_ := Aside0.mk (blk_below (g := gb485) (o := .cells #[.int .i64 (wrap64 (1 + x8_1)), .int .i64 (Go.bits .and .i64 x8_1 1), .int .i64 (wrap64 (5 + x8_1)), .int .i64 (wrap64 (100 + x8_1))] 25 (0, 0)) (by (with_reducible repeat (first | refine blk_drewN ?_ _ | refine blk_drew ?_ | refine blk_alloc ?_ _)); exact BK485.out) hb); have n2_ := Aside0.mk (below_step (by repeat (first | (with_reducible first | exact HB.out | apply below_alloc | apply pw_below_drewN | apply below_drew1 | refine below_set ?_ GE485.out) | exact HB.out)) hb); clear HO_6; clear BK485; clear HB; have HO_6 := n0_; have BK485 := n1_; have HB := n2_; clear n0_ n1_ n2_; (try clear hb); (try clear hb2); (try clear hk); (try clear hi)))
             go_roundg k1
             case measure => have := HK1.out; omega
             case rel => exact ⟨(x5_1 ++ (t491.extract 0 24)), (x6_1), (wrap64 (24 * x8_1)), (wrap64 (x8_1 + 1)), (by first | rfl | (simp; done) | (simp [*]; done)), (by first | rfl | (simp; done) | (simp [*]; done)), (by first | rfl | (simp; done) | (simp [*]; done)), H', ⟨by have := HK1.out; omega⟩, ⟨by (with_reducible repeat (first | apply Kd.R_alloc | apply Kd.R_drewN | apply Kd.R_drew)); exact HO_6.out⟩, ⟨by repeat (first | (with_reducible first | exact HB.out | apply below_alloc | apply pw_below_drewN | apply below_drew1 | refine below_set ?_ GE485.out) | exact HB.out)⟩⟩
            ·rw [if_neg c40] at H
             exact absurd H (by simp)
           ·rw [if_neg c39] at H
            have c39b0 : decide (x8_1 < 4) = false := decide_eq_false c39
            clear c39
            by_cases c45 : x5_1.size + (t491.extract 0 24).size ≤ 9223372036854775807
            ·rw [if_pos c45] at H
             have c45b0 := eq_true c45
             have c45b1 : decide (x5_1.size + (t491.extract 0 24).size ≤ 9223372036854775807) = true := decide_eq_true c45
             try have c45b2 : (9223372036854775807 < x5_1.size + (t491.extract 0 24).size) = False := eq_false (Nat.not_lt.2 c45)
             have H' := Aside0.mk H
             clear H
             go_wp2_with (first | ((with_reducible refine gate_dst (N := 9) rfl ?_); refine box_event ?hg (N := 9) ?hd (cs := #[.int .i64 0, .int .i64 0, .int .i64 0, .int .i64 0]) (t := 25) ?hr ?_; (case hd => rfl); (case hg => rfl); (case hr => first | (go_simp; done) | (go_simp; rfl)); intro gb485 hg w46 hbox hb; have n0_ := Aside0.mk (Kd.R_below (by (with_reducible repeat (first | apply Kd.R_alloc | apply Kd.R_drewN | apply Kd.R_drew)); exact HO_6.out) hb); have n1_ := Aside0.mk (below_step (by repeat (first | (with_reducible first | exact HB.out | apply below_alloc | apply pw_below_drewN | apply below_drew1) | exact HB.out)) hb); have n2_ := Aside0.mk (hbox); have n3_ := Aside0.mk ((by rw [hg]; exact (below_size (by repeat (first | (with_reducible first | exact HB.out | apply below_alloc | apply pw_below_drewN | apply below_drew1) | exact HB.out))) : w.heap.size ≤ gb485)); have n4_ := Aside0.mk ((by rw [hg]; exact (below_size (by repeat (first | (with_reducible first | exact HB.out | apply below_alloc | apply pw_below_drewN | apply below_drew1) | exact HB.out))) : w.heap.size ≤ gb485)); clear HO_6; clear HB; have HO_6 := n0_; have HB := n1_; have BK485 := n2_; have GW485 := n3_; have GE485 := n4_; clear n0_ n1_ n2_ n3_ n4_; clear hb hbox hg; have hcz47_0 : w46.cell? ⟨gb485, 0, none⟩ = some (.int .i64 0) := (blk_cell BK485.out 0).trans rfl; have hcz47_1 : w46.cell? ⟨gb485, 1, none⟩ = some (.int .i64 0) := (blk_cell BK485.out 1).trans rfl; have hcz47_2 : w46.cell? ⟨gb485, 2, none⟩ = some (.int .i64 0) := (blk_cell BK485.out 2).trans rfl; have hcz47_3 : w46.cell? ⟨gb485, 3, none⟩ = some (.int .i64 0) := (blk_cell BK485.out 3).trans rfl; have hfz47_0 := blk_frozen BK485.out 0; have hfz47_1 := blk_frozen BK485.out 1; have hfz47_2 := blk_frozen BK485.out 2; have hfz47_3 := blk_frozen BK485.out 3) | ((with_reducible refine gate_callee (f := 29) rfl ?_); refine goesL_ (some 34) rfl rfl Try.func29 (by kernel_rfl) rfl #[.agg #[.int .i64 (wrap64 (1 + x8_1)), .int .i64 (Go.bits .and .i64 x8_1 1), .int .i64 (wrap64 (5 + x8_1)), .int .i64 (wrap64 (100 + x8_1))]] rfl q1_ ?_; (with_reducible refine (Hand.skiffref1_PutEntry.calls k1 (wrap64 (1 + x8_1)) (Go.bits .and .i64 x8_1 1) (wrap64 (5 + x8_1)) (wrap64 (100 + x8_1)) t486 t487 _ A7.out).mono ?_); rintro e w48 ⟨rfl, hb⟩; refine ⟨_, rfl, ?_⟩; have n0_ := Aside0.mk (Kd.R_below (by (with_reducible repeat (first | apply Kd.R_alloc | apply Kd.R_drewN | apply Kd.R_drew)); exact (Kd.R_mono (Kd.R_far (p := ⟨gb485, 3, none⟩) (Kd.R_far (p := ⟨gb485, 2, none⟩) (Kd.R_far (p := ⟨gb485, 1, none⟩) (Kd.R_far (p := ⟨gb485, 0, none⟩) (Kd.R_types HO_6.out BK485.out (by decide)) (fun _ hk => hk.2) (.int .i64 (wrap64 (1 + x8_1)))) (fun _ hk => hk.2) (.int .i64 (Go.bits .and .i64 x8_1 1))) (fun _ hk => hk.2) (.int .i64 (wrap64 (5 + x8_1)))) (fun _ hk => hk.2) (.int .i64 (wrap64 (100 + x8_1)))) (fun _ h_ => h_.1))) hb); have n1_ := Aside0.mk (blk_below (g := gb485) (o := .cells #[.int .i64 (wrap64 (1 + x8_1)), .int .i64 (Go.bits .and .i64 x8_1 1), .int .i64 (wrap64 (5 + x8_1)), .int .i64 (wrap64 (100 + x8_1))] 25 (0, 0)) (by (with_reducible repeat (first | refine blk_drewN ?_ _ | refine blk_drew ?_ | refine blk_alloc ?_ _)); refine blk_put (cs := #[.int .i64 (wrap64 (1 + x8_1)), .int .i64 (Go.bits .and .i64 x8_1 1), .int .i64 (wrap64 (5 + x8_1)), .int .i64 0]) ?_ 3 _ rfl; (with_reducible repeat (first | refine blk_drewN ?_ _ | refine blk_drew ?_ | refine blk_alloc ?_ _)); refine blk_put (cs := #[.int .i64 (wrap64 (1 + x8_1)), .int .i64 (Go.bits .and .i64 x8_1 1), .int .i64 0, .int .i64 0]) ?_ 2 _ rfl; (with_reducible repeat (first | refine blk_drewN ?_ _ | refine blk_drew ?_ | refine blk_alloc ?_ _)); refine blk_put (cs := #[.int .i64 (wrap64 (1 + x8_1)), .int .i64 0, .int .i64 0, .int .i64 0]) ?_ 1 _ rfl; (with_reducible repeat (first | refine blk_drewN ?_ _ | refine blk_drew ?_ | refine blk_alloc ?_ _)); refine blk_put (cs := #[.int .i64 0, .int .i64 0, .int .i64 0, .int .i64 0]) ?_ 0 _ rfl; (with_reducible repeat (first | refine blk_drewN ?_ _ | refine blk_drew ?_ | refine blk_alloc ?_ _)); exact BK485.out) hb); have n2_ := Aside0.mk (below_step (by repeat (first | (with_reducible first | exact HB.out | apply below_alloc | apply pw_below_drewN | apply below_drew1 | refine below_set ?_ GE485.out) | exact HB.out)) hb); clear HO_6; clear BK485; clear HB; have HO_6 := n0_; have BK485 := n1_; have HB := n2_; clear n0_ n1_ n2_; (try clear hb); (try clear hb2); (try clear hk); (try clear hi)) | ((with_reducible refine gate_callee (f := 27) rfl ?_); refine goesL_ (some 37) rfl rfl Try.func27 (by kernel_rfl) rfl #[] rfl q1_ ?_; (with_reducible refine (skiffref1_Blank.calls k1  t491 _ A35.out).mono ?_); rintro e w49 ⟨rfl, hb⟩; refine ⟨_, rfl, ?_⟩; have n0_ := Aside0.mk (Kd.R_below (by (with_reducible repeat (first | apply Kd.R_alloc | apply Kd.R_drewN | apply Kd.R_drew)); exact HO_6.out) hb); have n1_ := Aside0.mk (blk_below (g := gb485) (o := .cells #[.int .i64 (wrap64 (1 + x8_1)), .int .i64 (Go.bits .and .i64 x8_1 1), .int .i64 (wrap64 (5 + x8_1)), .int .i64 (wrap64 (100 + x8_1))] 25 (0, 0)) (by (with_reducible repeat (first | refine blk_drewN ?_ _ | refine blk_drew ?_ | refine blk_alloc ?_ _)); exact BK485.out) hb); have n2_ := Aside0.mk (below_step (by repeat (first | (with_reducible first | exact HB.out | apply below_alloc | apply pw_below_drewN | apply below_drew1 | refine below_set ?_ GE485.out) | exact HB.out)) hb); clear HO_6; clear BK485; clear HB; have HO_6 := n0_; have BK485 := n1_; have HB := n2_; clear n0_ n1_ n2_; (try clear hb); (try clear hb2); (try clear hk); (try clear hi)))
             go_roundg k1
             case measure => have := HK1.out; omega
             case rel => exact ⟨(x5_1 ++ (t491.extract 0 24)), (x6_1), (x7_1), (wrap64 (x8_1 + 1)), (by first | rfl | (simp; done) | (simp [*]; done)), (by first | rfl | (simp; done) | (simp [*]; done)), (by first | rfl | (simp; done) | (simp [*]; done)), H', ⟨by have := HK1.out; omega⟩, ⟨by (with_reducible repeat (first | apply Kd.R_alloc | apply Kd.R_drewN | apply Kd.R_drew)); exact HO_6.out⟩, ⟨by repeat (first | (with_reducible first | exact HB.out | apply below_alloc | apply pw_below_drewN | apply below_drew1 | refine below_set ?_ GE485.out) | exact HB.out)⟩⟩
            ·rw [if_neg c45] at H
             exact absurd H (by simp)
          ·rw [if_neg c38] at H
           have c38b0 : decide (x7_1 < 0) = false := decide_eq_false c38
           clear c38
           by_cases c50 : x5_1.size + (t491.extract 0 24).size ≤ 9223372036854775807
           ·rw [if_pos c50] at H
            have c50b0 := eq_true c50
            have c50b1 : decide (x5_1.size + (t491.extract 0 24).size ≤ 9223372036854775807) = true := decide_eq_true c50
            try have c50b2 : (9223372036854775807 < x5_1.size + (t491.extract 0 24).size) = False := eq_false (Nat.not_lt.2 c50)
            have H' := Aside0.mk H
            clear H
            go_wp2_with (first | ((with_reducible refine gate_dst (N := 9) rfl ?_); refine box_event ?hg (N := 9) ?hd (cs := #[.int .i64 0, .int .i64 0, .int .i64 0, .int .i64 0]) (t := 25) ?hr ?_; (case hd => rfl); (case hg => rfl); (case hr => first | (go_simp; done) | (go_simp; rfl)); intro gb485 hg w51 hbox hb; have n0_ := Aside0.mk (Kd.R_below (by (with_reducible repeat (first | apply Kd.R_alloc | apply Kd.R_drewN | apply Kd.R_drew)); exact HO_6.out) hb); have n1_ := Aside0.mk (below_step (by repeat (first | (with_reducible first | exact HB.out | apply below_alloc | apply pw_below_drewN | apply below_drew1) | exact HB.out)) hb); have n2_ := Aside0.mk (hbox); have n3_ := Aside0.mk ((by rw [hg]; exact (below_size (by repeat (first | (with_reducible first | exact HB.out | apply below_alloc | apply pw_below_drewN | apply below_drew1) | exact HB.out))) : w.heap.size ≤ gb485)); have n4_ := Aside0.mk ((by rw [hg]; exact (below_size (by repeat (first | (with_reducible first | exact HB.out | apply below_alloc | apply pw_below_drewN | apply below_drew1) | exact HB.out))) : w.heap.size ≤ gb485)); clear HO_6; clear HB; have HO_6 := n0_; have HB := n1_; have BK485 := n2_; have GW485 := n3_; have GE485 := n4_; clear n0_ n1_ n2_ n3_ n4_; clear hb hbox hg; have hcz52_0 : w51.cell? ⟨gb485, 0, none⟩ = some (.int .i64 0) := (blk_cell BK485.out 0).trans rfl; have hcz52_1 : w51.cell? ⟨gb485, 1, none⟩ = some (.int .i64 0) := (blk_cell BK485.out 1).trans rfl; have hcz52_2 : w51.cell? ⟨gb485, 2, none⟩ = some (.int .i64 0) := (blk_cell BK485.out 2).trans rfl; have hcz52_3 : w51.cell? ⟨gb485, 3, none⟩ = some (.int .i64 0) := (blk_cell BK485.out 3).trans rfl; have hfz52_0 := blk_frozen BK485.out 0; have hfz52_1 := blk_frozen BK485.out 1; have hfz52_2 := blk_frozen BK485.out 2; have hfz52_3 := blk_frozen BK485.out 3) | ((with_reducible refine gate_callee (f := 29) rfl ?_); refine goesL_ (some 34) rfl rfl Try.func29 (by kernel_rfl) rfl #[.agg #[.int .i64 (wrap64 (1 + x8_1)), .int .i64 (Go.bits .and .i64 x8_1 1), .int .i64 (wrap64 (5 + x8_1)), .int .i64 (wrap64 (100 + x8_1))]] rfl q1_ ?_; (with_reducible refine (Hand.skiffref1_PutEntry.calls k1 (wrap64 (1 + x8_1)) (Go.bits .and .i64 x8_1 1) (wrap64 (5 + x8_1)) (wrap64 (100 + x8_1)) t486 t487 _ A7.out).mono ?_); rintro e w53 ⟨rfl, hb⟩; refine ⟨_, rfl, ?_⟩; have n0_ := Aside0.mk (Kd.R_below (by (with_reducible repeat (first | apply Kd.R_alloc | apply Kd.R_drewN | apply Kd.R_drew)); exact (Kd.R_mono (Kd.R_far (p := ⟨gb485, 3, none⟩) (Kd.R_far (p := ⟨gb485, 2, none⟩) (Kd.R_far (p := ⟨gb485, 1, none⟩) (Kd.R_far (p := ⟨gb485, 0, none⟩) (Kd.R_types HO_6.out BK485.out (by decide)) (fun _ hk => hk.2) (.int .i64 (wrap64 (1 + x8_1)))) (fun _ hk => hk.2) (.int .i64 (Go.bits .and .i64 x8_1 1))) (fun _ hk => hk.2) (.int .i64 (wrap64 (5 + x8_1)))) (fun _ hk => hk.2) (.int .i64 (wrap64 (100 + x8_1)))) (fun _ h_ => h_.1))) hb); have n1_ := Aside0.mk (blk_below (g := gb485) (o := .cells #[.int .i64 (wrap64 (1 + x8_1)), .int .i64 (Go.bits .and .i64 x8_1 1), .int .i64 (wrap64 (5 + x8_1)), .int .i64 (wrap64 (100 + x8_1))] 25 (0, 0)) (by (with_reducible repeat (first | refine blk_drewN ?_ _ | refine blk_drew ?_ | refine blk_alloc ?_ _)); refine blk_put (cs := #[.int .i64 (wrap64 (1 + x8_1)), .int .i64 (Go.bits .and .i64 x8_1 1), .int .i64 (wrap64 (5 + x8_1)), .int .i64 0]) ?_ 3 _ rfl; (with_reducible repeat (first | refine blk_drewN ?_ _ | refine blk_drew ?_ | refine blk_alloc ?_ _)); refine blk_put (cs := #[.int .i64 (wrap64 (1 + x8_1)), .int .i64 (Go.bits .and .i64 x8_1 1), .int .i64 0, .int .i64 0]) ?_ 2 _ rfl; (with_reducible repeat (first | refine blk_drewN ?_ _ | refine blk_drew ?_ | refine blk_alloc ?_ _)); refine blk_put (cs := #[.int .i64 (wrap64 (1 + x8_1)), .int .i64 0, .int .i64 0, .int .i64 0]) ?_ 1 _ rfl; (with_reducible repeat (first | refine blk_drewN ?_ _ | refine blk_drew ?_ | refine blk_alloc ?_ _)); refine blk_put (cs := #[.int .i64 0, .int .i64 0, .int .i64 0, .int .i64 0]) ?_ 0 _ rfl; (with_reducible repeat (first | refine blk_drewN ?_ _ | refine blk_drew ?_ | refine blk_alloc ?_ _)); exact BK485.out) hb); have n2_ := Aside0.mk (below_step (by repeat (first | (with_reducible first | exact HB.out | apply below_alloc | apply pw_below_drewN | apply below_drew1 | refine below_set ?_ GE485.out) | exact HB.out)) hb); clear HO_6; clear BK485; clear HB; have HO_6 := n0_; have BK485 := n1_; have HB := n2_; clear n0_ n1_ n2_; (try clear hb); (try clear hb2); (try clear hk); (try clear hi)) | ((with_reducible refine gate_callee (f := 27) rfl ?_); refine goesL_ (some 37) rfl rfl Try.func27 (by kernel_rfl) rfl #[] rfl q1_ ?_; (with_reducible refine (skiffref1_Blank.calls k1  t491 _ A35.out).mono ?_); rintro e w54 ⟨rfl, hb⟩; refine ⟨_, rfl, ?_⟩; have n0_ := Aside0.mk (Kd.R_below (by (with_reducible repeat (first | apply Kd.R_alloc | apply Kd.R_drewN | apply Kd.R_drew)); exact HO_6.out) hb); have n1_ := Aside0.mk (blk_below (g := gb485) (o := .cells #[.int .i64 (wrap64 (1 + x8_1)), .int .i64 (Go.bits .and .i64 x8_1 1), .int .i64 (wrap64 (5 + x8_1)), .int .i64 (wrap64 (100 + x8_1))] 25 (0, 0)) (by (with_reducible repeat (first | refine blk_drewN ?_ _ | refine blk_drew ?_ | refine blk_alloc ?_ _)); exact BK485.out) hb); have n2_ := Aside0.mk (below_step (by repeat (first | (with_reducible first | exact HB.out | apply below_alloc | apply pw_below_drewN | apply below_drew1 | refine below_set ?_ GE485.out) | exact HB.out)) hb); clear HO_6; clear BK485; clear HB; have HO_6 := n0_; have BK485 := n1_; have HB := n2_; clear n0_ n1_ n2_; (try clear hb); (try clear hb2); (try clear hk); (try clear hi)))
            go_roundg k1
            case measure => have := HK1.out; omega
            case rel => exact ⟨(x5_1 ++ (t491.extract 0 24)), (x6_1), (x7_1), (wrap64 (x8_1 + 1)), (by first | rfl | (simp; done) | (simp [*]; done)), (by first | rfl | (simp; done) | (simp [*]; done)), (by first | rfl | (simp; done) | (simp [*]; done)), H', ⟨by have := HK1.out; omega⟩, ⟨by (with_reducible repeat (first | apply Kd.R_alloc | apply Kd.R_drewN | apply Kd.R_drew)); exact HO_6.out⟩, ⟨by repeat (first | (with_reducible first | exact HB.out | apply below_alloc | apply pw_below_drewN | apply below_drew1 | refine below_set ?_ GE485.out) | exact HB.out)⟩⟩
           ·rw [if_neg c50] at H
            exact absurd H (by simp)
         ·rw [if_neg c37] at H
          exact absurd H (by simp)
        ·rw [if_neg c36] at H
         exact absurd H (by simp)
     ·rw [if_neg c8] at H
      exact absurd H (by simp)
    ·rw [if_neg c6] at H
     have c6b0 : decide (x8_1 < 8) = false := decide_eq_false c6
     clear c6
     replace H := Option.bind_eq_some_iff.mp H
     obtain ⟨t492, A550, H⟩ := H
     replace H : (if 192 ≤ (t492.size : Int) then (if x5_1.size + (t492.extract 192 t492.size).size ≤ 9223372036854775807 then ((journal_Scan.f k1 (x5_1 ++ (t492.extract 192 t492.size))).bind fun bt493 => ((journal_Free.f k1 (x5_1 ++ (t492.extract 192 t492.size)) 0).bind fun bt497 => ((skifflaw0_Num.f bt493.2).bind fun t500 => (if t500 = 0 then ((skifflaw0_SamePlaces.f k1 bt493.1 x6_1).bind fun t501 => (if t501 = true then ((skifflaw0_Num.f bt497.2.2).bind fun t502 => (if t502 = 0 then (if (bt497.2.1 == (decide (x7_1 ≥ 0))) = true then (if bt497.2.1 = true then (some (bt497.1 == x7_1)) else (some true)) else (none)) else (none))) else (none))) else (none))))) else (none)) else (none)) = some r := H
     have A55 := Aside0.mk A550
     clear A550
     by_cases c56 : 192 ≤ (t492.size : Int)
     ·rw [if_pos c56] at H
      have c56b0 := eq_true c56
      have c56b1 : decide (192 ≤ (t492.size : Int)) = true := decide_eq_true c56
      clear c56
      by_cases c57 : x5_1.size + (t492.extract 192 t492.size).size ≤ 9223372036854775807
      ·rw [if_pos c57] at H
       have c57b0 := eq_true c57
       have c57b1 : decide (x5_1.size + (t492.extract 192 t492.size).size ≤ 9223372036854775807) = true := decide_eq_true c57
       try have c57b2 : (9223372036854775807 < x5_1.size + (t492.extract 192 t492.size).size) = False := eq_false (Nat.not_lt.2 c57)
       replace H := Option.bind_eq_some_iff.mp H
       obtain ⟨⟨t493, t494⟩, A580, H⟩ := H
       replace H : ((journal_Free.f k1 (x5_1 ++ (t492.extract 192 t492.size)) 0).bind fun bt497 => ((skifflaw0_Num.f t494).bind fun t500 => (if t500 = 0 then ((skifflaw0_SamePlaces.f k1 t493 x6_1).bind fun t501 => (if t501 = true then ((skifflaw0_Num.f bt497.2.2).bind fun t502 => (if t502 = 0 then (if (bt497.2.1 == (decide (x7_1 ≥ 0))) = true then (if bt497.2.1 = true then (some (bt497.1 == x7_1)) else (some true)) else (none)) else (none))) else (none))) else (none)))) = some r := H
       have A58 := Aside0.mk A580
       clear A580
       replace H := Option.bind_eq_some_iff.mp H
       obtain ⟨⟨t497, t498, t499⟩, A590, H⟩ := H
       replace H : ((skifflaw0_Num.f t494).bind fun t500 => (if t500 = 0 then ((skifflaw0_SamePlaces.f k1 t493 x6_1).bind fun t501 => (if t501 = true then ((skifflaw0_Num.f t499).bind fun t502 => (if t502 = 0 then (if (t498 == (decide (x7_1 ≥ 0))) = true then (if t498 = true then (some (t497 == x7_1)) else (some true)) else (none)) else (none))) else (none))) else (none))) = some r := H
       have A59 := Aside0.mk A590
       clear A590
       replace H := Option.bind_eq_some_iff.mp H
       obtain ⟨t500, A600, H⟩ := H
       replace H : (if t500 = 0 then ((skifflaw0_SamePlaces.f k1 t493 x6_1).bind fun t501 => (if t501 = true then ((skifflaw0_Num.f t499).bind fun t502 => (if t502 = 0 then (if (t498 == (decide (x7_1 ≥ 0))) = true then (if t498 = true then (some (t497 == x7_1)) else (some true)) else (none)) else (none))) else (none))) else (none)) = some r := H
       have A60 := Aside0.mk A600
       clear A600
       by_cases c61 : t500 = 0
       ·rw [if_pos c61] at H
        have c61b0 : (t500 == 0) = true := beq_iff_eq.mpr c61
        have c61b1 : (t500 != 0) = false := bne_eq_false_iff_eq.mpr c61
        clear c61
        replace H := Option.bind_eq_some_iff.mp H
        obtain ⟨t501, A620, H⟩ := H
        replace H : (if t501 = true then ((skifflaw0_Num.f t499).bind fun t502 => (if t502 = 0 then (if (t498 == (decide (x7_1 ≥ 0))) = true then (if t498 = true then (some (t497 == x7_1)) else (some true)) else (none)) else (none))) else (none)) = some r := H
        have A62 := Aside0.mk A620
        clear A620
        by_cases c63 : t501 = true
        ·subst c63
         have H1 : ((skifflaw0_Num.f t499).bind fun t502 => (if t502 = 0 then (if (t498 == (decide (x7_1 ≥ 0))) = true then (if t498 = true then (some (t497 == x7_1)) else (some true)) else (none)) else (none))) = some r := by rw [if_pos rfl] at H; exact H
         clear H
         have H := H1
         clear H1
         replace H := Option.bind_eq_some_iff.mp H
         obtain ⟨t502, A640, H⟩ := H
         replace H : (if t502 = 0 then (if (t498 == (decide (x7_1 ≥ 0))) = true then (if t498 = true then (some (t497 == x7_1)) else (some true)) else (none)) else (none)) = some r := H
         have A64 := Aside0.mk A640
         clear A640
         by_cases c65 : t502 = 0
         ·rw [if_pos c65] at H
          have c65b0 : (t502 == 0) = true := beq_iff_eq.mpr c65
          have c65b1 : (t502 != 0) = false := bne_eq_false_iff_eq.mpr c65
          clear c65
          by_cases c66 : (t498 == (decide (x7_1 ≥ 0))) = true
          ·rw [if_pos c66] at H
           have c66b0 : (t498 == (decide (x7_1 ≥ 0))) = true := c66
           (try (have c66b1 : decide (t498 = (decide (x7_1 ≥ 0))) = true := by simpa using c66))
           (try (have c66b2 : (t498 == (decide (x7_1 ≥ 0))) = true := by simpa using c66))
           clear c66
           by_cases c67 : t498 = true
           ·subst c67
            have H1 : (some (t497 == x7_1)) = some r := by rw [if_pos rfl] at H; exact H
            clear H
            have H := H1
            clear H1
            obtain rfl := Option.some.inj H
            go_wp2_with (first | ((with_reducible refine gate_callee (f := 27) rfl ?_); refine goesL_ (some 79) rfl rfl Try.func27 (by kernel_rfl) rfl #[] rfl q1_ ?_; (with_reducible refine (skiffref1_Blank.calls k1  t492 _ A55.out).mono ?_); rintro e w68 ⟨rfl, hb⟩; refine ⟨_, rfl, ?_⟩; have n0_ := Aside0.mk (Kd.R_below (by (with_reducible repeat (first | apply Kd.R_alloc | apply Kd.R_drewN | apply Kd.R_drew)); exact HO_6.out) hb); have n1_ := Aside0.mk (below_step (by repeat (first | (with_reducible first | exact HB.out | apply below_alloc | apply pw_below_drewN | apply below_drew1) | exact HB.out)) hb); clear HO_6; clear HB; have HO_6 := n0_; have HB := n1_; clear n0_ n1_; (try clear hb); (try clear hb2); (try clear hk); (try clear hi)) | ((with_reducible refine gate_callee (f := 30) rfl ?_); refine goesL_ (some 84) rfl rfl Try.func30 (by kernel_rfl) rfl #[.string (x5_1 ++ (t492.extract 192 t492.size))] rfl q1_ ?_; (with_reducible refine (journal_Scan.calls k1 (x5_1 ++ (t492.extract 192 t492.size)) t493 t494 _ A58.out).mono ?_); rintro e w69 ⟨v495, rfl, ho0, hb⟩; refine ⟨_, rfl, ?_⟩; have n0_ := Aside0.mk (Kd.R_elder' (by (with_reducible repeat (first | apply Kd.R_alloc | apply Kd.R_drewN | apply Kd.R_drew)); exact HO_6.out) (Kd.R_base ho0) hb); have n1_ := Aside0.mk (Kd.R_lower (Kd.R_new' ho0 (Kd.R_lt (by (with_reducible repeat (first | apply Kd.R_alloc | apply Kd.R_drewN | apply Kd.R_drew)); exact HO_6.out))) (below_size (by repeat (first | (with_reducible first | exact HB.out | apply below_alloc | apply pw_below_drewN | apply below_drew1) | exact HB.out)))); have n2_ := Aside0.mk (below_step (by repeat (first | (with_reducible first | exact HB.out | apply below_alloc | apply pw_below_drewN | apply below_drew1) | exact HB.out)) hb); clear HO_6; clear HB; have HO_6 := n0_; have HO496 := n1_; have HB := n2_; clear n0_ n1_ n2_; (try clear hb); (try clear hb2); (try clear hk); (try clear hi); (try clear ho0)) | ((with_reducible refine gate_callee (f := 31) rfl ?_); refine goesL_ (some 89) rfl rfl Try.func31 (by kernel_rfl) rfl #[.string (x5_1 ++ (t492.extract 192 t492.size)), .int .i64 0] rfl q1_ ?_; (with_reducible refine (journal_Free.calls k1 (x5_1 ++ (t492.extract 192 t492.size)) 0 t497 true t499 _ A59.out).mono ?_); rintro e w70 ⟨rfl, hb⟩; refine ⟨_, rfl, ?_⟩; have n0_ := Aside0.mk (Kd.R_below (by (with_reducible repeat (first | apply Kd.R_alloc | apply Kd.R_drewN | apply Kd.R_drew)); exact HO_6.out) hb); have n1_ := Aside0.mk (Kd.R_below (by (with_reducible repeat (first | apply Kd.R_alloc | apply Kd.R_drewN | apply Kd.R_drew)); exact HO496.out) hb); have n2_ := Aside0.mk (below_step (by repeat (first | (with_reducible first | exact HB.out | apply below_alloc | apply pw_below_drewN | apply below_drew1) | exact HB.out)) hb); clear HO_6; clear HO496; clear HB; have HO_6 := n0_; have HO496 := n1_; have HB := n2_; clear n0_ n1_ n2_; (try clear hb); (try clear hb2); (try clear hk); (try clear hi)) | ((with_reducible refine gate_callee (f := 13) rfl ?_); refine goesL_ (some 94) rfl rfl Try.func13 (by kernel_rfl) rfl #[.int .i64 t494] rfl q1_ ?_; (with_reducible refine (skifflaw0_Num.calls t494 t500 _ A60.out).mono ?_); rintro e w' ⟨rfl, ⟨nd, rfl⟩⟩; refine ⟨_, rfl, ?_⟩; obtain ⟨Ao71, co71, eo71⟩ := Kd.R_slice HO496.out; subst eo71; obtain ⟨Ao72, co72, eo72⟩ := Kd.R_slice HO_6.out; subst eo72) | (go_at_call 32; (with_reducible refine (skifflaw0_SamePlaces.calls k1 _ _ t493 _ _ x6_1 true _ ?side1 ?side2 ?side3 ?side4 A62.out).mono ?_); (case side1 => repeat (first | exact (Kd.R_reads' HO496.out).2.2 | (with_reducible refine Kd.C_alloc ?_ _) | (with_reducible refine Kd.C_drewN ?_ _) | (with_reducible refine Kd.C_drew ?_))); (case side2 => exact (Kd.R_reads' HO496.out).2.1); (case side3 => repeat (first | exact (Kd.R_reads' HO_6.out).2.2 | (with_reducible refine Kd.C_alloc ?_ _) | (with_reducible refine Kd.C_drewN ?_ _) | (with_reducible refine Kd.C_drew ?_))); (case side4 => exact (Kd.R_reads' HO_6.out).2.1); rintro e w' ⟨rfl, ⟨nd, rfl⟩⟩) | (go_at_call 13; (with_reducible refine (skifflaw0_Num.calls t499 t502 _ A64.out).mono ?_); rintro e w' ⟨rfl, ⟨nd, rfl⟩⟩))
            go_ret
            exact ⟨by first | rfl | (simp [errW_none, errW_some] <;> rfl) | (simp [*, errW_none, errW_some] <;> rfl), by repeat (first | (with_reducible first | exact HB.out | apply below_alloc | apply pw_below_drewN | apply below_drew1) | exact HB.out)⟩
           ·replace c67 := Bool.eq_false_iff.mpr c67
            subst c67
            have H1 : (some true) = some r := by rw [if_neg (show ¬ (false = true) by decide)] at H; exact H
            clear H
            have H := H1
            clear H1
            obtain rfl := Option.some.inj H
            go_wp2_with (first | ((with_reducible refine gate_callee (f := 27) rfl ?_); refine goesL_ (some 79) rfl rfl Try.func27 (by kernel_rfl) rfl #[] rfl q1_ ?_; (with_reducible refine (skiffref1_Blank.calls k1  t492 _ A55.out).mono ?_); rintro e w73 ⟨rfl, hb⟩; refine ⟨_, rfl, ?_⟩; have n0_ := Aside0.mk (Kd.R_below (by (with_reducible repeat (first | apply Kd.R_alloc | apply Kd.R_drewN | apply Kd.R_drew)); exact HO_6.out) hb); have n1_ := Aside0.mk (below_step (by repeat (first | (with_reducible first | exact HB.out | apply below_alloc | apply pw_below_drewN | apply below_drew1) | exact HB.out)) hb); clear HO_6; clear HB; have HO_6 := n0_; have HB := n1_; clear n0_ n1_; (try clear hb); (try clear hb2); (try clear hk); (try clear hi)) | ((with_reducible refine gate_callee (f := 30) rfl ?_); refine goesL_ (some 84) rfl rfl Try.func30 (by kernel_rfl) rfl #[.string (x5_1 ++ (t492.extract 192 t492.size))] rfl q1_ ?_; (with_reducible refine (journal_Scan.calls k1 (x5_1 ++ (t492.extract 192 t492.size)) t493 t494 _ A58.out).mono ?_); rintro e w74 ⟨v495, rfl, ho0, hb⟩; refine ⟨_, rfl, ?_⟩; have n0_ := Aside0.mk (Kd.R_elder' (by (with_reducible repeat (first | apply Kd.R_alloc | apply Kd.R_drewN | apply Kd.R_drew)); exact HO_6.out) (Kd.R_base ho0) hb); have n1_ := Aside0.mk (Kd.R_lower (Kd.R_new' ho0 (Kd.R_lt (by (with_reducible repeat (first | apply Kd.R_alloc | apply Kd.R_drewN | apply Kd.R_drew)); exact HO_6.out))) (below_size (by repeat (first | (with_reducible first | exact HB.out | apply below_alloc | apply pw_below_drewN | apply below_drew1) | exact HB.out)))); have n2_ := Aside0.mk (below_step (by repeat (first | (with_reducible first | exact HB.out | apply below_alloc | apply pw_below_drewN | apply below_drew1) | exact HB.out)) hb); clear HO_6; clear HB; have HO_6 := n0_; have HO496 := n1_; have HB := n2_; clear n0_ n1_ n2_; (try clear hb); (try clear hb2); (try clear hk); (try clear hi); (try clear ho0)) | ((with_reducible refine gate_callee (f := 31) rfl ?_); refine goesL_ (some 89) rfl rfl Try.func31 (by kernel_rfl) rfl #[.string (x5_1 ++ (t492.extract 192 t492.size)), .int .i64 0] rfl q1_ ?_; (with_reducible refine (journal_Free.calls k1 (x5_1 ++ (t492.extract 192 t492.size)) 0 t497 false t499 _ A59.out).mono ?_); rintro e w75 ⟨rfl, hb⟩; refine ⟨_, rfl, ?_⟩; have n0_ := Aside0.mk (Kd.R_below (by (with_reducible repeat (first | apply Kd.R_alloc | apply Kd.R_drewN | apply Kd.R_drew)); exact HO_6.out) hb); have n1_ := Aside0.mk (Kd.R_below (by (with_reducible repeat (first | apply Kd.R_alloc | apply Kd.R_drewN | apply Kd.R_drew)); exact HO496.out) hb); have n2_ := Aside0.mk (below_step (by repeat (first | (with_reducible first | exact HB.out | apply below_alloc | apply pw_below_drewN | apply below_drew1) | exact HB.out)) hb); clear HO_6; clear HO496; clear HB; have HO_6 := n0_; have HO496 := n1_; have HB := n2_; clear n0_ n1_ n2_; (try clear hb); (try clear hb2); (try clear hk); (try clear hi)) | ((with_reducible refine gate_callee (f := 13) rfl ?_); refine goesL_ (some 94) rfl rfl Try.func13 (by kernel_rfl) rfl #[.int .i64 t494] rfl q1_ ?_; (with_reducible refine (skifflaw0_Num.calls t494 t500 _ A60.out).mono ?_); rintro e w' ⟨rfl, ⟨nd, rfl⟩⟩; refine ⟨_, rfl, ?_⟩; obtain ⟨Ao76, co76, eo76⟩ := Kd.R_slice HO496.out; subst eo76; obtain ⟨Ao77, co77, eo77⟩ := Kd.R_slice HO_6.out; subst eo77) | (go_at_call 32; (with_reducible refine (skifflaw0_SamePlaces.calls k1 _ _ t493 _ _ x6_1 true _ ?side1 ?side2 ?side3 ?side4 A62.out).mono ?_); (case side1 => repeat (first | exact (Kd.R_reads' HO496.out).2.2 | (with_reducible refine Kd.C_alloc ?_ _) | (with_reducible refine Kd.C_drewN ?_ _) | (with_reducible refine Kd.C_drew ?_))); (case side2 => exact (Kd.R_reads' HO496.out).2.1); (case side3 => repeat (first | exact (Kd.R_reads' HO_6.out).2.2 | (with_reducible refine Kd.C_alloc ?_ _) | (with_reducible refine Kd.C_drewN ?_ _) | (with_reducible refine Kd.C_drew ?_))); (case side4 => exact (Kd.R_reads' HO_6.out).2.1); rintro e w' ⟨rfl, ⟨nd, rfl⟩⟩) | (go_at_call 13; (with_reducible refine (skifflaw0_Num.calls t499 t502 _ A64.out).mono ?_); rintro e w' ⟨rfl, ⟨nd, rfl⟩⟩))
            go_ret
            exact ⟨by first | rfl | (simp [errW_none, errW_some] <;> rfl) | (simp [*, errW_none, errW_some] <;> rfl), by repeat (first | (with_reducible first | exact HB.out | apply below_alloc | apply pw_below_drewN | apply below_drew1) | exact HB.out)⟩
          ·rw [if_neg c66] at H
           exact absurd H (by simp)
         ·rw [if_neg c65] at H
          exact absurd H (by simp)
        ·replace c63 := Bool.eq_false_iff.mpr c63
         subst c63
         have H1 : (none) = some r := by rw [if_neg (show ¬ (false = true) by decide)] at H; exact H
         clear H
         have H := H1
         clear H1
         exact absurd H (by simp)
       ·rw [if_neg c61] at H
        exact absurd H (by simp)
      ·rw [if_neg c57] at H
       exact absurd H (by simp)
     ·rw [if_neg c56] at H
      exact absurd H (by simp)
 ·replace c4 := Bool.eq_false_iff.mpr c4
  subst c4
  have H1 : (none) = some r := by rw [if_neg (show ¬ (false = true) by decide)] at H; exact H
  clear H
  have H := H1
  clear H1
  exact absurd H (by simp)
/-- THE ONE PURE STATEMENT of skifflaw5_JournalRow: yours. -/
def skifflaw5_JournalRow.Pure : Prop := ∀ (a0 : Int) (a1 : Int), (Lit.int .i64 a0).wf = true → (Lit.int .i64 a1).wf = true → ∃ k, skifflaw5_JournalRow.f k a0 a1 = some true
theorem skifflaw5_JournalRow.walk (P : skifflaw5_JournalRow.Pure) (a0 : Int) (a1 : Int) (w : World) (w0 : (Lit.int .i64 a0).wf = true) (w1 : (Lit.int .i64 a1).wf = true) :
  Calls Try.prog 10 #[.int .i64 a0, .int .i64 a1] w fun e w' => e = .returned (.bool true) ∧ Below w.heap.size w w' := by
 obtain ⟨k, h⟩ := P a0 a1 w0 w1
 refine (skifflaw5_JournalRow.calls k a0 a1 true w h).mono ?_
 rintro e w' ⟨rfl, hd⟩
 exact ⟨rfl, hd⟩
-- GIVEN: function 61 (crc_step): by hand
-- GIVEN: function 39 (crc_Sum): by hand
end Go.Proofs.Ytjihlabmddfjhaa.PAll

/- Plain facts: what the program's ops and the reference's answer for every flash, step and cut: the same; no memory in sight. -/
set_option linter.unnecessarySimpa false
set_option linter.unusedSimpArgs false
set_option linter.unusedVariables false
namespace Go.Proofs.Ytjihlabmddfjhaa.M
open Go.RowKit Go.Proofs.YtjihlabmddfjhaaW.PrintWords Go.Proofs.YtjihlabmddfjhaaW.PrintLast Go.Proofs.YtjihlabmddfjhaaW.PrintMore Go.Proofs.Ytjihlabmddfjhaa.Hand Go.Proofs.Ytjihlabmddfjhaa.PAll
/-- Evaluation that ends: one step of a function with rounds. -/
theorem Ev.one {α : Type} {g : Nat → Option α} {r : α} (h : ∀ k, g (k + 1) = some r) : Ev g r := ⟨1, fun k hk => by obtain ⟨m, rfl⟩ : ∃ m, k = m + 1 := ⟨k - 1, by omega⟩; exact h m⟩
theorem Ev.always {α : Type} {g : Nat → Option α} {r : α} (h : ∀ k, g k = some r) : Ev g r := ⟨0, fun k _ => h k⟩
abbrev I64 (x : Int) : Prop := -9223372036854775808 ≤ x ∧ x ≤ 9223372036854775807
theorem wrap_id {x : Int} (h : I64 x) : wrap64 x = x := by unfold wrap64; omega
/-- May a step be? -/
def opMay (e : Bool) (a : Int) (t : ByteArray) : Bool :=
 if e = true then decide (0 ≤ a ∧ a ≤ 672 ∧ a % 96 = 0 ∧ t.size = 0) else decide (0 ≤ a ∧ a ≤ 764 ∧ a % 4 = 0 ∧ t.size = 4)
theorem toList_nil (t : ByteArray) : (t.toList == ([] : List UInt8)) = decide (t.size = 0) := by
 rw [ByteArray.toList_eq]
 have h := data_length t
 cases hl : t.data.toList with
 | nil => rw [hl] at h; simp at h; exact (decide_eq_true h.symm).symm
 | cons a l => rw [hl] at h; simp at h; exact (decide_eq_false (by omega)).symm
theorem toList_inj {a b : ByteArray} : a.toList = b.toList ↔ a = b := by
 rw [ByteArray.toList_eq, ByteArray.toList_eq]
 exact ⟨fun h => Go.WideShapes.bytes_inj h, fun h => by rw [h]⟩
theorem upTo_eq (a b c : Int) : PBase.skiffref1_upTo.f a b c = some (decide (b ≤ a ∧ a ≤ c)) := by
 unfold PBase.skiffref1_upTo.f
 by_cases h : a ≥ b
 ·rw [if_pos h]; congr 1; simp; omega
 ·rw [if_neg h]; congr 1; symm; simp; omega
theorem ref_OpMay_eq (e : Bool) (a : Int) (t : ByteArray) : skiffref1_OpMay.f e a t = some (opMay e a t) := by
 unfold skiffref1_OpMay.f opMay
 cases e with
 | true =>
  rw [if_pos rfl, if_pos rfl, upTo_eq]
  simp only [Option.bind_some]
  by_cases h0 : 0 ≤ a ∧ a ≤ 672
  ·rw [if_pos (by simpa using h0), Int.tmod_eq_emod_of_nonneg h0.1]
   by_cases h1 : a % 96 = 0
   ·rw [if_pos h1, toList_nil]; congr 1; exact decide_eq_decide.mpr ⟨fun h => ⟨by omega, by omega, h1, h⟩, fun h => h.2.2.2⟩
   ·rw [if_neg h1]; congr 1; symm; simp; omega
  ·rw [if_neg (by simpa using h0)]; congr 1; symm; simp; omega
 | false =>
  rw [if_neg (by decide), if_neg (by decide)]
  unfold skiffref1_wordAt.f
  rw [upTo_eq]
  simp only [Option.bind_some]
  by_cases h0 : 0 ≤ a ∧ a ≤ 764
  ·rw [if_pos (by simpa using h0), Int.tmod_eq_emod_of_nonneg h0.1]
   simp only [Option.bind_some]
   by_cases h1 : a % 4 = 0
   ·rw [if_pos (by simpa using h1)]; congr 1; rw [Bool.eq_iff_iff]; simp; omega
   ·rw [if_neg (by simpa using h1)]; congr 1; symm; simp; omega
  ·rw [if_neg (by simpa using h0)]
   simp only [Option.bind_some]
   rw [if_neg (by decide)]; congr 1; symm; simp; omega
theorem full_go (n : Int) (hn : n ≤ 1000) (d : Nat) : ∀ (k : Nat) (i : Int), 0 ≤ i → i ≤ n → (n - i).toNat = d → d < k → skiffref1_full.l0 k n (List.replicate i.toNat 255 ++ List.replicate (n - i).toNat 0) i = some (ff n.toNat) := by
 induction d with
 | zero =>
  intro k i h0 h1 hd hk
  obtain ⟨k, rfl⟩ : ∃ m, k = m + 1 := ⟨k - 1, by omega⟩
  have hin : i = n := by omega
  subst hin
  simp only [skiffref1_full.l0]
  rw [if_neg (by omega)]
  simp [ff_strOfNums]
 | succ d ih =>
  intro k i h0 h1 hd hk
  obtain ⟨k, rfl⟩ : ∃ m, k = m + 1 := ⟨k - 1, by omega⟩
  simp only [skiffref1_full.l0]
  have hl : (List.replicate i.toNat (255 : Int) ++ List.replicate (n - i).toNat 0).length = n.toNat := by simp; omega
  rw [if_pos (by omega), if_pos h0, if_pos (by rw [hl]; omega), wrap_id (by omega)]
  have e : (List.replicate i.toNat (255 : Int) ++ List.replicate (n - i).toNat 0).set i.toNat 255 = List.replicate (i + 1).toNat 255 ++ List.replicate (n - (i + 1)).toNat 0 := by
   rw [show (n - i).toNat = (n - (i + 1)).toNat + 1 by omega, List.replicate_succ, show (i + 1).toNat = i.toNat + 1 by omega, List.replicate_succ']
   rw [List.set_append_right _ _ (by simp)]
   simp
  rw [e]
  exact ih k (i + 1) (by omega) (by omega) (by omega) (by omega)
theorem full_ev (n : Int) (h0 : 0 ≤ n) (hn : n ≤ 1000) : Ev (fun k => skiffref1_full.f k n) (ff n.toNat) := by
 refine Ev.of (fun k => skiffref1_full.mono _ _) (k := n.toNat + 1) ?_
 unfold skiffref1_full.f
 rw [if_pos h0, if_pos (by omega)]
 have := full_go n hn n.toNat (n.toNat + 1) 0 (by omega) h0 (by omega) (by omega)
 simpa using this
theorem ref_Worn_ev (f : ByteArray) (s m : Int) (hf : f.size = 768) (h0 : 0 ≤ s) (h1 : s < 8) (h2 : 0 ≤ m) (h3 : m ≤ 96) : Ev (fun k => skiffref1_Worn.f k f s m) (wornF f s.toNat m.toNat, 0) := by
 unfold skiffref1_Worn.f skiffref1_FlashMay.f
 simp only [Option.bind_some, hf, upTo_eq]
 have e1 : decide (0 ≤ s ∧ s ≤ 7) = true := by simp; omega
 have e2 : decide (0 ≤ m ∧ m ≤ 96) = true := by simp; omega
 have e3 : ((768 : Nat) : Int) == 768 := rfl
 simp only [e1, e2, e3, if_true]
 have w1 : wrap64 (s * 96) = s * 96 := wrap_id (by omega)
 have w2 : wrap64 (s * 96 + m) = s * 96 + m := wrap_id (by omega)
 simp only [w1, w2, if_pos (show 0 ≤ s * 96 by omega), if_pos (show s * 96 ≤ ((768 : Nat) : Int) by omega)]
 refine Ev.bind (full_ev m h2 (by omega)) ?_
 have s1 : (f.extract 0 (s * 96).toNat).size = (s * 96).toNat := by rw [ByteArray.size_extract]; omega
 have s2 : (f.extract (s * 96 + m).toNat 768).size = 768 - (s * 96 + m).toNat := by rw [ByteArray.size_extract]; omega
 refine Ev.always fun k => ?_
 rw [if_pos (by rw [s1, ff_size]; omega), if_pos (by omega), if_pos (by omega), if_pos (by rw [ByteArray.size_append, s1, s2, ff_size]; omega)]
 unfold wornF sp
 rw [ff_size, hf, show (s * 96).toNat = s.toNat * 96 by omega, show (s * 96 + m).toNat = s.toNat * 96 + m.toNat by omega]
end Go.Proofs.Ytjihlabmddfjhaa.M

/- Plain facts: what a step of flash makes of it, cut or whole, by the program and by the reference; no memory in sight. -/
set_option linter.unnecessarySimpa false
set_option linter.unusedSimpArgs false
set_option linter.unusedVariables false
namespace Go.Proofs.Ytjihlabmddfjhaa.M
open Go.RowKit Go.Proofs.YtjihlabmddfjhaaW.PrintWords Go.Proofs.YtjihlabmddfjhaaW.PrintLast Go.Proofs.YtjihlabmddfjhaaW.PrintMore Go.Proofs.Ytjihlabmddfjhaa.Hand Go.Proofs.Ytjihlabmddfjhaa.PAll
/-- As much of a step as is told. -/
def doF (f : ByteArray) (e : Bool) (a : Int) (t : ByteArray) (cut : Int) : ByteArray := if e = true then wornF f (a.toNat / 96) cut.toNat else tornF f a.toNat t (mn cut 32)
def cutOk (f : ByteArray) (e : Bool) (a : Int) (t : ByteArray) (cut : Int) : Prop := f.size = 768 ∧ opMay e a t = true ∧ 0 ≤ cut ∧ cut ≤ 96
instance (f : ByteArray) (e : Bool) (a : Int) (t : ByteArray) (cut : Int) : Decidable (cutOk f e a t cut) := by unfold cutOk; exact inferInstance
def cutV (f : ByteArray) (e : Bool) (a : Int) (t : ByteArray) (cut : Int) : ByteArray × Int := if cutOk f e a t cut then (doF f e a t cut, 0) else (⟨#[]⟩, 300)
theorem opMay_true {a : Int} {t : ByteArray} (h : opMay true a t = true) : 0 ≤ a ∧ a ≤ 672 ∧ a % 96 = 0 ∧ t.size = 0 := by
 unfold opMay at h; rw [if_pos rfl] at h; exact of_decide_eq_true h
theorem opMay_false {a : Int} {t : ByteArray} (h : opMay false a t = true) : 0 ≤ a ∧ a ≤ 764 ∧ a % 4 = 0 ∧ t.size = 4 := by
 unfold opMay at h; rw [if_neg (by decide)] at h; exact of_decide_eq_true h
theorem mn32 (cut : Int) (h0 : 0 ≤ cut) : 0 ≤ mn cut 32 ∧ mn cut 32 ≤ 32 := by unfold mn; split <;> omega
theorem ref_Torn_eq (f : ByteArray) (a : Int) (t : ByteArray) (m : Int) (hf : f.size = 768) (ha : 0 ≤ a ∧ a ≤ 764 ∧ a % 4 = 0 ∧ t.size = 4) (h0 : 0 ≤ m) (h1 : m ≤ 32) : skiffref1_Torn.f f a t m = some (tornF f a.toNat t m, 0) := by
 unfold skiffref1_Torn.f
 rw [if_pos (by omega), if_pos (by omega), if_pos (by omega), if_pos (by rw [Int.tmod_eq_emod_of_nonneg ha.1]; exact ha.2.2.1), if_pos (by omega), if_pos (by omega), if_pos (by omega), rtornF_eq f a.toNat t m (by omega) h0 h1]
theorem ref_Cut_no (f : ByteArray) (e : Bool) (a : Int) (t : ByteArray) (cut : Int) : Ev (fun k => skiffref1_Cut.j0 k f cut true e a t) (⟨#[]⟩, 300) :=
 Ev.one fun k => by simp only [skiffref1_Cut.j0, if_true]
theorem ref_Cut_ev (f : ByteArray) (e : Bool) (a : Int) (t : ByteArray) (cut : Int) : Ev (fun k => skiffref1_Cut.f k f e a t cut) (cutV f e a t cut) := by
 unfold skiffref1_Cut.f skiffref1_FlashMay.f
 simp only [Option.bind_some, ref_OpMay_eq e a t, upTo_eq]
 by_cases h1 : f.size = 768
 ·have e1 : ((f.size : Int) == 768) = true := by simp; omega
  simp only [e1, if_true]
  cases h2 : opMay e a t with
  | false =>
   simp only [Bool.false_eq_true, if_false]
   unfold cutV
   rw [if_neg (by unfold cutOk; rw [h2]; simp)]
   exact ref_Cut_no f e a t cut
  | true =>
   simp only [if_true]
   by_cases h4 : 0 ≤ cut ∧ cut ≤ 96
   ·have e4 : decide (0 ≤ cut ∧ cut ≤ 96) = true := by simpa using h4
    simp only [e4, Bool.not_true]
    unfold cutV
    rw [if_pos ⟨h1, h2, h4.1, h4.2⟩]
    cases e with
    | true =>
     obtain ⟨m0, m1, m2, m3⟩ := opMay_true h2
     have hw : wrap64 (Int.tdiv a 96) = a / 96 := by rw [Int.tdiv_eq_ediv_of_nonneg m0]; exact wrap_id (by omega)
     refine Ev.step (f := fun k => (skiffref1_Worn.f k f (a / 96) cut).bind fun bt345 => (some (bt345.1, bt345.2))) (fun k => by simp only [skiffref1_Cut.j0, Bool.false_eq_true, if_false, if_true, hw]) ?_
     refine Ev.bind (ref_Worn_ev f (a / 96) cut h1 (by omega) (by omega) h4.1 h4.2) (Ev.always fun k => ?_)
     unfold doF
     rw [if_pos rfl, show (a / 96).toNat = a.toNat / 96 by omega]
    | false =>
     have hm := opMay_false h2
     have hc := mn32 cut h4.1
     refine Ev.one fun k => ?_
     simp only [skiffref1_Cut.j0, Bool.false_eq_true, if_false]
     rw [ref_Torn_eq f a t (mn cut 32) h1 hm hc.1 hc.2]
     rfl
   ·have e4 : decide (0 ≤ cut ∧ cut ≤ 96) = false := decide_eq_false h4
    simp only [e4, Bool.not_false]
    unfold cutV
    rw [if_neg (by unfold cutOk; omega)]
    exact ref_Cut_no f e a t cut
 ·have e1 : ((f.size : Int) == 768) = false := by simp; omega
  simp only [e1, Bool.false_eq_true, if_false]
  unfold cutV
  rw [if_neg (by unfold cutOk; omega)]
  exact ref_Cut_no f e a t cut
theorem ref_Do_ev (f : ByteArray) (e : Bool) (a : Int) (t : ByteArray) : Ev (fun k => skiffref1_Do.f k f e a t) (cutV f e a t 96) := by
 unfold skiffref1_Do.f
 exact Ev.bind (ref_Cut_ev f e a t 96) (Ev.always fun k => rfl)
theorem Blank_ev : Ev (fun k => skiffref1_Blank.f k) (ff 768) := by
 unfold skiffref1_Blank.f
 exact Ev.bind (full_ev 768 (by omega) (by omega)) (Ev.always fun k => rfl)
end Go.Proofs.Ytjihlabmddfjhaa.M

/- Plain facts: a text in words, by the program and by the reference: the same; no memory in sight. -/
set_option linter.unnecessarySimpa false
set_option linter.unusedSimpArgs false
set_option linter.unusedVariables false
namespace Go.Proofs.Ytjihlabmddfjhaa.M
open Go.RowKit Go.Proofs.YtjihlabmddfjhaaW.PrintWords Go.Proofs.YtjihlabmddfjhaaW.PrintLast Go.Proofs.YtjihlabmddfjhaaW.PrintMore Go.Proofs.Ytjihlabmddfjhaa.Hand Go.Proofs.Ytjihlabmddfjhaa.PAll
/-- Word i of a text: its four bytes from 4 i on, the last ones 255. -/
def wordAt (t : ByteArray) (i : Nat) : ByteArray := t.extract (4 * i) (4 * i + 4) ++ ff (4 - (t.size - 4 * i))
def many (t : ByteArray) : Nat := (t.size + 3) / 4
/-- A text in words. -/
def wl (a : Int) (t : ByteArray) (n : Nat) : List S35 := (List.range n).map fun (i : Nat) => (⟨false, a + 4 * (i : Int), wordAt t i⟩ : S35)
theorem wl_succ (a : Int) (t : ByteArray) (n : Nat) : wl a t (n + 1) = wl a t n ++ [⟨false, a + 4 * (n : Int), wordAt t n⟩] := by
 unfold wl; rw [List.range_succ, List.map_append]; rfl
theorem wl_length (a : Int) (t : ByteArray) (n : Nat) : (wl a t n).length = n := by simp [wl]
theorem wl_rd (a : Int) (t : ByteArray) (n i : Nat) (h : i < n) : rd_T35 (wl a t n) i = ⟨false, a + 4 * (i : Int), wordAt t i⟩ := by
 unfold rd_T35 wl
 simp [List.getD_eq_getElem?_getD, h]
theorem wordAt_size (t : ByteArray) (i : Nat) (h : 4 * i < t.size) : (wordAt t i).size = 4 := by
 unfold wordAt; rw [ByteArray.size_append, ByteArray.size_extract, ff_size]; omega
theorem wordAt_bt (t : ByteArray) (i j : Nat) (h : 4 * i < t.size) (hj : j < 4) : bt (wordAt t i) j = if 4 * i + j < t.size then bt t ((4 * i + j : Nat) : Int) else 255 := by
 have s1 : (t.extract (4 * i) (4 * i + 4)).size = min (4 * i + 4) t.size - 4 * i := by rw [ByteArray.size_extract]
 unfold wordAt
 rw [bt_append, s1]
 by_cases c : 4 * i + j < t.size
 ·rw [if_pos (by omega), if_pos c, bt_extract _ _ _ _ (by omega)]
 ·rw [if_neg (by omega), if_neg c, ff_bt _ _ (by omega)]
def wordsOk (a : Int) (t : ByteArray) : Prop := 0 ≤ a ∧ a ≤ 768 ∧ a % 4 = 0 ∧ (t.size : Int) ≤ 768 - a
instance (a : Int) (t : ByteArray) : Decidable (wordsOk a t) := by unfold wordsOk; exact inferInstance
def wordsV (a : Int) (t : ByteArray) : List S35 × Int := if wordsOk a t then (wl a t (many t), 0) else ([], 300)
theorem refwords_go (a : Int) (t u : ByteArray) (h0 : 0 ≤ a) (h1 : a ≤ 768) (ht : t.size ≤ 768) (hu : u.size = 4 * many t) (hut : ∀ i, i < many t → u.extract (4 * i) (4 * i + 4) = wordAt t i) (d : Nat) : ∀ (k i : Nat), i ≤ many t → many t - i = d → d < k →
  skiffref1_Words.l0 k a u (wl a t i) (4 * (i : Int)) = some (wl a t (many t), 0) := by
 have hmt : many t ≤ 192 := by unfold many; omega
 induction d with
 | zero =>
  intro k i hi hd hk
  obtain ⟨k, rfl⟩ : ∃ m, k = m + 1 := ⟨k - 1, by omega⟩
  obtain rfl : i = many t := by omega
  simp only [skiffref1_Words.l0]
  rw [if_neg (by omega)]
 | succ d ih =>
  intro k i hi hd hk
  obtain ⟨k, rfl⟩ : ∃ m, k = m + 1 := ⟨k - 1, by omega⟩
  simp only [skiffref1_Words.l0]
  have hw : wrap64 (4 * (i : Int) + 4) = 4 * (i : Int) + 4 := wrap_id (by omega)
  have hw2 : wrap64 (a + 4 * (i : Int)) = a + 4 * (i : Int) := wrap_id (by omega)
  rw [if_pos (by omega), if_pos (by omega), hw, hw2, if_pos (by omega), if_pos (by omega), if_pos (by rw [wl_length]; omega)]
  rw [show (4 * (i : Int)).toNat = 4 * i by omega, show (4 * (i : Int) + 4).toNat = 4 * i + 4 by omega, hut i (by omega)]
  have := ih k (i + 1) (by omega) (by omega) (by omega)
  rw [wl_succ, show 4 * ((i + 1 : Nat) : Int) = 4 * (i : Int) + 4 by omega] at this
  exact this
theorem ref_Words_no (a : Int) (t : ByteArray) : Ev (fun k => skiffref1_Words.j0 k a t true) ([], 300) := Ev.one fun k => by simp only [skiffref1_Words.j0, if_true]
theorem ref_Words_ev (a : Int) (t : ByteArray) (ha : I64 a) (ht : t.size ≤ 140737488351232) : Ev (fun k => skiffref1_Words.f k a t) (wordsV a t) := by
 unfold skiffref1_Words.f wordsV
 simp only [upTo_eq, Option.bind_some]
 by_cases h0 : 0 ≤ a ∧ a ≤ 768
 ·have e0 : decide (0 ≤ a ∧ a ≤ 768) = true := decide_eq_true h0
  simp only [e0, if_true]
  have hm : Int.tmod a 4 = a % 4 := Int.tmod_eq_emod_of_nonneg (by omega)
  simp only [hm]
  by_cases h2 : a % 4 = 0
  ·simp only [if_pos h2]
   have hw : wrap64 (768 - a) = 768 - a := wrap_id (by omega)
   simp only [hw]
   by_cases h3 : (t.size : Int) > 768 - a
   ·have e3 : decide ((t.size : Int) > 768 - a) = true := decide_eq_true h3
    simp only [e3]
    rw [if_neg (by unfold wordsOk; omega)]
    exact ref_Words_no a t
   ·have e3 : decide ((t.size : Int) > 768 - a) = false := decide_eq_false h3
    simp only [e3]
    rw [if_pos ⟨by omega, by omega, h2, by omega⟩]
    refine Ev.step (f := fun k => (skiffref1_full.f k ((4 - ((t.size : Int) % 4)) % 4)).bind fun t150 => (if t.size + t150.size ≤ 9223372036854775807 then (skiffref1_Words.l0 k a (t ++ t150) ([] : List (S35)) 0) else (none))) (fun k => by simp only [skiffref1_Words.j0, Bool.false_eq_true, if_false]) ?_
    refine Ev.bind (full_ev _ (by omega) (by omega)) ?_
    obtain ⟨p, hp⟩ : ∃ p : Nat, ((4 - ((t.size : Int) % 4)) % 4).toNat = p := ⟨_, rfl⟩
    rw [hp]
    have hpm : t.size + p = 4 * many t := by unfold many; omega
    simp only [ff_size, if_pos (show t.size + p ≤ 9223372036854775807 by omega)]
    refine Ev.of (fun k => (skiffref1_Words.mono_l k).2 _ _ _ _) (k := many t + 1) ?_
    have hu : (t ++ ff p).size = 4 * many t := by rw [ByteArray.size_append, ff_size]; omega
    have := refwords_go a t (t ++ ff p) (by omega) (by omega) (by omega) hu (fun i hi => ?_) (many t) (many t + 1) 0 (by omega) (by omega) (by omega)
    ·simpa [wl] using this
    ·have hlt : 4 * i < t.size := by unfold many at hi; omega
     apply bt_ext
     ·rw [wordAt_size t i hlt, ByteArray.size_extract, hu]; omega
     ·intro j hj
      rw [ByteArray.size_extract, hu] at hj
      rw [wordAt_bt t i j hlt (by omega), bt_extract _ _ _ _ (by omega), bt_append]
      by_cases c : 4 * i + j < t.size
      ·rw [if_pos c, if_pos c]
      ·rw [if_neg c, if_neg c, ff_bt _ _ (by omega)]
  ·simp only [if_neg h2]
   rw [if_neg (by unfold wordsOk; omega)]
   exact ref_Words_no a t
 ·have e0 : decide (0 ≤ a ∧ a ≤ 768) = false := decide_eq_false h0
  simp only [e0, Bool.false_eq_true, if_false]
  rw [if_neg (by unfold wordsOk; omega)]
  exact ref_Words_no a t
end Go.Proofs.Ytjihlabmddfjhaa.M

