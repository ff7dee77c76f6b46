import Derived.Test.YtjadcjkjpkkmkaaShU3
-- Laid together from this session's own texts by its program wip/tools/shake.py.
namespace Go.Proofs.Ytjadcjkjpkkmkaa.PAll
open Go.RowKit Go.Proofs.YtjadcjkjpkkmkaaW.PrintWords Go.Proofs.YtjadcjkjpkkmkaaW.PrintLast Go.Proofs.YtjadcjkjpkkmkaaW.PrintMore
attribute [local go_sem] max2_int min2_int max_two min_two max_three min_three max_four min_four   -- for this text's walks alone
set_option linter.unusedVariables false
set_option linter.unusedSimpArgs false
def nor_Sector.f (a0 : Int) : Option (Bool) := if a0 ≥ 0 then (some (decide (a0 < 8))) else (some false)
set_option maxHeartbeats 8000000 in
set_option maxRecDepth 100000 in
theorem nor_Sector.calls (a0 : Int) (r : Bool) (w : World) (h : nor_Sector.f a0 = some r) :
  Calls Try.prog 86 #[.int .i64 a0] w fun e w' => e = .returned (.bool r) ∧ Drawn0 w w' := by
 have H : (if a0 ≥ 0 then (some (decide (a0 < 8))) else (some false)) = some r := h
 clear h
 by_cases c2 : a0 ≥ 0
 ·rw [if_pos c2] at H
  have c2b0 : decide (0 ≤ a0) = true := decide_eq_true c2
  clear c2
  obtain rfl := Option.some.inj H
  go_enter Try.func86, Try.ntmps86
  go_wp2
  go_ret
  exact ⟨by first | rfl | (simp; done) | (simp [*]; done), by repeat (first | exact Drawn0.refl _ | apply Drawn0.step)⟩
 rw [if_neg c2] at H
 have c2b0 : decide (0 ≤ a0) = false := decide_eq_false c2
 clear c2
 obtain rfl := Option.some.inj H
 go_enter Try.func86, Try.ntmps86
 go_wp2
 go_ret
 exact ⟨by first | rfl | (simp; done) | (simp [*]; done), by repeat (first | exact Drawn0.refl _ | apply Drawn0.step)⟩
def nor_Begins.f (a0 : Int) : Option (Bool) := if a0 ≥ 0 then (if a0 < 768 then (some ((Int.tmod a0 4) == 0)) else (some false)) else (some false)
set_option maxHeartbeats 8000000 in
set_option maxRecDepth 100000 in
theorem nor_Begins.calls (a0 : Int) (r : Bool) (w : World) (h : nor_Begins.f a0 = some r) :
  Calls Try.prog 87 #[.int .i64 a0] w fun e w' => e = .returned (.bool r) ∧ Drawn0 w w' := by
 have H : (if a0 ≥ 0 then (if a0 < 768 then (some ((Int.tmod a0 4) == 0)) else (some false)) else (some false)) = some r := h
 clear h
 by_cases c2 : a0 ≥ 0
 rotate_left
 ·rw [if_neg c2] at H
  have c2b0 : decide (0 ≤ a0) = false := decide_eq_false c2
  clear c2
  obtain rfl := Option.some.inj H
  go_enter Try.func87, Try.ntmps87
  go_wp2
  go_ret
  exact ⟨by first | rfl | (simp; done) | (simp [*]; done), by repeat (first | exact Drawn0.refl _ | apply Drawn0.step)⟩
 rw [if_pos c2] at H
 have c2b0 : decide (0 ≤ a0) = true := decide_eq_true c2
 clear c2
 by_cases c3 : a0 < 768
 ·rw [if_pos c3] at H
  have c3b0 : decide (a0 < 768) = true := decide_eq_true c3
  clear c3
  obtain rfl := Option.some.inj H
  go_enter Try.func87, Try.ntmps87
  go_wp2
  go_ret
  exact ⟨by first | rfl | (simp; done) | (simp [*]; done), by repeat (first | exact Drawn0.refl _ | apply Drawn0.step)⟩
 rw [if_neg c3] at H
 have c3b0 : decide (a0 < 768) = false := decide_eq_false c3
 clear c3
 obtain rfl := Option.some.inj H
 go_enter Try.func87, Try.ntmps87
 go_wp2
 go_ret
 exact ⟨by first | rfl | (simp; done) | (simp [*]; done), by repeat (first | exact Drawn0.refl _ | apply Drawn0.step)⟩
def ops_May.f (a0_0 : Bool) (a0_1 : Int) (a0_2 : ByteArray) : Option (Bool) := if a0_0 = true then (if a0_1 ≥ 0 then (if (Int.tmod a0_1 96) = 0 then ((nor_Sector.f (wrap64 (Int.tdiv a0_1 96))).bind fun t511 => (if t511 = true then (some (a0_2.toList == ([] : List UInt8))) else (some false))) else (some false)) else (some false)) else ((nor_Begins.f a0_1).bind fun t512 => (if t512 = true then (some ((a0_2.size : Int) == 4)) else (some false)))
set_option maxHeartbeats 8000000 in
set_option maxRecDepth 100000 in
theorem ops_May.calls (a0_0 : Bool) (a0_1 : Int) (a0_2 : ByteArray) (r : Bool) (w : World) (h : ops_May.f a0_0 a0_1 a0_2 = some r) :
  Calls Try.prog 71 #[.agg #[.bool a0_0, .int .i64 a0_1, .string a0_2]] w fun e w' => e = .returned (.bool r) ∧ Below w.heap.size w w' := by
 have hu87 := Try.underlying87
 have HB := Aside0.mk (Below.refl w.heap.size w)
 have H : (if a0_0 = true then (if a0_1 ≥ 0 then (if (Int.tmod a0_1 96) = 0 then ((nor_Sector.f (wrap64 (Int.tdiv a0_1 96))).bind fun t511 => (if t511 = true then (some (a0_2.toList == ([] : List UInt8))) else (some false))) else (some false)) else (some false)) else ((nor_Begins.f a0_1).bind fun t512 => (if t512 = true then (some ((a0_2.size : Int) == 4)) else (some false)))) = some r := h
 clear h
 by_cases c2 : a0_0 = true
 rotate_left
 ·replace c2 := Bool.eq_false_iff.mpr c2
  subst c2
  have H1 : ((nor_Begins.f a0_1).bind fun t512 => (if t512 = true then (some ((a0_2.size : Int) == 4)) else (some false))) = some r := by rw [if_neg (show ¬ (false = true) by decide)] at H; exact H
  clear H
  have H := H1
  clear H1
  replace H := Option.bind_eq_some_iff.mp H
  obtain ⟨t512, A150, H⟩ := H
  (try dsimp only at H)
  have A15 := Aside0.mk A150
  clear A150
  by_cases c16 : t512 = true
  ·subst c16
   have H1 : (some ((a0_2.size : Int) == 4)) = some r := by rw [if_pos rfl] at H; exact H
   clear H
   have H := H1
   clear H1
   obtain rfl := Option.some.inj H
   go_enter Try.func71, Try.ntmps71
   go_wp2_with (first | ((with_reducible refine gate_dst (N := 1) rfl ?_); (try (refine gate_guard (by rfl) ?_; dsimp only)); refine box_event ?hg (N := 1) ?hd (cs := #[.bool false, .int .i64 a0_1, .string a0_2]) (t := 87) ?hr ?_; (case hd => rfl); (case hg => rfl); (case hr => first | (go_simp; done) | (go_simp; rfl)); intro gb510 hg w17 hbox hb; have BK510 := Aside0.mk (hbox); have GW510 := Aside0.mk ((by rw [hg]; exact (below_size q2_) : w.heap.size ≤ gb510)); have GE510 := Aside0.mk ((by rw [hg]; exact (below_size q2_) : w.heap.size ≤ gb510)); replace HB := Aside0.mk (below_step q2_ hb); clear hb hbox hg; obtain ⟨hcz18_0, hcz18_1, hcz18_2, hfz18_0, hfz18_1, hfz18_2⟩ := cells3_ BK510.out) | ((with_reducible refine gate_callee (f := 87) rfl ?_); refine goesL_ (some 27) rfl rfl Try.func87 (by kernel_rfl) rfl #[.int .i64 a0_1] rfl q1_ ?_; (with_reducible refine (nor_Begins.calls a0_1 true _ A15.out).mono ?_); rintro e w' ⟨rfl, ⟨nd, rfl⟩⟩; refine ⟨_, rfl, ?_⟩))
   go_ret
   exact ⟨by first | rfl | (simp [errW_none, errW_some] <;> rfl) | (simp [*, errW_none, errW_some] <;> rfl), by repeat (first | (with_reducible first | exact HB.out | apply below_alloc | apply pw_below_drewN | apply below_drew1 | refine below_set ?_ GE510.out) | exact HB.out)⟩
  replace c16 := Bool.eq_false_iff.mpr c16
  subst c16
  have H1 : (some false) = some r := by rw [if_neg (show ¬ (false = true) by decide)] at H; exact H
  clear H
  have H := H1
  clear H1
  obtain rfl := Option.some.inj H
  go_enter Try.func71, Try.ntmps71
  go_wp2_with (first | ((with_reducible refine gate_dst (N := 1) rfl ?_); (try (refine gate_guard (by rfl) ?_; dsimp only)); refine box_event ?hg (N := 1) ?hd (cs := #[.bool false, .int .i64 a0_1, .string a0_2]) (t := 87) ?hr ?_; (case hd => rfl); (case hg => rfl); (case hr => first | (go_simp; done) | (go_simp; rfl)); intro gb510 hg w19 hbox hb; have BK510 := Aside0.mk (hbox); have GW510 := Aside0.mk ((by rw [hg]; exact (below_size q2_) : w.heap.size ≤ gb510)); have GE510 := Aside0.mk ((by rw [hg]; exact (below_size q2_) : w.heap.size ≤ gb510)); replace HB := Aside0.mk (below_step q2_ hb); clear hb hbox hg; obtain ⟨hcz20_0, hcz20_1, hcz20_2, hfz20_0, hfz20_1, hfz20_2⟩ := cells3_ BK510.out) | ((with_reducible refine gate_callee (f := 87) rfl ?_); refine goesL_ (some 27) rfl rfl Try.func87 (by kernel_rfl) rfl #[.int .i64 a0_1] rfl q1_ ?_; (with_reducible refine (nor_Begins.calls a0_1 false _ A15.out).mono ?_); rintro e w' ⟨rfl, ⟨nd, rfl⟩⟩; refine ⟨_, rfl, ?_⟩))
  go_ret
  exact ⟨by first | rfl | (simp [errW_none, errW_some] <;> rfl) | (simp [*, errW_none, errW_some] <;> rfl), by repeat (first | (with_reducible first | exact HB.out | apply below_alloc | apply pw_below_drewN | apply below_drew1 | refine below_set ?_ GE510.out) | exact HB.out)⟩
 subst c2
 have H1 : (if a0_1 ≥ 0 then (if (Int.tmod a0_1 96) = 0 then ((nor_Sector.f (wrap64 (Int.tdiv a0_1 96))).bind fun t511 => (if t511 = true then (some (a0_2.toList == ([] : List UInt8))) else (some false))) else (some false)) else (some false)) = some r := by rw [if_pos rfl] at H; exact H
 clear H
 have H := H1
 clear H1
 by_cases c3 : a0_1 ≥ 0
 rotate_left
 ·rw [if_neg c3] at H
  have c3b0 : decide (0 ≤ a0_1) = false := decide_eq_false c3
  clear c3
  obtain rfl := Option.some.inj H
  go_enter Try.func71, Try.ntmps71
  go_wp2_with (first | ((with_reducible refine gate_dst (N := 1) rfl ?_); (try (refine gate_guard (by rfl) ?_; dsimp only)); refine box_event ?hg (N := 1) ?hd (cs := #[.bool true, .int .i64 a0_1, .string a0_2]) (t := 87) ?hr ?_; (case hd => rfl); (case hg => rfl); (case hr => first | (go_simp; done) | (go_simp; rfl)); intro gb510 hg w13 hbox hb; have BK510 := Aside0.mk (hbox); have GW510 := Aside0.mk ((by rw [hg]; exact (below_size q2_) : w.heap.size ≤ gb510)); have GE510 := Aside0.mk ((by rw [hg]; exact (below_size q2_) : w.heap.size ≤ gb510)); replace HB := Aside0.mk (below_step q2_ hb); clear hb hbox hg; obtain ⟨hcz14_0, hcz14_1, hcz14_2, hfz14_0, hfz14_1, hfz14_2⟩ := cells3_ BK510.out))
  go_ret
  exact ⟨by first | rfl | (simp [errW_none, errW_some] <;> rfl) | (simp [*, errW_none, errW_some] <;> rfl), by repeat (first | (with_reducible first | exact HB.out | apply below_alloc | apply pw_below_drewN | apply below_drew1 | refine below_set ?_ GE510.out) | exact HB.out)⟩
 rw [if_pos c3] at H
 have c3b0 : decide (0 ≤ a0_1) = true := decide_eq_true c3
 clear c3
 by_cases c4 : (Int.tmod a0_1 96) = 0
 rotate_left
 ·rw [if_neg c4] at H
  have c4b0 : ((Int.tmod a0_1 96) == 0) = false := beq_eq_false_iff_ne.mpr c4
  have c4b1 : ((Int.tmod a0_1 96) != 0) = true := bne_iff_ne.mpr c4
  obtain rfl := Option.some.inj H
  go_enter Try.func71, Try.ntmps71
  go_wp2_with (first | ((with_reducible refine gate_dst (N := 1) rfl ?_); (try (refine gate_guard (by rfl) ?_; dsimp only)); refine box_event ?hg (N := 1) ?hd (cs := #[.bool true, .int .i64 a0_1, .string a0_2]) (t := 87) ?hr ?_; (case hd => rfl); (case hg => rfl); (case hr => first | (go_simp; done) | (go_simp; rfl)); intro gb510 hg w11 hbox hb; have BK510 := Aside0.mk (hbox); have GW510 := Aside0.mk ((by rw [hg]; exact (below_size q2_) : w.heap.size ≤ gb510)); have GE510 := Aside0.mk ((by rw [hg]; exact (below_size q2_) : w.heap.size ≤ gb510)); replace HB := Aside0.mk (below_step q2_ hb); clear hb hbox hg; obtain ⟨hcz12_0, hcz12_1, hcz12_2, hfz12_0, hfz12_1, hfz12_2⟩ := cells3_ BK510.out))
  go_ret
  exact ⟨by first | rfl | (simp [errW_none, errW_some] <;> rfl) | (simp [*, errW_none, errW_some] <;> rfl), by repeat (first | (with_reducible first | exact HB.out | apply below_alloc | apply pw_below_drewN | apply below_drew1 | refine below_set ?_ GE510.out) | exact HB.out)⟩
 rw [if_pos c4] at H
 have c4b0 : ((Int.tmod a0_1 96) == 0) = true := beq_iff_eq.mpr c4
 have c4b1 : ((Int.tmod a0_1 96) != 0) = false := bne_eq_false_iff_eq.mpr c4
 clear c4
 replace H := Option.bind_eq_some_iff.mp H
 obtain ⟨t511, A50, H⟩ := H
 (try dsimp only at H)
 have A5 := Aside0.mk A50
 clear A50
 by_cases c6 : t511 = true
 ·subst c6
  have H1 : (some (a0_2.toList == ([] : List UInt8))) = some r := by rw [if_pos rfl] at H; exact H
  clear H
  have H := H1
  clear H1
  obtain rfl := Option.some.inj H
  go_enter Try.func71, Try.ntmps71
  go_wp2_with (first | ((with_reducible refine gate_dst (N := 1) rfl ?_); (try (refine gate_guard (by rfl) ?_; dsimp only)); refine box_event ?hg (N := 1) ?hd (cs := #[.bool true, .int .i64 a0_1, .string a0_2]) (t := 87) ?hr ?_; (case hd => rfl); (case hg => rfl); (case hr => first | (go_simp; done) | (go_simp; rfl)); intro gb510 hg w7 hbox hb; have BK510 := Aside0.mk (hbox); have GW510 := Aside0.mk ((by rw [hg]; exact (below_size q2_) : w.heap.size ≤ gb510)); have GE510 := Aside0.mk ((by rw [hg]; exact (below_size q2_) : w.heap.size ≤ gb510)); replace HB := Aside0.mk (below_step q2_ hb); clear hb hbox hg; obtain ⟨hcz8_0, hcz8_1, hcz8_2, hfz8_0, hfz8_1, hfz8_2⟩ := cells3_ BK510.out) | (go_at_call 86; (with_reducible refine (nor_Sector.calls (wrap64 (Int.tdiv a0_1 96)) true _ A5.out).mono ?_); rintro e w' ⟨rfl, ⟨nd, rfl⟩⟩))
  go_ret
  exact ⟨by first | rfl | (simp [errW_none, errW_some] <;> rfl) | (simp [*, errW_none, errW_some] <;> rfl), by repeat (first | (with_reducible first | exact HB.out | apply below_alloc | apply pw_below_drewN | apply below_drew1 | refine below_set ?_ GE510.out) | exact HB.out)⟩
 replace c6 := Bool.eq_false_iff.mpr c6
 subst c6
 have H1 : (some false) = some r := by rw [if_neg (show ¬ (false = true) by decide)] at H; exact H
 clear H
 have H := H1
 clear H1
 obtain rfl := Option.some.inj H
 go_enter Try.func71, Try.ntmps71
 go_wp2_with (first | ((with_reducible refine gate_dst (N := 1) rfl ?_); (try (refine gate_guard (by rfl) ?_; dsimp only)); refine box_event ?hg (N := 1) ?hd (cs := #[.bool true, .int .i64 a0_1, .string a0_2]) (t := 87) ?hr ?_; (case hd => rfl); (case hg => rfl); (case hr => first | (go_simp; done) | (go_simp; rfl)); intro gb510 hg w9 hbox hb; have BK510 := Aside0.mk (hbox); have GW510 := Aside0.mk ((by rw [hg]; exact (below_size q2_) : w.heap.size ≤ gb510)); have GE510 := Aside0.mk ((by rw [hg]; exact (below_size q2_) : w.heap.size ≤ gb510)); replace HB := Aside0.mk (below_step q2_ hb); clear hb hbox hg; obtain ⟨hcz10_0, hcz10_1, hcz10_2, hfz10_0, hfz10_1, hfz10_2⟩ := cells3_ BK510.out) | (go_at_call 86; (with_reducible refine (nor_Sector.calls (wrap64 (Int.tdiv a0_1 96)) false _ A5.out).mono ?_); rintro e w' ⟨rfl, ⟨nd, rfl⟩⟩))
 go_ret
 exact ⟨by first | rfl | (simp [errW_none, errW_some] <;> rfl) | (simp [*, errW_none, errW_some] <;> rfl), by repeat (first | (with_reducible first | exact HB.out | apply below_alloc | apply pw_below_drewN | apply below_drew1 | refine below_set ?_ GE510.out) | exact HB.out)⟩
def answer_State.f (a0 : Int) : Option (Bool) := if a0 ≥ 0 then (some (decide (a0 ≤ 7))) else (some false)
set_option maxHeartbeats 8000000 in
set_option maxRecDepth 100000 in
theorem answer_State.calls (a0 : Int) (r : Bool) (w : World) (h : answer_State.f a0 = some r) :
  Calls Try.prog 72 #[.int .i64 a0] w fun e w' => e = .returned (.bool r) ∧ Drawn0 w w' := by
 have H : (if a0 ≥ 0 then (some (decide (a0 ≤ 7))) else (some false)) = some r := h
 clear h
 by_cases c2 : a0 ≥ 0
 ·rw [if_pos c2] at H
  have c2b0 : decide (0 ≤ a0) = true := decide_eq_true c2
  clear c2
  obtain rfl := Option.some.inj H
  go_enter Try.func72, Try.ntmps72
  go_wp2
  go_ret
  exact ⟨by first | rfl | (simp; done) | (simp [*]; done), by repeat (first | exact Drawn0.refl _ | apply Drawn0.step)⟩
 rw [if_neg c2] at H
 have c2b0 : decide (0 ≤ a0) = false := decide_eq_false c2
 clear c2
 obtain rfl := Option.some.inj H
 go_enter Try.func72, Try.ntmps72
 go_wp2
 go_ret
 exact ⟨by first | rfl | (simp; done) | (simp [*]; done), by repeat (first | exact Drawn0.refl _ | apply Drawn0.step)⟩
def answer_Status.f (a0 : Int) : Option (Bool) := if a0 ≥ 0 then (some (decide (a0 ≤ 6))) else (some false)
set_option maxHeartbeats 8000000 in
set_option maxRecDepth 100000 in
theorem answer_Status.calls (a0 : Int) (r : Bool) (w : World) (h : answer_Status.f a0 = some r) :
  Calls Try.prog 73 #[.int .i64 a0] w fun e w' => e = .returned (.bool r) ∧ Drawn0 w w' := by
 have H : (if a0 ≥ 0 then (some (decide (a0 ≤ 6))) else (some false)) = some r := h
 clear h
 by_cases c2 : a0 ≥ 0
 ·rw [if_pos c2] at H
  have c2b0 : decide (0 ≤ a0) = true := decide_eq_true c2
  clear c2
  obtain rfl := Option.some.inj H
  go_enter Try.func73, Try.ntmps73
  go_wp2
  go_ret
  exact ⟨by first | rfl | (simp; done) | (simp [*]; done), by repeat (first | exact Drawn0.refl _ | apply Drawn0.step)⟩
 rw [if_neg c2] at H
 have c2b0 : decide (0 ≤ a0) = false := decide_eq_false c2
 clear c2
 obtain rfl := Option.some.inj H
 go_enter Try.func73, Try.ntmps73
 go_wp2
 go_ret
 exact ⟨by first | rfl | (simp; done) | (simp [*]; done), by repeat (first | exact Drawn0.refl _ | apply Drawn0.step)⟩
def entry_in.f (a0 : Int) (a1 : Int) (a2 : Int) : Option (Bool) := if a0 ≥ a1 then (some (decide (a0 ≤ a2))) else (some false)
set_option maxHeartbeats 8000000 in
set_option maxRecDepth 100000 in
theorem entry_in.calls (a0 : Int) (a1 : Int) (a2 : Int) (r : Bool) (w : World) (h : entry_in.f a0 a1 a2 = some r) :
  Calls Try.prog 88 #[.int .i64 a0, .int .i64 a1, .int .i64 a2] w fun e w' => e = .returned (.bool r) ∧ Drawn0 w w' := by
 have H : (if a0 ≥ a1 then (some (decide (a0 ≤ a2))) else (some false)) = some r := h
 clear h
 by_cases c4 : a0 ≥ a1
 ·rw [if_pos c4] at H
  have c4b0 : decide (a1 ≤ a0) = true := decide_eq_true c4
  clear c4
  obtain rfl := Option.some.inj H
  go_enter Try.func88, Try.ntmps88
  go_wp2
  go_ret
  exact ⟨by first | rfl | (simp; done) | (simp [*]; done), by repeat (first | exact Drawn0.refl _ | apply Drawn0.step)⟩
 rw [if_neg c4] at H
 have c4b0 : decide (a1 ≤ a0) = false := decide_eq_false c4
 clear c4
 obtain rfl := Option.some.inj H
 go_enter Try.func88, Try.ntmps88
 go_wp2
 go_ret
 exact ⟨by first | rfl | (simp; done) | (simp [*]; done), by repeat (first | exact Drawn0.refl _ | apply Drawn0.step)⟩
def entry_Size.f (a0 : Int) : Option (Bool) := (entry_in.f a0 1 288).bind fun t109 => (some t109)
set_option maxHeartbeats 8000000 in
set_option maxRecDepth 100000 in
theorem entry_Size.calls (a0 : Int) (r : Bool) (w : World) (h : entry_Size.f a0 = some r) :
  Calls Try.prog 74 #[.int .i64 a0] w fun e w' => e = .returned (.bool r) ∧ Drawn0 w w' := by
 have H : ((entry_in.f a0 1 288).bind fun t109 => (some t109)) = some r := h
 clear h
 replace H := Option.bind_eq_some_iff.mp H
 obtain ⟨t109, A20, H⟩ := H
 replace H : (some t109) = some r := H
 have A2 := Aside0.mk A20
 clear A20
 obtain rfl := Option.some.inj H
 go_enter Try.func74, Try.ntmps74
 go_wp2_with (first | ((with_reducible refine gate_callee (f := 88) rfl ?_); refine goesL_ (some 4) rfl rfl Try.func88 (by kernel_rfl) rfl #[.int .i64 a0, .int .i64 1, .int .i64 288] rfl q1_ ?_; (with_reducible refine (entry_in.calls a0 1 288 t109 _ A2.out).mono ?_); rintro e w' ⟨rfl, ⟨nd, rfl⟩⟩; refine ⟨_, rfl, ?_⟩))
 go_ret
 exact ⟨by first | rfl | (simp; done) | (simp [*]; done), by repeat (first | exact Drawn0.refl _ | apply Drawn0.step)⟩
def entry_Slot.f (a0 : Int) : Option (Bool) := (entry_in.f a0 0 1).bind fun t110 => (some t110)
set_option maxHeartbeats 8000000 in
set_option maxRecDepth 100000 in
theorem entry_Slot.calls (a0 : Int) (r : Bool) (w : World) (h : entry_Slot.f a0 = some r) :
  Calls Try.prog 75 #[.int .i64 a0] w fun e w' => e = .returned (.bool r) ∧ Drawn0 w w' := by
 have H : ((entry_in.f a0 0 1).bind fun t110 => (some t110)) = some r := h
 clear h
 replace H := Option.bind_eq_some_iff.mp H
 obtain ⟨t110, A20, H⟩ := H
 replace H : (some t110) = some r := H
 have A2 := Aside0.mk A20
 clear A20
 obtain rfl := Option.some.inj H
 go_enter Try.func75, Try.ntmps75
 go_wp2_with (first | ((with_reducible refine gate_callee (f := 88) rfl ?_); refine goesL_ (some 4) rfl rfl Try.func88 (by kernel_rfl) rfl #[.int .i64 a0, .int .i64 0, .int .i64 1] rfl q1_ ?_; (with_reducible refine (entry_in.calls a0 0 1 t110 _ A2.out).mono ?_); rintro e w' ⟨rfl, ⟨nd, rfl⟩⟩; refine ⟨_, rfl, ?_⟩))
 go_ret
 exact ⟨by first | rfl | (simp; done) | (simp [*]; done), by repeat (first | exact Drawn0.refl _ | apply Drawn0.step)⟩
end Go.Proofs.Ytjadcjkjpkkmkaa.PAll
/- device.May (slices.ContainsFunc, slices.IndexFunc over its function value): what it answers, and that nothing that was there changes. -/
set_option linter.unnecessarySimpa false
set_option linter.unusedSimpArgs false
set_option linter.unusedVariables false
namespace Go.Proofs.Ytjadcjkjpkkmkaa.Hand
open Go.RowKit Go.Proofs.YtjadcjkjpkkmkaaW.PrintWords Go.Proofs.YtjadcjkjpkkmkaaW.PrintLast Go.Proofs.YtjadcjkjpkkmkaaW.PrintMore Go.Proofs.Ytjadcjkjpkkmkaa.PAll
theorem ops_May_some (e : Bool) (a : Int) (t : ByteArray) : ∃ b, ops_May.f e a t = some b := by
 unfold ops_May.f nor_Sector.f nor_Begins.f
 repeat' first
  | exact ⟨_, rfl⟩
  | simp only [Option.bind_some]
  | split
def mayB (x : S87) : Bool := (ops_May.f x.f0 x.f1 x.f2).getD false
theorem mayB_eq (x : S87) : ops_May.f x.f0 x.f1 x.f2 = some (mayB x) := by
 obtain ⟨b, hb⟩ := ops_May_some x.f0 x.f1 x.f2
 unfold mayB; rw [hb]; rfl
/-- The first step that may not be, from place k on. -/
def ixL : List S87 → Nat → Int
 | [], _ => -1
 | x :: r, k => if mayB x = true then ixL r (k + 1) else (k : Int)
set_option maxHeartbeats 4000000 in
set_option maxRecDepth 100000 in
theorem odd_calls (x : S87) (w : World) : Calls Try.prog 70 #[.agg #[.bool x.f0, .int .i64 x.f1, .string x.f2]] w fun e w' => e = .returned (.bool (!mayB x)) ∧ Below w.heap.size w w' := by
 have H := Aside0.mk (mayB_eq x)
 have HB := Aside0.mk (Below.refl w.heap.size w)
 go_enter Try.func70, Try.ntmps70
 go_wp2_with (first | (go_at_call 71; (with_reducible refine (ops_May.calls x.f0 x.f1 x.f2 (mayB x) _ H.out).mono ?_); rintro e w1 ⟨rfl, hb⟩))
 go_ret
 exact ⟨rfl, below_step (below_alloc HB.out _) hb⟩
set_option maxHeartbeats 4000000 in
set_option maxRecDepth 100000 in
theorem index_calls (A : Option Addr) (c : Nat) (l : List S87) (w : World) (hr : Kd.C k87 w A l.length l) (hc : l.length ≤ c) (hm : l.length ≤ 1000000000000) :
  Calls Try.prog 89 #[.slice A l.length c, .func (.func 70) #[] #[]] w fun e w' => e = .returned (.int .i64 (ixL l 0)) ∧ Below w.heap.size w w' := by
 have HR := Aside0.mk hr
 have HC := Aside0.mk hc
 have HB := Aside0.mk (Below.refl w.heap.size w)
 clear hr hc
 go_enter Try.func89, Try.ntmps89
 go_wp2
 go_loopg [8] l.length (fun kq v8 w' => ∃ k : Nat, v8 = .int .i64 (k : Int) ∧ Aside0 (k + kq = l.length) ∧ Aside0 (ixL (l.drop k) k = ixL l 0) ∧ Aside0 (Below w.heap.size w w'))
 case atStart => exact ⟨0, rfl, ⟨by omega⟩, ⟨by rw [List.drop_zero]⟩, HB⟩
 case round =>
  obtain ⟨k, rfl, HK, HX, HB1⟩ := hrel
  cases gk with
  | zero =>
   have e : k = l.length := by have := HK.out; omega
   subst e
   have hx := HX.out
   rw [List.drop_length] at hx
   have hi : ((l.length : Int) < (l.length : Int)) = False := eq_false (by omega)
   go_wp2
   go_ret
   exact ⟨by rw [← hx]; rfl, HB1.out⟩
  | succ m =>
   have hlt : k < l.length := by have := HK.out; omega
   have hi : ((k : Int) < (l.length : Int)) = True := eq_true (by omega)
   have hi2 : (k < l.length) = True := eq_true hlt
   have hx := HX.out
   have hd : l.drop k = rd_T87 l (k : Int) :: l.drop (k + 1) := by
    rw [List.drop_eq_getElem_cons hlt]; congr 1; simp [rd_T87, List.getD_eq_getElem?_getD, List.getElem?_eq_getElem hlt]
   rw [hd, ixL] at hx
   obtain ⟨ad, e1, hx0, hx1, hx2⟩ := at_T87 (Kd.C_below HR.out HB1.out) (k : Int) (by omega) (by omega)
   cases e1
   (first | simp only [add_plain] at hx0 | skip)
   (first | simp only [add_plain] at hx1 | skip)
   (first | simp only [add_plain] at hx2 | skip)
   simp only [Int.toNat_natCast] at hx0 hx1 hx2
   obtain ⟨x, hxx⟩ : ∃ x, rd_T87 l (k : Int) = x := ⟨_, rfl⟩
   rw [hxx] at hx0 hx1 hx2 hx
   have hw1 : IntKind.i64.wrap ((k : Int) + 1) = ((k + 1 : Nat) : Int) := by rw [IntKind.wrap_i64]; omega
   clear hd hxx HX
   have HHX := Aside0.mk hx
   clear hx
   by_cases c1 : mayB x = true
   ·have c2 : (!mayB x) = false := by rw [c1]; rfl
    go_wp2_with (go_at_call 70; (with_reducible refine (odd_calls x _).mono ?_); rintro e w2 ⟨rfl, hb⟩; have HB2 := Aside0.mk (below_step HB1.out hb); clear hb)
    go_roundg m
    case measure => omega
    case rel => exact ⟨k + 1, rfl, ⟨by have := HK.out; omega⟩, ⟨by have := HHX.out; rw [if_pos c1] at this; exact this⟩, HB2⟩
   ·have c2 : (!mayB x) = true := by simpa using c1
    have c3 : mayB x = false := by simpa using c1
    go_wp2_with (go_at_call 70; (with_reducible refine (odd_calls x _).mono ?_); rintro e w2 ⟨rfl, hb⟩; have HB2 := Aside0.mk (below_step HB1.out hb); clear hb)
    go_ret
    exact ⟨by have := HHX.out; rw [if_neg c1] at this; rw [this]; rfl, HB2.out⟩
def oddB (l : List S87) : Bool := decide (ixL l 0 ≥ 0)
theorem ixL_ge (l : List S87) : ∀ k, decide (ixL l k ≥ 0) = l.any (fun x => !mayB x) := by
 induction l with
 | nil => intro k; rfl
 | cons x l ih =>
  intro k
  rw [ixL, List.any_cons]
  by_cases c : mayB x = true
  ·rw [if_pos c, c, ih]; rfl
  ·rw [if_neg c, show mayB x = false by simpa using c]; simp
set_option maxHeartbeats 4000000 in
set_option maxRecDepth 100000 in
theorem contains_calls (A : Option Addr) (c : Nat) (l : List S87) (w : World) (hr : Kd.C k87 w A l.length l) (hc : l.length ≤ c) (hm : l.length ≤ 1000000000000) :
  Calls Try.prog 76 #[.slice A l.length c, .func (.func 70) #[] #[]] w fun e w' => e = .returned (.bool (oddB l)) ∧ Below w.heap.size w w' := by
 have HR := Aside0.mk hr
 have HC := Aside0.mk hc
 have HM := Aside0.mk hm
 clear hr hc hm
 go_enter Try.func76, Try.ntmps76
 go_wp2_with (go_at_call 89; (with_reducible refine (index_calls A c l _ HR.out HC.out HM.out).mono ?_); rintro e w2 ⟨rfl, hb⟩; have HB := Aside0.mk hb; clear hb)
 go_ret
 exact ⟨rfl, HB.out⟩
theorem State_some (a : Int) : answer_State.f a = some (decide (0 ≤ a ∧ a ≤ 7)) := by
 unfold answer_State.f; split <;> (congr 1; rw [Bool.eq_iff_iff]; simp; omega)
theorem Status_some (a : Int) : answer_Status.f a = some (decide (0 ≤ a ∧ a ≤ 6)) := by
 unfold answer_Status.f; split <;> (congr 1; rw [Bool.eq_iff_iff]; simp; omega)
theorem Size_some (a : Int) : entry_Size.f a = some (decide (1 ≤ a ∧ a ≤ 288)) := by
 unfold entry_Size.f entry_in.f; split <;> (rw [Option.bind_some]; congr 1; rw [Bool.eq_iff_iff]; simp; omega)
theorem Slot_some (a : Int) : entry_Slot.f a = some (decide (0 ≤ a ∧ a ≤ 1)) := by
 unfold entry_Slot.f entry_in.f; split <;> (rw [Option.bind_some]; congr 1; rw [Bool.eq_iff_iff]; simp; omega)
/-- May a device be? -/
def devMay (a0 a1 a2 a3 a4 : Int) (l : List S87) : Bool :=
 decide (0 ≤ a0 ∧ a0 ≤ 7) && (decide (0 ≤ a1 ∧ a1 ≤ 6) && (decide (0 ≤ a2 ∧ a2 ≤ 16) && ((decide (a3 = 0) || decide (1 ≤ a3 ∧ a3 ≤ 288)) && (decide (0 ≤ a4 ∧ a4 ≤ 1) && (decide (l.length ≤ 768) && !oddB l)))))
def device_May.f (a0 a1 a2 a3 a4 : Int) (l : List S87) : Option Bool := some (devMay a0 a1 a2 a3 a4 l)
set_option maxHeartbeats 4000000 in
set_option maxRecDepth 100000 in
theorem device_May.calls (a0 a1 a2 a3 a4 : Int) (A : Option Addr) (c : Nat) (l : List S87) (r : Bool) (w : World) (hr : Kd.C k87 w A l.length l) (hc : l.length ≤ c) (h : device_May.f a0 a1 a2 a3 a4 l = some r) :
  Calls Try.prog 47 #[.agg #[.int .i64 a0, .int .i64 a1, .int .i64 a2, .int .i64 a3, .int .i64 a4, .slice A l.length c]] w fun e w' => e = .returned (.bool r) ∧ Below w.heap.size w w' := by
 obtain rfl := Option.some.inj h
 clear h
 have HR := Aside0.mk hr
 have HC := Aside0.mk hc
 clear hr hc
 have H1 := Aside0.mk (State_some a0)
 have H2 := Aside0.mk (Status_some a1)
 have H3 := Aside0.mk (Size_some a3)
 have H4 := Aside0.mk (Slot_some a4)
 obtain ⟨b1, e1⟩ : ∃ b, decide (0 ≤ a0 ∧ a0 ≤ 7) = b := ⟨_, rfl⟩
 obtain ⟨b2, e2⟩ : ∃ b, decide (0 ≤ a1 ∧ a1 ≤ 6) = b := ⟨_, rfl⟩
 obtain ⟨b3, e3⟩ : ∃ b, decide (1 ≤ a3 ∧ a3 ≤ 288) = b := ⟨_, rfl⟩
 obtain ⟨b4, e4⟩ : ∃ b, decide (0 ≤ a4 ∧ a4 ≤ 1) = b := ⟨_, rfl⟩
 obtain ⟨b5, e5⟩ : ∃ b, oddB l = b := ⟨_, rfl⟩
 unfold devMay
 rw [e1] at H1
 rw [e2] at H2
 rw [e3] at H3
 rw [e4] at H4
 rw [e1, e2, e3, e4, e5]
 have HE := Aside0.mk e5
 clear e1 e2 e3 e4 e5
 have HB := Aside0.mk (Below.refl w.heap.size w)
 cases b1 with
 | false =>
  go_enter Try.func47, Try.ntmps47
  go_wp2_with (first | (go_at_call 72; (with_reducible refine (answer_State.calls a0 _ _ H1.out).mono ?_); rintro e w' ⟨rfl, ⟨nd, rfl⟩⟩) | (go_at_call 73; (with_reducible refine (answer_Status.calls a1 _ _ H2.out).mono ?_); rintro e w' ⟨rfl, ⟨nd2, rfl⟩⟩) | (go_at_call 74; (with_reducible refine (entry_Size.calls a3 _ _ H3.out).mono ?_); rintro e w' ⟨rfl, ⟨nd3, rfl⟩⟩) | (go_at_call 75; (with_reducible refine (entry_Slot.calls a4 _ _ H4.out).mono ?_); rintro e w' ⟨rfl, ⟨nd4, rfl⟩⟩))
  go_ret
  exact ⟨rfl, q2_⟩
 | true =>
  cases b2 with
  | false =>
   go_enter Try.func47, Try.ntmps47
   go_wp2_with (first | (go_at_call 72; (with_reducible refine (answer_State.calls a0 _ _ H1.out).mono ?_); rintro e w' ⟨rfl, ⟨nd, rfl⟩⟩) | (go_at_call 73; (with_reducible refine (answer_Status.calls a1 _ _ H2.out).mono ?_); rintro e w' ⟨rfl, ⟨nd2, rfl⟩⟩) | (go_at_call 74; (with_reducible refine (entry_Size.calls a3 _ _ H3.out).mono ?_); rintro e w' ⟨rfl, ⟨nd3, rfl⟩⟩) | (go_at_call 75; (with_reducible refine (entry_Slot.calls a4 _ _ H4.out).mono ?_); rintro e w' ⟨rfl, ⟨nd4, rfl⟩⟩))
   go_ret
   exact ⟨rfl, q2_⟩
  | true =>
   by_cases c1 : 0 ≤ a2
   ·have d1 : decide (0 ≤ a2) = true := decide_eq_true c1
    by_cases c2 : a2 ≤ 16
    ·have d2 : decide (a2 ≤ 16) = true := decide_eq_true c2
     have d12 : decide (0 ≤ a2 ∧ a2 ≤ 16) = true := decide_eq_true ⟨c1, c2⟩
     rw [d12]
     clear d12
     by_cases c3 : a3 = 0
     ·have d3 : (a3 == 0) = true := beq_iff_eq.mpr c3
      rw [decide_eq_true c3]
      have c3' : (a3 = 0) = True := eq_true c3
      clear c3
      cases b4 with
      | false =>
       go_enter Try.func47, Try.ntmps47
       go_wp2_with (first | (go_at_call 72; (with_reducible refine (answer_State.calls a0 _ _ H1.out).mono ?_); rintro e w' ⟨rfl, ⟨nd, rfl⟩⟩) | (go_at_call 73; (with_reducible refine (answer_Status.calls a1 _ _ H2.out).mono ?_); rintro e w' ⟨rfl, ⟨nd2, rfl⟩⟩) | (go_at_call 74; (with_reducible refine (entry_Size.calls a3 _ _ H3.out).mono ?_); rintro e w' ⟨rfl, ⟨nd3, rfl⟩⟩) | (go_at_call 75; (with_reducible refine (entry_Slot.calls a4 _ _ H4.out).mono ?_); rintro e w' ⟨rfl, ⟨nd4, rfl⟩⟩))
       go_ret
       exact ⟨rfl, q2_⟩
      | true =>
       by_cases c6 : l.length ≤ 768
       ·have d6 : decide (l.length ≤ 768) = true := decide_eq_true c6
        have d6i : ((l.length : Int) ≤ 768) = True := eq_true (by omega)
        have HM := Aside0.mk (show l.length ≤ 1000000000000 by omega)
        rw [d6]
        go_enter Try.func47, Try.ntmps47
        go_wp2_with (first | (go_at_call 72; (with_reducible refine (answer_State.calls a0 _ _ H1.out).mono ?_); rintro e w' ⟨rfl, ⟨nd, rfl⟩⟩) | (go_at_call 73; (with_reducible refine (answer_Status.calls a1 _ _ H2.out).mono ?_); rintro e w' ⟨rfl, ⟨nd2, rfl⟩⟩) | (go_at_call 74; (with_reducible refine (entry_Size.calls a3 _ _ H3.out).mono ?_); rintro e w' ⟨rfl, ⟨nd3, rfl⟩⟩) | (go_at_call 75; (with_reducible refine (entry_Slot.calls a4 _ _ H4.out).mono ?_); rintro e w' ⟨rfl, ⟨nd4, rfl⟩⟩) | (go_at_call 76; (with_reducible refine (contains_calls A c l _ (Kd.C_below HR.out q2_) HC.out HM.out).mono ?_); rintro e w' ⟨rfl, hb⟩; have HBC := Aside0.mk (below_step q2_ hb); clear hb; rw [HE.out]))
        go_ret
        exact ⟨rfl, HBC.out⟩
       ·have d6 : decide (l.length ≤ 768) = false := decide_eq_false c6
        have d6i : ((l.length : Int) ≤ 768) = False := eq_false (by omega)
        rw [d6]
        go_enter Try.func47, Try.ntmps47
        go_wp2_with (first | (go_at_call 72; (with_reducible refine (answer_State.calls a0 _ _ H1.out).mono ?_); rintro e w' ⟨rfl, ⟨nd, rfl⟩⟩) | (go_at_call 73; (with_reducible refine (answer_Status.calls a1 _ _ H2.out).mono ?_); rintro e w' ⟨rfl, ⟨nd2, rfl⟩⟩) | (go_at_call 74; (with_reducible refine (entry_Size.calls a3 _ _ H3.out).mono ?_); rintro e w' ⟨rfl, ⟨nd3, rfl⟩⟩) | (go_at_call 75; (with_reducible refine (entry_Slot.calls a4 _ _ H4.out).mono ?_); rintro e w' ⟨rfl, ⟨nd4, rfl⟩⟩))
        go_ret
        exact ⟨rfl, q2_⟩
     ·have d3 : (a3 == 0) = false := beq_eq_false_iff_ne.mpr c3
      rw [decide_eq_false c3]
      have c3' : (a3 = 0) = False := eq_false c3
      clear c3
      cases b3 with
      | false =>
       go_enter Try.func47, Try.ntmps47
       go_wp2_with (first | (go_at_call 72; (with_reducible refine (answer_State.calls a0 _ _ H1.out).mono ?_); rintro e w' ⟨rfl, ⟨nd, rfl⟩⟩) | (go_at_call 73; (with_reducible refine (answer_Status.calls a1 _ _ H2.out).mono ?_); rintro e w' ⟨rfl, ⟨nd2, rfl⟩⟩) | (go_at_call 74; (with_reducible refine (entry_Size.calls a3 _ _ H3.out).mono ?_); rintro e w' ⟨rfl, ⟨nd3, rfl⟩⟩) | (go_at_call 75; (with_reducible refine (entry_Slot.calls a4 _ _ H4.out).mono ?_); rintro e w' ⟨rfl, ⟨nd4, rfl⟩⟩))
       go_ret
       exact ⟨rfl, q2_⟩
      | true =>
       cases b4 with
       | false =>
        go_enter Try.func47, Try.ntmps47
        go_wp2_with (first | (go_at_call 72; (with_reducible refine (answer_State.calls a0 _ _ H1.out).mono ?_); rintro e w' ⟨rfl, ⟨nd, rfl⟩⟩) | (go_at_call 73; (with_reducible refine (answer_Status.calls a1 _ _ H2.out).mono ?_); rintro e w' ⟨rfl, ⟨nd2, rfl⟩⟩) | (go_at_call 74; (with_reducible refine (entry_Size.calls a3 _ _ H3.out).mono ?_); rintro e w' ⟨rfl, ⟨nd3, rfl⟩⟩) | (go_at_call 75; (with_reducible refine (entry_Slot.calls a4 _ _ H4.out).mono ?_); rintro e w' ⟨rfl, ⟨nd4, rfl⟩⟩))
        go_ret
        exact ⟨rfl, q2_⟩
       | true =>
        by_cases c6 : l.length ≤ 768
        ·have d6 : decide (l.length ≤ 768) = true := decide_eq_true c6
         have d6i : ((l.length : Int) ≤ 768) = True := eq_true (by omega)
         have HM := Aside0.mk (show l.length ≤ 1000000000000 by omega)
         rw [d6]
         go_enter Try.func47, Try.ntmps47
         go_wp2_with (first | (go_at_call 72; (with_reducible refine (answer_State.calls a0 _ _ H1.out).mono ?_); rintro e w' ⟨rfl, ⟨nd, rfl⟩⟩) | (go_at_call 73; (with_reducible refine (answer_Status.calls a1 _ _ H2.out).mono ?_); rintro e w' ⟨rfl, ⟨nd2, rfl⟩⟩) | (go_at_call 74; (with_reducible refine (entry_Size.calls a3 _ _ H3.out).mono ?_); rintro e w' ⟨rfl, ⟨nd3, rfl⟩⟩) | (go_at_call 75; (with_reducible refine (entry_Slot.calls a4 _ _ H4.out).mono ?_); rintro e w' ⟨rfl, ⟨nd4, rfl⟩⟩) | (go_at_call 76; (with_reducible refine (contains_calls A c l _ (Kd.C_below HR.out q2_) HC.out HM.out).mono ?_); rintro e w' ⟨rfl, hb⟩; have HBC := Aside0.mk (below_step q2_ hb); clear hb; rw [HE.out]))
         go_ret
         exact ⟨rfl, HBC.out⟩
        ·have d6 : decide (l.length ≤ 768) = false := decide_eq_false c6
         have d6i : ((l.length : Int) ≤ 768) = False := eq_false (by omega)
         rw [d6]
         go_enter Try.func47, Try.ntmps47
         go_wp2_with (first | (go_at_call 72; (with_reducible refine (answer_State.calls a0 _ _ H1.out).mono ?_); rintro e w' ⟨rfl, ⟨nd, rfl⟩⟩) | (go_at_call 73; (with_reducible refine (answer_Status.calls a1 _ _ H2.out).mono ?_); rintro e w' ⟨rfl, ⟨nd2, rfl⟩⟩) | (go_at_call 74; (with_reducible refine (entry_Size.calls a3 _ _ H3.out).mono ?_); rintro e w' ⟨rfl, ⟨nd3, rfl⟩⟩) | (go_at_call 75; (with_reducible refine (entry_Slot.calls a4 _ _ H4.out).mono ?_); rintro e w' ⟨rfl, ⟨nd4, rfl⟩⟩))
         go_ret
         exact ⟨rfl, q2_⟩
    ·have d2 : decide (a2 ≤ 16) = false := decide_eq_false c2
     have d12 : decide (0 ≤ a2 ∧ a2 ≤ 16) = false := decide_eq_false (fun x => c2 x.2)
     rw [d12]
     go_enter Try.func47, Try.ntmps47
     go_wp2_with (first | (go_at_call 72; (with_reducible refine (answer_State.calls a0 _ _ H1.out).mono ?_); rintro e w' ⟨rfl, ⟨nd, rfl⟩⟩) | (go_at_call 73; (with_reducible refine (answer_Status.calls a1 _ _ H2.out).mono ?_); rintro e w' ⟨rfl, ⟨nd2, rfl⟩⟩) | (go_at_call 74; (with_reducible refine (entry_Size.calls a3 _ _ H3.out).mono ?_); rintro e w' ⟨rfl, ⟨nd3, rfl⟩⟩) | (go_at_call 75; (with_reducible refine (entry_Slot.calls a4 _ _ H4.out).mono ?_); rintro e w' ⟨rfl, ⟨nd4, rfl⟩⟩))
     go_ret
     exact ⟨rfl, q2_⟩
   ·have d1 : decide (0 ≤ a2) = false := decide_eq_false c1
    have d12 : decide (0 ≤ a2 ∧ a2 ≤ 16) = false := decide_eq_false (fun x => c1 x.1)
    rw [d12]
    go_enter Try.func47, Try.ntmps47
    go_wp2_with (first | (go_at_call 72; (with_reducible refine (answer_State.calls a0 _ _ H1.out).mono ?_); rintro e w' ⟨rfl, ⟨nd, rfl⟩⟩) | (go_at_call 73; (with_reducible refine (answer_Status.calls a1 _ _ H2.out).mono ?_); rintro e w' ⟨rfl, ⟨nd2, rfl⟩⟩) | (go_at_call 74; (with_reducible refine (entry_Size.calls a3 _ _ H3.out).mono ?_); rintro e w' ⟨rfl, ⟨nd3, rfl⟩⟩) | (go_at_call 75; (with_reducible refine (entry_Slot.calls a4 _ _ H4.out).mono ?_); rintro e w' ⟨rfl, ⟨nd4, rfl⟩⟩))
    go_ret
    exact ⟨rfl, q2_⟩
end Go.Proofs.Ytjadcjkjpkkmkaa.Hand

namespace Go.Proofs.Ytjadcjkjpkkmkaa.PAll
open Go.RowKit Go.Proofs.YtjadcjkjpkkmkaaW.PrintWords Go.Proofs.YtjadcjkjpkkmkaaW.PrintLast Go.Proofs.YtjadcjkjpkkmkaaW.PrintMore
attribute [local go_sem] max2_int min2_int max_two min_two max_three min_three max_four min_four   -- for this text's walks alone
set_option linter.unusedVariables false
set_option linter.unusedSimpArgs false
def setup_Value.f (a0 : Int) : Option (Bool) := if a0 ≥ 0 then (some (decide (a0 ≤ 65535))) else (some false)
set_option maxHeartbeats 8000000 in
set_option maxRecDepth 100000 in
theorem setup_Value.calls (a0 : Int) (r : Bool) (w : World) (h : setup_Value.f a0 = some r) :
  Calls Try.prog 48 #[.int .i64 a0] w fun e w' => e = .returned (.bool r) ∧ Drawn0 w w' := by
 have H : (if a0 ≥ 0 then (some (decide (a0 ≤ 65535))) else (some false)) = some r := h
 clear h
 by_cases c2 : a0 ≥ 0
 ·rw [if_pos c2] at H
  have c2b0 : decide (0 ≤ a0) = true := decide_eq_true c2
  clear c2
  obtain rfl := Option.some.inj H
  go_enter Try.func48, Try.ntmps48
  go_wp2
  go_ret
  exact ⟨by first | rfl | (simp; done) | (simp [*]; done), by repeat (first | exact Drawn0.refl _ | apply Drawn0.step)⟩
 rw [if_neg c2] at H
 have c2b0 : decide (0 ≤ a0) = false := decide_eq_false c2
 clear c2
 obtain rfl := Option.some.inj H
 go_enter Try.func48, Try.ntmps48
 go_wp2
 go_ret
 exact ⟨by first | rfl | (simp; done) | (simp [*]; done), by repeat (first | exact Drawn0.refl _ | apply Drawn0.step)⟩
def setup_Length.f (a0 : Int) : Option (Bool) := if a0 ≥ 0 then (some (decide (a0 ≤ 32))) else (some false)
set_option maxHeartbeats 8000000 in
set_option maxRecDepth 100000 in
theorem setup_Length.calls (a0 : Int) (r : Bool) (w : World) (h : setup_Length.f a0 = some r) :
  Calls Try.prog 49 #[.int .i64 a0] w fun e w' => e = .returned (.bool r) ∧ Drawn0 w w' := by
 have H : (if a0 ≥ 0 then (some (decide (a0 ≤ 32))) else (some false)) = some r := h
 clear h
 by_cases c2 : a0 ≥ 0
 ·rw [if_pos c2] at H
  have c2b0 : decide (0 ≤ a0) = true := decide_eq_true c2
  clear c2
  obtain rfl := Option.some.inj H
  go_enter Try.func49, Try.ntmps49
  go_wp2
  go_ret
  exact ⟨by first | rfl | (simp; done) | (simp [*]; done), by repeat (first | exact Drawn0.refl _ | apply Drawn0.step)⟩
 rw [if_neg c2] at H
 have c2b0 : decide (0 ≤ a0) = false := decide_eq_false c2
 clear c2
 obtain rfl := Option.some.inj H
 go_enter Try.func49, Try.ntmps49
 go_wp2
 go_ret
 exact ⟨by first | rfl | (simp; done) | (simp [*]; done), by repeat (first | exact Drawn0.refl _ | apply Drawn0.step)⟩
theorem eqA87 (d : Nat) (w : World) (x0 y0 : Bool) (x1 y1 : Int) (x2 y2 : ByteArray) :
  (Op.equalIn (d + 2) 87 (.agg #[.bool x0, .int .i64 x1, .string x2]) (.agg #[.bool y0, .int .i64 y1, .string y2])).run Try.prog w = .ok (x0 == y0 && (x1 == y1 && (x2.toList == y2.toList))) w := by
 refine eqA_of Try.underlying87 (by kernel_rfl) ?_
 refine eqf_cons (by rfl) (by go_simp; rfl) (by go_simp; rfl) (by go_simp) ?_
 refine eqf_cons (by rfl) (by go_simp; rfl) (by go_simp; rfl) (by go_simp) ?_
 exact eqf_last (by rfl) (by go_simp; rfl) (by go_simp; rfl) (by go_simp)
def device_New.f  : Option (Int × Int × Int × Int × Int × (List (S87))) := some (0, 0, 0, 0, 0, ([] : List (S87)))
set_option maxHeartbeats 8000000 in
set_option maxRecDepth 100000 in
theorem device_New.calls  (r1 : Int) (r2 : Int) (r3 : Int) (r4 : Int) (r5 : Int) (r6 : List (S87)) (w : World) (h : device_New.f  = some (r1, r2, r3, r4, r5, r6)) :
  Calls Try.prog 53 #[] w fun e w' => ∃ v5_ : Value, e = .returned (.agg #[.int .i64 r1, .int .i64 r2, .int .i64 r3, .int .i64 r4, .int .i64 r5, v5_]) ∧ Kd.R k87 87 w' w.heap.size (fun _ => True) v5_ r6 ∧ Below w.heap.size w w' := by
 have hu56 := Try.underlying56
 have HB := Aside0.mk (Below.refl w.heap.size w)
 have H : (some (0, 0, 0, 0, 0, ([] : List (S87)))) = some (r1, r2, r3, r4, r5, r6) := h
 clear h
 simp only [Option.some.injEq, Prod.mk.injEq] at H
 obtain ⟨rfl, rfl, rfl, rfl, rfl, rfl⟩ := H
 go_enter Try.func53, Try.ntmps53
 go_wp2_with (first | ((with_reducible refine gate_dst (N := 0) rfl ?_); refine box_event ?hg (N := 0) ?hd (cs := #[.int .i64 0, .int .i64 0, .int .i64 0, .int .i64 0, .int .i64 0, .slice none 0 0]) (t := 56) ?hr ?_; (case hd => rfl); (case hg => rfl); (case hr => first | (go_simp; done) | (go_simp; rfl)); intro gb130 hg w1 hbox hb; have BK130 := Aside0.mk (hbox); have GW130 := Aside0.mk ((by rw [hg]; exact (below_size q2_) : w.heap.size ≤ gb130)); have GE130 := Aside0.mk ((by rw [hg]; exact (below_size q2_) : w.heap.size ≤ gb130)); replace HB := Aside0.mk (below_step q2_ hb); clear hb hbox hg; obtain ⟨hcz2_0, hcz2_1, hcz2_2, hcz2_3, hcz2_4, hcz2_5, hfz2_0, hfz2_1, hfz2_2, hfz2_3, hfz2_4, hfz2_5⟩ := cells6_ BK130.out))
 refine bodyPost_ret (results_cell_row rfl _ _ gb130 56 #[.int .i64 0, .int .i64 0, .int .i64 0, .int .i64 0, .int .i64 0, .slice none 0 0] (0, 0) _ rfl q115_ Try.underlying56 rfl (by kernel_rfl)) rfl ?_
 exact ⟨_, by first | rfl | (simp [errW_none, errW_some] <;> rfl) | (simp [*, errW_none, errW_some] <;> rfl), by first | exact Kd.R_nil _ _ _ _ _ | exact Kd.N_nil _ _ _ _ _ | exact Kd.V_nil _ _ _ _ _ | exact Kd.Q_nil _ _ _ _ _ | exact Kd.S_nil _ _ _ _ _, by repeat (first | (with_reducible first | exact HB.out | apply below_alloc | apply pw_below_drewN | apply below_drew1 | refine below_set ?_ GE130.out) | exact HB.out)⟩
def device_Failed.f (a0 : Int) : Option (Int × Int × Int × Int × Int × (List (S87))) := (device_New.f).bind fun bt132 => (some (7, a0, bt132.2.2.1, bt132.2.2.2.1, bt132.2.2.2.2.1, bt132.2.2.2.2.2))
set_option maxHeartbeats 8000000 in
set_option maxRecDepth 100000 in
theorem device_Failed.new (w : World) :
  Calls Try.prog 53 #[] w fun e w' => e = .returned (.agg #[.int .i64 0, .int .i64 0, .int .i64 0, .int .i64 0, .int .i64 0, .slice none 0 0]) ∧ Below w.heap.size w w' := by
 have hu56 := Try.underlying56
 have HB := Aside0.mk (Below.refl w.heap.size w)
 go_enter Try.func53, Try.ntmps53
 go_wp2_with (first | ((with_reducible refine gate_dst (N := 0) rfl ?_); refine box_event ?hg (N := 0) ?hd (cs := #[.int .i64 0, .int .i64 0, .int .i64 0, .int .i64 0, .int .i64 0, .slice none 0 0]) (t := 56) ?hr ?_; (case hd => rfl); (case hg => rfl); (case hr => first | (go_simp; done) | (go_simp; rfl)); intro gb130 hg w1 hbox hb; have BK130 := Aside0.mk (hbox); have GW130 := Aside0.mk ((by rw [hg]; exact (below_size q2_) : w.heap.size ≤ gb130)); have GE130 := Aside0.mk ((by rw [hg]; exact (below_size q2_) : w.heap.size ≤ gb130)); replace HB := Aside0.mk (below_step q2_ hb); clear hb hbox hg; obtain ⟨hcz2_0, hcz2_1, hcz2_2, hcz2_3, hcz2_4, hcz2_5, hfz2_0, hfz2_1, hfz2_2, hfz2_3, hfz2_4, hfz2_5⟩ := cells6_ BK130.out))
 refine bodyPost_ret (results_cell_row rfl _ _ gb130 56 #[.int .i64 0, .int .i64 0, .int .i64 0, .int .i64 0, .int .i64 0, .slice none 0 0] (0, 0) _ rfl q115_ Try.underlying56 rfl (by kernel_rfl)) rfl ?_
 exact ⟨rfl, by repeat (first | (with_reducible first | exact HB.out | apply below_alloc | apply pw_below_drewN | apply below_drew1 | refine below_set ?_ GE130.out) | exact HB.out)⟩
set_option maxHeartbeats 8000000 in
set_option maxRecDepth 100000 in
theorem device_Failed.calls (a0 : Int) (r1 : Int) (r2 : Int) (r3 : Int) (r4 : Int) (r5 : Int) (r6 : List (S87)) (w : World) (h : device_Failed.f a0 = some (r1, r2, r3, r4, r5, r6)) :
  Calls Try.prog 50 #[.int .i64 a0] w fun e w' => ∃ v5_ : Value, e = .returned (.agg #[.int .i64 r1, .int .i64 r2, .int .i64 r3, .int .i64 r4, .int .i64 r5, v5_]) ∧ Kd.R k87 87 w' w.heap.size (fun _ => True) v5_ r6 ∧ Below w.heap.size w w' := by
 have hu56 := Try.underlying56
 have HB := Aside0.mk (Below.refl w.heap.size w)
 obtain ⟨rfl, rfl, rfl, rfl, rfl, rfl⟩ : (7 : Int) = r1 ∧ a0 = r2 ∧ (0 : Int) = r3 ∧ (0 : Int) = r4 ∧ (0 : Int) = r5 ∧ ([] : List S87) = r6 := by
  simpa only [device_Failed.f, device_New.f, Option.bind_some, Option.some.injEq, Prod.mk.injEq] using h
 clear h
 go_enter Try.func50, Try.ntmps50
 go_wp2_with (first | ((with_reducible refine gate_dst (N := 2) rfl ?_); refine box_event ?hg (N := 2) ?hd (cs := #[.int .i64 0, .int .i64 0, .int .i64 0, .int .i64 0, .int .i64 0, .slice none 0 0]) (t := 56) ?hr ?_; (case hd => rfl); (case hg => rfl); (case hr => first | (go_simp; done) | (go_simp; rfl)); intro gb131 hg w3 hbox hb; have BK131 := Aside0.mk (hbox); have GW131 := Aside0.mk ((by rw [hg]; exact (below_size q2_) : w.heap.size ≤ gb131)); have GE131 := Aside0.mk ((by rw [hg]; exact (below_size q2_) : w.heap.size ≤ gb131)); replace HB := Aside0.mk (below_step q2_ hb); clear hb hbox hg) | ((with_reducible refine gate_callee (f := 53) rfl ?_); refine goesL_ (some 4) rfl rfl Try.func53 (by kernel_rfl) rfl #[] rfl q1_ ?_; (with_reducible refine (device_Failed.new _).mono ?_); rintro e w4 ⟨rfl, hb⟩; refine ⟨_, rfl, ?_⟩; have n1_ := Aside0.mk (blk_below (g := gb131) (by (with_reducible repeat (first | refine blk_drewN ?_ _ | refine blk_drew ?_ | refine blk_alloc ?_ _)); exact BK131.out) hb); have n2_ := Aside0.mk (below_step (by repeat (first | (with_reducible first | exact HB.out | apply below_alloc | apply pw_below_drewN | apply below_drew1 | refine below_set ?_ GE131.out) | exact HB.out)) hb); clear BK131; clear HB; have BK131 := n1_; have HB := n2_; clear n1_ n2_; (try clear hb); (try clear hb2); (try clear hk); (try clear hi); skip; obtain ⟨hcz9_0, hcz9_1, hcz9_2, hcz9_3, hcz9_4, hcz9_5, hfz9_0, hfz9_1, hfz9_2, hfz9_3, hfz9_4, hfz9_5⟩ := cells6_ BK131.out; have hlt9 : gb131 < w4.heap.size := blk_lt BK131.out; have hne9 : gb131 ≠ w4.heap.size := Nat.ne_of_lt hlt9; have hnf9 : w4.heap.size ≠ gb131 := Nat.ne_of_gt hlt9))
 refine bodyPost_ret (results_cell_row rfl _ _ gb131 56 #[.int .i64 7, .int .i64 a0, .int .i64 0, .int .i64 0, .int .i64 0, .slice none 0 0] (0, 0) _ rfl (by (with_reducible repeat (first | refine blk_drewN ?_ _ | refine blk_drew ?_ | refine blk_alloc ?_ _)); refine put6_ (cs := #[.int .i64 0, .int .i64 0, .int .i64 0, .int .i64 0, .int .i64 0, .slice none 0 0]) ?_ rfl; (with_reducible repeat (first | refine blk_drewN ?_ _ | refine blk_drew ?_ | refine blk_alloc ?_ _)); exact BK131.out) Try.underlying56 rfl (by kernel_rfl)) rfl ?_
 exact ⟨_, rfl, Kd.R_nil _ _ _ _ _, by repeat (first | (with_reducible first | exact HB.out | apply below_alloc | apply pw_below_drewN | apply below_drew1 | refine below_set ?_ GE131.out) | exact HB.out)⟩
end Go.Proofs.Ytjadcjkjpkkmkaa.PAll
/- slices.Clone of steps: what it answers, and that nothing that was there changes. -/
set_option linter.unnecessarySimpa false
set_option linter.unusedSimpArgs false
set_option linter.unusedVariables false
namespace Go.Proofs.Ytjadcjkjpkkmkaa.Hand
open Go.RowKit Go.Proofs.YtjadcjkjpkkmkaaW.PrintWords Go.Proofs.YtjadcjkjpkkmkaaW.PrintLast Go.Proofs.YtjadcjkjpkkmkaaW.PrintMore Go.Proofs.Ytjadcjkjpkkmkaa.PAll
def slices_Clone.f (l : List S87) : Option (List S87) := if l.length < 4398046511104 then some l else none
set_option maxHeartbeats 4000000 in
set_option maxRecDepth 100000 in
theorem slices_Clone.calls (A0 : Option Addr) (c0 : Nat) (l0 : List S87) (r : List S87) (w : World) (hr0 : Kd.C k87 w A0 l0.length l0) (hc0 : l0.length ≤ c0) (h : slices_Clone.f l0 = some r) :
  Calls Try.prog 77 #[.slice A0 l0.length c0] w fun e w' => ∃ v0_ : Value, e = .returned v0_ ∧ Kd.R k87 87 w' w.heap.size (fun _ => True) v0_ r ∧ Below w.heap.size w w' := by
 unfold slices_Clone.f at h
 by_cases hl : l0.length < 4398046511104
 ·rw [if_pos hl] at h
  obtain rfl := Option.some.inj h
  clear h
  have qT : ∀ (w : World) (a : Option Addr) (n c n' c' : Nat), (binOp .eql 54 (.slice a n c) (.slice none n' c')).run Try.prog w = .ok (.bool a.isNone) w := fun w a n c n' c' => Lib.run_eql_slice_nil w _ _ a n c n' c' Try.underlying54
  cases A0 with
  | none =>
   obtain rfl : l0 = [] := by
    cases l0 with
    | nil => rfl
    | cons x t =>
     obtain ⟨ad, e, _⟩ := at_T87 hr0 0 (Int.le_refl 0) (by simp)
     cases e
   clear hr0 hc0 hl
   go_enter Try.func77, Try.ntmps77
   go_wp2
   go_ret
   exact ⟨_, rfl, Kd.R_nil _ _ _ _ _, Below.refl _ _⟩
  | some ad =>
   have HR := Aside0.mk hr0
   have HL := Aside0.mk hl
   clear hr0 hl
   go_enter Try.func77, Try.ntmps77
   go_wp2_with (first | ((with_reducible refine gate_dst (N := 5) rfl ?_); refine Kd.R_lit k87 _ 87 ?hg (N := 5) ?hd (xs := ([] : List (S87))) (inner := []) (ok := fun _ => True) (okp := fun _ => True) ?hr ?hp (fun _ hk => hk) trivial (Below.refl _ _) (Nat.le_refl _) (by simp) ?_; (case hd => rfl); (case hg => rfl); (case hr => first | (go_simp; done) | (go_simp; rfl)); (case hp => exact (Reps.none _ _)); intro v1 w5 ho6 hb hg_ hnew_; clear hg_ hnew_; have HO := Aside0.mk ho6; have HB := Aside0.mk hb; clear hb ho6) | ((with_reducible refine gate_builtin (b := .append) (xs := #[.tmp 5, .tmp 6]) rfl ?_); at_builtin; refine Kd.R_append_rows k87 (w0 := w) w.heap.size rfl (.tmp 5) (.tmp 6) 54 87 (.agg #[(.bool false), (.int .i64 0), (.string ⟨#[]⟩)]) 32 rfl Try.underlying54 info87 rfl (by decide) (by omega) v1 [] l0 _ _ _ (fun _ => True) (fun _ => False) rfl rfl ?aO ?aR (fun _ _ h => h) (fun _ h => h.elim) ?aF ?aB ?aS ?aL ?_; (case aR => exact Kd.C_below HR.out HB.out); (case aB => exact HB.out); (case aF => exact (fun _ _ => trivial)); (case aO => exact HO.out); (case aS => exact HB.out.size); (case aL => have := HL.out; simp; omega); intro v2 w9 ho hb hg hat; rw [List.nil_append] at ho; have HO2 := Aside0.mk ho; have HB2 := Aside0.mk hb; clear ho hb hg hat))
   go_ret
   exact ⟨_, rfl, HO2.out, HB2.out⟩
 ·rw [if_neg hl] at h; exact absurd h (by simp)
end Go.Proofs.Ytjadcjkjpkkmkaa.Hand

namespace Go.Proofs.Ytjadcjkjpkkmkaa.PAll
open Go.RowKit Go.Proofs.YtjadcjkjpkkmkaaW.PrintWords Go.Proofs.YtjadcjkjpkkmkaaW.PrintLast Go.Proofs.YtjadcjkjpkkmkaaW.PrintMore
attribute [local go_sem] max2_int min2_int max_two min_two max_three min_three max_four min_four   -- for this text's walks alone
set_option linter.unusedVariables false
set_option linter.unusedSimpArgs false
def device_Copy.f (a0_0 : Int) (a0_1 : Int) (a0_2 : Int) (a0_3 : Int) (a0_4 : Int) (l0_5 : List (S87)) : Option (Int × Int × Int × Int × Int × (List (S87))) := (Hand.slices_Clone.f l0_5).bind fun t143 => (some (a0_0, a0_1, a0_2, a0_3, a0_4, t143))
set_option maxHeartbeats 8000000 in
set_option maxRecDepth 100000 in
theorem device_Copy.calls (a0_0 : Int) (a0_1 : Int) (a0_2 : Int) (a0_3 : Int) (a0_4 : Int) (A0_5 : Option Addr) (c0_5 : Nat) (l0_5 : List (S87)) (r1 : Int) (r2 : Int) (r3 : Int) (r4 : Int) (r5 : Int) (r6 : List (S87)) (w : World) (hr0_5 : Kd.C k87 w A0_5 l0_5.length l0_5) (hc0_5 : l0_5.length ≤ c0_5) (h : device_Copy.f a0_0 a0_1 a0_2 a0_3 a0_4 l0_5 = some (r1, r2, r3, r4, r5, r6)) :
  Calls Try.prog 51 #[.agg #[.int .i64 a0_0, .int .i64 a0_1, .int .i64 a0_2, .int .i64 a0_3, .int .i64 a0_4, .slice A0_5 l0_5.length c0_5]] w fun e w' => ∃ v5_ : Value, e = .returned (.agg #[.int .i64 r1, .int .i64 r2, .int .i64 r3, .int .i64 r4, .int .i64 r5, v5_]) ∧ Kd.R k87 87 w' w.heap.size (fun _ => True) v5_ r6 ∧ Below w.heap.size w w' := by
 have hu56 := Try.underlying56
 have HR0_5 := Aside0.mk hr0_5
 have HC0_5 := Aside0.mk hc0_5
 clear hr0_5 hc0_5
 have HB := Aside0.mk (Below.refl w.heap.size w)
 have H : ((Hand.slices_Clone.f l0_5).bind fun t143 => (some (a0_0, a0_1, a0_2, a0_3, a0_4, t143))) = some (r1, r2, r3, r4, r5, r6) := h
 clear h
 replace H := Option.bind_eq_some_iff.mp H
 obtain ⟨t143, A20, H⟩ := H
 (try dsimp only at H)
 have A2 := Aside0.mk A20
 clear A20
 simp only [Option.some.injEq, Prod.mk.injEq] at H
 obtain ⟨rfl, rfl, rfl, rfl, rfl, rfl⟩ := H
 go_enter Try.func51, Try.ntmps51
 go_wp2_with (first | ((with_reducible refine gate_dst (N := 1) rfl ?_); refine box_event ?hg (N := 1) ?hd (cs := #[.int .i64 a0_0, .int .i64 a0_1, .int .i64 a0_2, .int .i64 a0_3, .int .i64 a0_4, .slice A0_5 l0_5.length c0_5]) (t := 56) ?hr ?_; (case hd => rfl); (case hg => rfl); (case hr => first | (go_simp; done) | (go_simp; rfl)); intro gb141 hg w3 hbox hb; have BK141 := Aside0.mk (hbox); have GW141 := Aside0.mk ((by rw [hg]; exact (below_size q2_) : w.heap.size ≤ gb141)); have GE141 := Aside0.mk ((by rw [hg]; exact (below_size q2_) : w.heap.size ≤ gb141)); replace HB := Aside0.mk (below_step q2_ hb); clear hb hbox hg) | ((with_reducible refine gate_dst (N := 2) rfl ?_); refine box_event ?hg (N := 2) ?hd (cs := #[.int .i64 0, .int .i64 0, .int .i64 0, .int .i64 0, .int .i64 0, .slice none 0 0]) (t := 56) ?hr ?_; (case hd => rfl); (case hg => rfl); (case hr => first | (go_simp; done) | (go_simp; rfl)); intro gb142 hg w4 hbox hb; have BK142 := Aside0.mk (hbox); have GW142 := Aside0.mk ((by rw [hg]; exact (below_size q40_) : w.heap.size ≤ gb142)); have GE142 := Aside0.mk ((by rw [hg]; exact (below_size q40_) : w.heap.size ≤ gb142)); have NB141_142 := Aside0.mk (nl_ (g := gb141) hg q37_); have NB142_141 := Aside0.mk (ng_ (g := gb141) hg q37_); replace BK141 := Aside0.mk (blk_below (g := gb141) q37_ hb); replace HB := Aside0.mk (below_step q40_ hb); clear hb hbox hg; have hnb5 := NB141_142.out; have hnc5 := NB142_141.out; obtain ⟨hcz6_0, hcz6_1, hcz6_2, hcz6_3, hcz6_4, hcz6_5, hfz6_0, hfz6_1, hfz6_2, hfz6_3, hfz6_4, hfz6_5⟩ := cells6_ BK141.out) | ((with_reducible refine gate_callee (f := 77) rfl ?_); refine goesL_ (some 5) rfl rfl Try.func77 (by kernel_rfl) rfl #[.slice A0_5 l0_5.length c0_5] rfl q1_ ?_; (with_reducible refine (Hand.slices_Clone.calls _ _ l0_5 t143 _ ?side1 ?side2 A2.out).mono ?_); (case side1 => repeat (first | exact (Kd.C_below HR0_5.out HB.out) | (with_reducible refine Kd.C_alloc ?_ _) | (with_reducible refine Kd.C_drewN ?_ _) | (with_reducible refine Kd.C_drew ?_))); (case side2 => exact HC0_5.out); rintro e w7 ⟨v144, rfl, ho0, hb⟩; refine ⟨_, rfl, ?_⟩; have HO145 := Aside0.mk (Kd.R_lower ho0 (below_size q98_)); replace BK141 := Aside0.mk (blk_below (g := gb141) q37_ hb); replace BK142 := Aside0.mk (blk_below (g := gb142) q66_ hb); replace HB := Aside0.mk (below_step q98_ hb); (try clear hb); (try clear hb2); (try clear hk); (try clear hi); (try clear ho0); obtain ⟨Ao8, co8, eo8⟩ := Kd.R_slice HO145.out; subst eo8; obtain ⟨hcz9_0, hcz9_1, hcz9_2, hcz9_3, hcz9_4, hcz9_5, hfz9_0, hfz9_1, hfz9_2, hfz9_3, hfz9_4, hfz9_5⟩ := cells6_ BK141.out; obtain ⟨hcz10_0, hcz10_1, hcz10_2, hcz10_3, hcz10_4, hcz10_5, hfz10_0, hfz10_1, hfz10_2, hfz10_3, hfz10_4, hfz10_5⟩ := cells6_ BK142.out))
 refine bodyPost_ret (results_cell_row rfl _ _ gb142 56 #[.int .i64 a0_0, .int .i64 a0_1, .int .i64 a0_2, .int .i64 a0_3, .int .i64 a0_4, .slice Ao8 t143.length co8] (0, 0) _ rfl (by (with_reducible repeat (first | refine blk_drewN ?_ _ | refine blk_drew ?_ | refine blk_alloc ?_ _)); refine put6_ (cs := #[.int .i64 0, .int .i64 0, .int .i64 0, .int .i64 0, .int .i64 0, .slice none 0 0]) ?_ rfl; (with_reducible repeat (first | refine blk_drewN ?_ _ | refine blk_drew ?_ | refine blk_alloc ?_ _)); refine blk_far ?_ NB142_141.out _; (with_reducible repeat (first | refine blk_drewN ?_ _ | refine blk_drew ?_ | refine blk_alloc ?_ _)); exact BK142.out) Try.underlying56 rfl (by kernel_rfl)) rfl ?_
 exact ⟨_, by first | rfl | (simp [errW_none, errW_some] <;> rfl) | (simp [*, errW_none, errW_some] <;> rfl), by (with_reducible repeat (first | apply Kd.R_alloc | apply Kd.R_drewN | apply Kd.R_drew)); exact Kd.R_mono (Kd.R_far (p := ⟨gb142, 5, none⟩) (Kd.R_far (p := ⟨gb142, 4, none⟩) (Kd.R_far (p := ⟨gb142, 3, none⟩) (Kd.R_far (p := ⟨gb142, 2, none⟩) (Kd.R_far (p := ⟨gb142, 1, none⟩) (Kd.R_far (p := ⟨gb142, 0, none⟩) (Kd.R_far (p := ⟨gb141, 5, none⟩) (Kd.R_types (Kd.R_types HO145.out BK141.out (by decide)) BK142.out (by decide)) (fun _ hk => hk.1.2) (.slice Ao8 t143.length co8)) (fun _ hk => hk.2) (.int .i64 a0_0)) (fun _ hk => hk.2) (.int .i64 a0_1)) (fun _ hk => hk.2) (.int .i64 a0_2)) (fun _ hk => hk.2) (.int .i64 a0_3)) (fun _ hk => hk.2) (.int .i64 a0_4)) (fun _ hk => hk.2) (.slice Ao8 t143.length co8)) (fun _ hk => trivial), by repeat (first | (with_reducible first | exact HB.out | apply below_alloc | apply pw_below_drewN | apply below_drew1 | refine below_set ?_ GE141.out | refine below_set ?_ GE142.out) | exact HB.out)⟩
mutual
def upload_Give.j0 : Nat → ByteArray → Int → Int → Bool → Int → Int → Int → Int → Int → List (S87) → Option (Int × Int × Int × Int × Int × (List (S87)) × ByteArray × Int)
 | 0, _, _, _, _, _, _, _, _, _, _ => none
 | k + 1, x0, x2, x3, x43, x147000, x147001, x147002, x147003, x147004, x147005 => if x43 = true then (some (0, 0, 0, 0, 0, ([] : List (S87)), (⟨#[]⟩ : ByteArray), 2000)) else ((Hand.choose_Active.f k x0).bind fun bt154 => (if bt154.2.2.2.2.2 = 0 then ((device_Copy.f x147000 x147001 x147002 x147003 x147004 x147005).bind fun bt169 => (if x147000 = 0 then (upload_Give.j1 k x0 x2 x3 bt154.1 bt154.2.1 bt154.2.2.1 bt154.2.2.2.1 bt154.2.2.2.2.1 bt169.1 bt169.2.1 0 bt169.2.2.2.1 bt169.2.2.2.2.1 bt169.2.2.2.2.2) else (upload_Give.j1 k x0 x2 x3 bt154.1 bt154.2.1 bt154.2.2.1 bt154.2.2.2.1 bt154.2.2.2.2.1 bt169.1 bt169.2.1 bt169.2.2.1 bt169.2.2.2.1 bt169.2.2.2.2.1 bt169.2.2.2.2.2))) else ((device_Failed.f 2).bind fun bt161 => (some (bt161.1, bt161.2.1, bt161.2.2.1, bt161.2.2.2.1, bt161.2.2.2.2.1, bt161.2.2.2.2.2, (⟨#[]⟩ : ByteArray), 0)))))
def upload_Give.j1 : Nat → ByteArray → Int → Int → Int → Int → Int → Int → Int → Int → Int → Int → Int → Int → List (S87) → Option (Int × Int × Int × Int × Int × (List (S87)) × ByteArray × Int)
 | 0, _, _, _, _, _, _, _, _, _, _, _, _, _, _ => none
 | k + 1, x0, x2, x3, x161000, x161001, x161002, x161003, x161004, x178000, x178001, x178002, x178003, x178004, x178005 => if x2 = x178002 then ((PSc.image_Of.f x0 x161001 x161002 x161003 x161004).bind fun bt186 => (if 0 ≤ (mn (wrap64 (32 * x178002)) (bt186.1.size : Int)) then (if (mn (wrap64 (32 * x178002)) (bt186.1.size : Int)) ≤ (bt186.1.size : Int) then (if 0 ≤ (mn x3 ((bt186.1.extract ((mn (wrap64 (32 * x178002)) (bt186.1.size : Int)) : Int).toNat bt186.1.size).size : Int)) then (if (mn x3 ((bt186.1.extract ((mn (wrap64 (32 * x178002)) (bt186.1.size : Int)) : Int).toNat bt186.1.size).size : Int)) ≤ ((bt186.1.extract ((mn (wrap64 (32 * x178002)) (bt186.1.size : Int)) : Int).toNat bt186.1.size).size : Int) then (if (((bt186.1.extract ((mn (wrap64 (32 * x178002)) (bt186.1.size : Int)) : Int).toNat bt186.1.size).extract 0 ((mn x3 ((bt186.1.extract ((mn (wrap64 (32 * x178002)) (bt186.1.size : Int)) : Int).toNat bt186.1.size).size : Int)) : Int).toNat).size : Int) < 32 then ((device_New.f).bind fun bt188 => (some (bt188.1, bt188.2.1, bt188.2.2.1, bt188.2.2.2.1, bt188.2.2.2.2.1, bt188.2.2.2.2.2, (bt186.1.extract ((mn (wrap64 (32 * x178002)) (bt186.1.size : Int)) : Int).toNat bt186.1.size).extract 0 ((mn x3 ((bt186.1.extract ((mn (wrap64 (32 * x178002)) (bt186.1.size : Int)) : Int).toNat bt186.1.size).size : Int)) : Int).toNat, 0))) else (some (6, x178001, mn (wrap64 (x178002 + 1)) 16, x178003, x178004, x178005, (bt186.1.extract ((mn (wrap64 (32 * x178002)) (bt186.1.size : Int)) : Int).toNat bt186.1.size).extract 0 ((mn x3 ((bt186.1.extract ((mn (wrap64 (32 * x178002)) (bt186.1.size : Int)) : Int).toNat bt186.1.size).size : Int)) : Int).toNat, 0))) else (none)) else (none)) else (none)) else (none))) else ((device_Failed.f 4).bind fun bt178 => (some (bt178.1, bt178.2.1, bt178.2.2.1, bt178.2.2.2.1, bt178.2.2.2.2.1, bt178.2.2.2.2.2, (⟨#[]⟩ : ByteArray), 0)))
end
def upload_Give.f (k : Nat) (a0 : ByteArray) (a1_0 : Int) (a1_1 : Int) (a1_2 : Int) (a1_3 : Int) (a1_4 : Int) (l1_5 : List (S87)) (a2 : Int) (a3 : Int) : Option (Int × Int × Int × Int × Int × (List (S87)) × ByteArray × Int) := (PSc.nor_May.f a0).bind fun t148 => (if t148 = true then ((Hand.device_May.f a1_0 a1_1 a1_2 a1_3 a1_4 l1_5).bind fun t149 => (if t149 = true then (if a1_0 = 0 then ((setup_Value.f a2).bind fun t150 => (if t150 = true then ((setup_Length.f a3).bind fun t151 => (upload_Give.j0 k a0 a2 a3 (!t151) a1_0 a1_1 a1_2 a1_3 a1_4 l1_5)) else (upload_Give.j0 k a0 a2 a3 true a1_0 a1_1 a1_2 a1_3 a1_4 l1_5))) else (if a1_0 = 6 then ((setup_Value.f a2).bind fun t152 => (if t152 = true then ((setup_Length.f a3).bind fun t153 => (upload_Give.j0 k a0 a2 a3 (!t153) a1_0 a1_1 a1_2 a1_3 a1_4 l1_5)) else (upload_Give.j0 k a0 a2 a3 true a1_0 a1_1 a1_2 a1_3 a1_4 l1_5))) else (upload_Give.j0 k a0 a2 a3 true a1_0 a1_1 a1_2 a1_3 a1_4 l1_5))) else (upload_Give.j0 k a0 a2 a3 true a1_0 a1_1 a1_2 a1_3 a1_4 l1_5))) else (upload_Give.j0 k a0 a2 a3 true a1_0 a1_1 a1_2 a1_3 a1_4 l1_5))
set_option maxHeartbeats 8000000 in
set_option maxRecDepth 100000 in
theorem upload_Give.calls (k : Nat) (a0 : ByteArray) (a1_0 : Int) (a1_1 : Int) (a1_2 : Int) (a1_3 : Int) (a1_4 : Int) (A1_5 : Option Addr) (c1_5 : Nat) (l1_5 : List (S87)) (a2 : Int) (a3 : Int) (r1 : Int) (r2 : Int) (r3 : Int) (r4 : Int) (r5 : Int) (r6 : List (S87)) (r7 : ByteArray) (r8 : Int) (w : World) (hr1_5 : Kd.C k87 w A1_5 l1_5.length l1_5) (hc1_5 : l1_5.length ≤ c1_5) (h : upload_Give.f k a0 a1_0 a1_1 a1_2 a1_3 a1_4 l1_5 a2 a3 = some (r1, r2, r3, r4, r5, r6, r7, r8)) :
  Calls Try.prog 24 #[.string a0, .agg #[.int .i64 a1_0, .int .i64 a1_1, .int .i64 a1_2, .int .i64 a1_3, .int .i64 a1_4, .slice A1_5 l1_5.length c1_5], .int .i64 a2, .int .i64 a3] w fun e w' => ∃ v5_ : Value, e = .returned (.tuple #[.agg #[.int .i64 r1, .int .i64 r2, .int .i64 r3, .int .i64 r4, .int .i64 r5, v5_], .string r7, .int .i64 r8]) ∧ Kd.R k87 87 w' w.heap.size (fun _ => True) v5_ r6 ∧ Below w.heap.size w w' := by
 have hu56 := Try.underlying56
 have hu25 := Try.underlying25
 have hu23 := Try.underlying23
 have HR1_5 := Aside0.mk hr1_5
 have HC1_5 := Aside0.mk hc1_5
 clear hr1_5 hc1_5
 have HB := Aside0.mk (Below.refl w.heap.size w)
 have H : ((PSc.nor_May.f a0).bind fun t148 => (if t148 = true then ((Hand.device_May.f a1_0 a1_1 a1_2 a1_3 a1_4 l1_5).bind fun t149 => (if t149 = true then (if a1_0 = 0 then ((setup_Value.f a2).bind fun t150 => (if t150 = true then ((setup_Length.f a3).bind fun t151 => (upload_Give.j0 k a0 a2 a3 (!t151) a1_0 a1_1 a1_2 a1_3 a1_4 l1_5)) else (upload_Give.j0 k a0 a2 a3 true a1_0 a1_1 a1_2 a1_3 a1_4 l1_5))) else (if a1_0 = 6 then ((setup_Value.f a2).bind fun t152 => (if t152 = true then ((setup_Length.f a3).bind fun t153 => (upload_Give.j0 k a0 a2 a3 (!t153) a1_0 a1_1 a1_2 a1_3 a1_4 l1_5)) else (upload_Give.j0 k a0 a2 a3 true a1_0 a1_1 a1_2 a1_3 a1_4 l1_5))) else (upload_Give.j0 k a0 a2 a3 true a1_0 a1_1 a1_2 a1_3 a1_4 l1_5))) else (upload_Give.j0 k a0 a2 a3 true a1_0 a1_1 a1_2 a1_3 a1_4 l1_5))) else (upload_Give.j0 k a0 a2 a3 true a1_0 a1_1 a1_2 a1_3 a1_4 l1_5))) = some (r1, r2, r3, r4, r5, r6, r7, r8) := h
 clear h
 have HC5 := Aside0.mk H
 clear H
 go_enter Try.func24, Try.ntmps24
 go_upto_region 1 with (first | ((with_reducible refine gate_dst (N := 5) rfl ?_); refine box_event ?hg (N := 5) ?hd (cs := #[.int .i64 a1_0, .int .i64 a1_1, .int .i64 a1_2, .int .i64 a1_3, .int .i64 a1_4, .slice A1_5 l1_5.length c1_5]) (t := 56) ?hr ?_; (case hd => rfl); (case hg => rfl); (case hr => first | (go_simp; done) | (go_simp; rfl)); intro gb146 hg w6 hbox hb; have BK146 := Aside0.mk (hbox); have GW146 := Aside0.mk ((by rw [hg]; exact (below_size q2_) : w.heap.size ≤ gb146)); have GE146 := Aside0.mk ((by rw [hg]; exact (below_size q2_) : w.heap.size ≤ gb146)); replace HB := Aside0.mk (below_step q2_ hb); clear hb hbox hg) | ((with_reducible refine gate_dst (N := 8) rfl ?_); refine box_event ?hg (N := 8) ?hd (cs := #[.int .i64 0, .int .i64 0, .int .i64 0, .int .i64 0, .int .i64 0, .slice none 0 0]) (t := 56) ?hr ?_; (case hd => rfl); (case hg => rfl); (case hr => first | (go_simp; done) | (go_simp; rfl)); intro gb147 hg w7 hbox hb; have BK147 := Aside0.mk (hbox); have GW147 := Aside0.mk ((by rw [hg]; exact (below_size q120_) : w.heap.size ≤ gb147)); have GE147 := Aside0.mk ((by rw [hg]; exact (below_size q120_) : w.heap.size ≤ gb147)); have NB146_147 := Aside0.mk (nl_ (g := gb146) hg q23_); have NB147_146 := Aside0.mk (ng_ (g := gb146) hg q23_); replace BK146 := Aside0.mk (blk_below (g := gb146) q23_ hb); replace HB := Aside0.mk (below_step q120_ hb); clear hb hbox hg))
 (try simp only [Act.put, List.setIfInBounds_toArray, List.set_cons_zero, List.set_cons_succ])
 go_cut [43] (fun v43 wc => ∃ (kq : Nat) (x43_4 : Bool), v43 = .bool x43_4 ∧ Aside0 (upload_Give.j0 kq a0 a2 a3 x43_4 a1_0 a1_1 a1_2 a1_3 a1_4 l1_5 = some (r1, r2, r3, r4, r5, r6, r7, r8)) ∧ Aside0 (kq ≤ k) ∧ Aside0 (wc.heap[gb146]? = some (.cells #[.int .i64 a1_0, .int .i64 a1_1, .int .i64 a1_2, .int .i64 a1_3, .int .i64 a1_4, (.slice A1_5 l1_5.length c1_5)] 56 (0, 0))) ∧ Aside0 (wc.heap[gb147]? = some (.cells #[.int .i64 0, .int .i64 0, .int .i64 0, .int .i64 0, .int .i64 0, (.slice none 0 0)] 56 (0, 0))) ∧ Aside0 (Below w.heap.size w wc))
 case first =>
  have H := HC5.out
  clear HC5
  replace H := Option.bind_eq_some_iff.mp H
  obtain ⟨t148, A80, H⟩ := H
  (try dsimp only at H)
  have A8 := Aside0.mk A80
  clear A80
  by_cases c9 : t148 = true
  rotate_left
  ·replace c9 := Bool.eq_false_iff.mpr c9
   subst c9
   have H1 : (upload_Give.j0 k a0 a2 a3 true a1_0 a1_1 a1_2 a1_3 a1_4 l1_5) = some (r1, r2, r3, r4, r5, r6, r7, r8) := by rw [if_neg (show ¬ (false = true) by decide)] at H; exact H
   clear H
   have H := H1
   clear H1
   have H' := Aside0.mk H
   clear H
   go_wp2_with (first | ((with_reducible refine gate_callee (f := 46) rfl ?_); refine goesL_ (some 17) rfl rfl Try.func46 (by kernel_rfl) rfl #[.string a0] rfl q1_ ?_; (with_reducible refine (PSc.nor_May.calls a0 false _ A8.out).mono ?_); rintro e w' ⟨rfl, ⟨nd, rfl⟩⟩; refine ⟨_, rfl, ?_⟩))
   go_meet
   case rel => exact ⟨_, (true), q17_, H', ⟨by first | omega | exact Nat.le_refl _⟩, ⟨by (with_reducible repeat (first | refine blk_drewN ?_ _ | refine blk_drew ?_ | refine blk_alloc ?_ _)); exact BK146.out⟩, ⟨by (with_reducible repeat (first | refine blk_drewN ?_ _ | refine blk_drew ?_ | refine blk_alloc ?_ _)); exact BK147.out⟩, ⟨by repeat (first | (with_reducible first | exact HB.out | apply below_alloc | apply pw_below_drewN | apply below_drew1 | refine below_set ?_ GE146.out | refine below_set ?_ GE147.out) | exact HB.out)⟩⟩
  subst c9
  have H1 : ((Hand.device_May.f a1_0 a1_1 a1_2 a1_3 a1_4 l1_5).bind fun t149 => (if t149 = true then (if a1_0 = 0 then ((setup_Value.f a2).bind fun t150 => (if t150 = true then ((setup_Length.f a3).bind fun t151 => (upload_Give.j0 k a0 a2 a3 (!t151) a1_0 a1_1 a1_2 a1_3 a1_4 l1_5)) else (upload_Give.j0 k a0 a2 a3 true a1_0 a1_1 a1_2 a1_3 a1_4 l1_5))) else (if a1_0 = 6 then ((setup_Value.f a2).bind fun t152 => (if t152 = true then ((setup_Length.f a3).bind fun t153 => (upload_Give.j0 k a0 a2 a3 (!t153) a1_0 a1_1 a1_2 a1_3 a1_4 l1_5)) else (upload_Give.j0 k a0 a2 a3 true a1_0 a1_1 a1_2 a1_3 a1_4 l1_5))) else (upload_Give.j0 k a0 a2 a3 true a1_0 a1_1 a1_2 a1_3 a1_4 l1_5))) else (upload_Give.j0 k a0 a2 a3 true a1_0 a1_1 a1_2 a1_3 a1_4 l1_5))) = some (r1, r2, r3, r4, r5, r6, r7, r8) := by rw [if_pos rfl] at H; exact H
  clear H
  have H := H1
  clear H1
  replace H := Option.bind_eq_some_iff.mp H
  obtain ⟨t149, A100, H⟩ := H
  (try dsimp only at H)
  have A10 := Aside0.mk A100
  clear A100
  by_cases c11 : t149 = true
  rotate_left
  ·replace c11 := Bool.eq_false_iff.mpr c11
   subst c11
   have H1 : (upload_Give.j0 k a0 a2 a3 true a1_0 a1_1 a1_2 a1_3 a1_4 l1_5) = some (r1, r2, r3, r4, r5, r6, r7, r8) := by rw [if_neg (show ¬ (false = true) by decide)] at H; exact H
   clear H
   have H := H1
   clear H1
   have H' := Aside0.mk H
   clear H
   go_wp2_with (first | ((with_reducible refine gate_callee (f := 46) rfl ?_); refine goesL_ (some 17) rfl rfl Try.func46 (by kernel_rfl) rfl #[.string a0] rfl q1_ ?_; (with_reducible refine (PSc.nor_May.calls a0 true _ A8.out).mono ?_); rintro e w' ⟨rfl, ⟨nd, rfl⟩⟩; refine ⟨_, rfl, ?_⟩; have hnb40 := NB146_147.out; have hnc40 := NB147_146.out; obtain ⟨hcz41_0, hcz41_1, hcz41_2, hcz41_3, hcz41_4, hcz41_5, hfz41_0, hfz41_1, hfz41_2, hfz41_3, hfz41_4, hfz41_5⟩ := cells6_ BK146.out) | (go_at_call 47; (with_reducible refine (Hand.device_May.calls a1_0 a1_1 a1_2 a1_3 a1_4 _ _ l1_5 false _ ?side1 ?side2 A10.out).mono ?_); (case side1 => repeat (first | exact (Kd.C_below HR1_5.out q19_) | (with_reducible refine Kd.C_alloc ?_ _) | (with_reducible refine Kd.C_drewN ?_ _) | (with_reducible refine Kd.C_drew ?_))); (case side2 => exact HC1_5.out); rintro e w42 ⟨rfl, hb⟩; replace BK146 := Aside0.mk (blk_below (g := gb146) q23_ hb); replace BK147 := Aside0.mk (blk_below (g := gb147) q26_ hb); replace HB := Aside0.mk (below_step q19_ hb); (try clear hb); (try clear hb2); (try clear hk); (try clear hi)))
   go_meet
   case rel => exact ⟨_, (true), q17_, H', ⟨by first | omega | exact Nat.le_refl _⟩, ⟨by (with_reducible repeat (first | refine blk_drewN ?_ _ | refine blk_drew ?_ | refine blk_alloc ?_ _)); exact BK146.out⟩, ⟨by (with_reducible repeat (first | refine blk_drewN ?_ _ | refine blk_drew ?_ | refine blk_alloc ?_ _)); exact BK147.out⟩, ⟨by repeat (first | (with_reducible first | exact HB.out | apply below_alloc | apply pw_below_drewN | apply below_drew1 | refine below_set ?_ GE146.out | refine below_set ?_ GE147.out) | exact HB.out)⟩⟩
  subst c11
  have H1 : (if a1_0 = 0 then ((setup_Value.f a2).bind fun t150 => (if t150 = true then ((setup_Length.f a3).bind fun t151 => (upload_Give.j0 k a0 a2 a3 (!t151) a1_0 a1_1 a1_2 a1_3 a1_4 l1_5)) else (upload_Give.j0 k a0 a2 a3 true a1_0 a1_1 a1_2 a1_3 a1_4 l1_5))) else (if a1_0 = 6 then ((setup_Value.f a2).bind fun t152 => (if t152 = true then ((setup_Length.f a3).bind fun t153 => (upload_Give.j0 k a0 a2 a3 (!t153) a1_0 a1_1 a1_2 a1_3 a1_4 l1_5)) else (upload_Give.j0 k a0 a2 a3 true a1_0 a1_1 a1_2 a1_3 a1_4 l1_5))) else (upload_Give.j0 k a0 a2 a3 true a1_0 a1_1 a1_2 a1_3 a1_4 l1_5))) = some (r1, r2, r3, r4, r5, r6, r7, r8) := by rw [if_pos rfl] at H; exact H
  clear H
  have H := H1
  clear H1
  by_cases c12 : a1_0 = 0
  ·rw [if_pos c12] at H
   have c12b0 : (a1_0 == 0) = true := beq_iff_eq.mpr c12
   have c12b1 : (a1_0 != 0) = false := bne_eq_false_iff_eq.mpr c12
   clear c12
   (first | rw [c12b0] | (simp only [i64_w, i32_w]; rw [c12b0]) | skip)
   replace H := Option.bind_eq_some_iff.mp H
   obtain ⟨t150, A130, H⟩ := H
   (try dsimp only at H)
   have A13 := Aside0.mk A130
   clear A130
   by_cases c14 : t150 = true
   rotate_left
   ·replace c14 := Bool.eq_false_iff.mpr c14
    subst c14
    have H1 : (upload_Give.j0 k a0 a2 a3 true a1_0 a1_1 a1_2 a1_3 a1_4 l1_5) = some (r1, r2, r3, r4, r5, r6, r7, r8) := by rw [if_neg (show ¬ (false = true) by decide)] at H; exact H
    clear H
    have H := H1
    clear H1
    have H' := Aside0.mk H
    clear H
    go_wp2_with (first | ((with_reducible refine gate_callee (f := 46) rfl ?_); refine goesL_ (some 17) rfl rfl Try.func46 (by kernel_rfl) rfl #[.string a0] rfl q1_ ?_; (with_reducible refine (PSc.nor_May.calls a0 true _ A8.out).mono ?_); rintro e w' ⟨rfl, ⟨nd, rfl⟩⟩; refine ⟨_, rfl, ?_⟩; have hnb20 := NB146_147.out; have hnc20 := NB147_146.out; obtain ⟨hcz21_0, hcz21_1, hcz21_2, hcz21_3, hcz21_4, hcz21_5, hfz21_0, hfz21_1, hfz21_2, hfz21_3, hfz21_4, hfz21_5⟩ := cells6_ BK146.out) | (go_at_call 47; (with_reducible refine (Hand.device_May.calls a1_0 a1_1 a1_2 a1_3 a1_4 _ _ l1_5 true _ ?side1 ?side2 A10.out).mono ?_); (case side1 => repeat (first | exact (Kd.C_below HR1_5.out q19_) | (with_reducible refine Kd.C_alloc ?_ _) | (with_reducible refine Kd.C_drewN ?_ _) | (with_reducible refine Kd.C_drew ?_))); (case side2 => exact HC1_5.out); rintro e w22 ⟨rfl, hb⟩; replace BK146 := Aside0.mk (blk_below (g := gb146) q23_ hb); replace BK147 := Aside0.mk (blk_below (g := gb147) q26_ hb); replace HB := Aside0.mk (below_step q19_ hb); (try clear hb); (try clear hb2); (try clear hk); (try clear hi); obtain ⟨hcz23_0, hcz23_1, hcz23_2, hcz23_3, hcz23_4, hcz23_5, hfz23_0, hfz23_1, hfz23_2, hfz23_3, hfz23_4, hfz23_5⟩ := cells6_ BK146.out) | (go_at_call 48; (with_reducible refine (setup_Value.calls a2 false _ A13.out).mono ?_); rintro e w' ⟨rfl, ⟨nd, rfl⟩⟩))
    go_meet
    case rel => exact ⟨_, (true), q17_, H', ⟨by first | omega | exact Nat.le_refl _⟩, ⟨by (with_reducible repeat (first | refine blk_drewN ?_ _ | refine blk_drew ?_ | refine blk_alloc ?_ _)); exact BK146.out⟩, ⟨by (with_reducible repeat (first | refine blk_drewN ?_ _ | refine blk_drew ?_ | refine blk_alloc ?_ _)); exact BK147.out⟩, ⟨by repeat (first | (with_reducible first | exact HB.out | apply below_alloc | apply pw_below_drewN | apply below_drew1 | refine below_set ?_ GE146.out | refine below_set ?_ GE147.out) | exact HB.out)⟩⟩
   subst c14
   have H1 : ((setup_Length.f a3).bind fun t151 => (upload_Give.j0 k a0 a2 a3 (!t151) a1_0 a1_1 a1_2 a1_3 a1_4 l1_5)) = some (r1, r2, r3, r4, r5, r6, r7, r8) := by rw [if_pos rfl] at H; exact H
   clear H
   have H := H1
   clear H1
   replace H := Option.bind_eq_some_iff.mp H
   obtain ⟨t151, A150, H⟩ := H
   (try dsimp only at H)
   have A15 := Aside0.mk A150
   clear A150
   have H' := Aside0.mk H
   clear H
   go_wp2_with (first | ((with_reducible refine gate_callee (f := 46) rfl ?_); refine goesL_ (some 17) rfl rfl Try.func46 (by kernel_rfl) rfl #[.string a0] rfl q1_ ?_; (with_reducible refine (PSc.nor_May.calls a0 true _ A8.out).mono ?_); rintro e w' ⟨rfl, ⟨nd, rfl⟩⟩; refine ⟨_, rfl, ?_⟩; have hnb16 := NB146_147.out; have hnc16 := NB147_146.out; obtain ⟨hcz17_0, hcz17_1, hcz17_2, hcz17_3, hcz17_4, hcz17_5, hfz17_0, hfz17_1, hfz17_2, hfz17_3, hfz17_4, hfz17_5⟩ := cells6_ BK146.out) | (go_at_call 47; (with_reducible refine (Hand.device_May.calls a1_0 a1_1 a1_2 a1_3 a1_4 _ _ l1_5 true _ ?side1 ?side2 A10.out).mono ?_); (case side1 => repeat (first | exact (Kd.C_below HR1_5.out q19_) | (with_reducible refine Kd.C_alloc ?_ _) | (with_reducible refine Kd.C_drewN ?_ _) | (with_reducible refine Kd.C_drew ?_))); (case side2 => exact HC1_5.out); rintro e w18 ⟨rfl, hb⟩; replace BK146 := Aside0.mk (blk_below (g := gb146) q23_ hb); replace BK147 := Aside0.mk (blk_below (g := gb147) q26_ hb); replace HB := Aside0.mk (below_step q19_ hb); (try clear hb); (try clear hb2); (try clear hk); (try clear hi); obtain ⟨hcz19_0, hcz19_1, hcz19_2, hcz19_3, hcz19_4, hcz19_5, hfz19_0, hfz19_1, hfz19_2, hfz19_3, hfz19_4, hfz19_5⟩ := cells6_ BK146.out) | (go_at_call 48; (with_reducible refine (setup_Value.calls a2 true _ A13.out).mono ?_); rintro e w' ⟨rfl, ⟨nd, rfl⟩⟩) | (go_at_call 49; (with_reducible refine (setup_Length.calls a3 t151 _ A15.out).mono ?_); rintro e w' ⟨rfl, ⟨nd, rfl⟩⟩))
   go_meet
   case rel => exact ⟨_, (!t151), q17_, H', ⟨by first | omega | exact Nat.le_refl _⟩, ⟨by (with_reducible repeat (first | refine blk_drewN ?_ _ | refine blk_drew ?_ | refine blk_alloc ?_ _)); exact BK146.out⟩, ⟨by (with_reducible repeat (first | refine blk_drewN ?_ _ | refine blk_drew ?_ | refine blk_alloc ?_ _)); exact BK147.out⟩, ⟨by repeat (first | (with_reducible first | exact HB.out | apply below_alloc | apply pw_below_drewN | apply below_drew1 | refine below_set ?_ GE146.out | refine below_set ?_ GE147.out) | exact HB.out)⟩⟩
  rw [if_neg c12] at H
  have c12b0 : (a1_0 == 0) = false := beq_eq_false_iff_ne.mpr c12
  have c12b1 : (a1_0 != 0) = true := bne_iff_ne.mpr c12
  (first | rw [c12b0] | (simp only [i64_w, i32_w]; rw [c12b0]) | skip)
  by_cases c24 : a1_0 = 6
  rotate_left
  ·rw [if_neg c24] at H
   have c24b0 : (a1_0 == 6) = false := beq_eq_false_iff_ne.mpr c24
   have c24b1 : (a1_0 != 6) = true := bne_iff_ne.mpr c24
   have H' := Aside0.mk H
   clear H
   go_wp2_with (first | ((with_reducible refine gate_callee (f := 46) rfl ?_); refine goesL_ (some 17) rfl rfl Try.func46 (by kernel_rfl) rfl #[.string a0] rfl q1_ ?_; (with_reducible refine (PSc.nor_May.calls a0 true _ A8.out).mono ?_); rintro e w' ⟨rfl, ⟨nd, rfl⟩⟩; refine ⟨_, rfl, ?_⟩; have hnb36 := NB146_147.out; have hnc36 := NB147_146.out; obtain ⟨hcz37_0, hcz37_1, hcz37_2, hcz37_3, hcz37_4, hcz37_5, hfz37_0, hfz37_1, hfz37_2, hfz37_3, hfz37_4, hfz37_5⟩ := cells6_ BK146.out) | (go_at_call 47; (with_reducible refine (Hand.device_May.calls a1_0 a1_1 a1_2 a1_3 a1_4 _ _ l1_5 true _ ?side1 ?side2 A10.out).mono ?_); (case side1 => repeat (first | exact (Kd.C_below HR1_5.out q19_) | (with_reducible refine Kd.C_alloc ?_ _) | (with_reducible refine Kd.C_drewN ?_ _) | (with_reducible refine Kd.C_drew ?_))); (case side2 => exact HC1_5.out); rintro e w38 ⟨rfl, hb⟩; replace BK146 := Aside0.mk (blk_below (g := gb146) q23_ hb); replace BK147 := Aside0.mk (blk_below (g := gb147) q26_ hb); replace HB := Aside0.mk (below_step q19_ hb); (try clear hb); (try clear hb2); (try clear hk); (try clear hi); obtain ⟨hcz39_0, hcz39_1, hcz39_2, hcz39_3, hcz39_4, hcz39_5, hfz39_0, hfz39_1, hfz39_2, hfz39_3, hfz39_4, hfz39_5⟩ := cells6_ BK146.out))
   go_meet
   case rel => exact ⟨_, (true), q17_, H', ⟨by first | omega | exact Nat.le_refl _⟩, ⟨by (with_reducible repeat (first | refine blk_drewN ?_ _ | refine blk_drew ?_ | refine blk_alloc ?_ _)); exact BK146.out⟩, ⟨by (with_reducible repeat (first | refine blk_drewN ?_ _ | refine blk_drew ?_ | refine blk_alloc ?_ _)); exact BK147.out⟩, ⟨by repeat (first | (with_reducible first | exact HB.out | apply below_alloc | apply pw_below_drewN | apply below_drew1 | refine below_set ?_ GE146.out | refine below_set ?_ GE147.out) | exact HB.out)⟩⟩
  rw [if_pos c24] at H
  have c24b0 : (a1_0 == 6) = true := beq_iff_eq.mpr c24
  have c24b1 : (a1_0 != 6) = false := bne_eq_false_iff_eq.mpr c24
  clear c24
  replace H := Option.bind_eq_some_iff.mp H
  obtain ⟨t152, A250, H⟩ := H
  (try dsimp only at H)
  have A25 := Aside0.mk A250
  clear A250
  by_cases c26 : t152 = true
  rotate_left
  ·replace c26 := Bool.eq_false_iff.mpr c26
   subst c26
   have H1 : (upload_Give.j0 k a0 a2 a3 true a1_0 a1_1 a1_2 a1_3 a1_4 l1_5) = some (r1, r2, r3, r4, r5, r6, r7, r8) := by rw [if_neg (show ¬ (false = true) by decide)] at H; exact H
   clear H
   have H := H1
   clear H1
   have H' := Aside0.mk H
   clear H
   go_wp2_with (first | ((with_reducible refine gate_callee (f := 46) rfl ?_); refine goesL_ (some 17) rfl rfl Try.func46 (by kernel_rfl) rfl #[.string a0] rfl q1_ ?_; (with_reducible refine (PSc.nor_May.calls a0 true _ A8.out).mono ?_); rintro e w' ⟨rfl, ⟨nd, rfl⟩⟩; refine ⟨_, rfl, ?_⟩; have hnb32 := NB146_147.out; have hnc32 := NB147_146.out; obtain ⟨hcz33_0, hcz33_1, hcz33_2, hcz33_3, hcz33_4, hcz33_5, hfz33_0, hfz33_1, hfz33_2, hfz33_3, hfz33_4, hfz33_5⟩ := cells6_ BK146.out) | (go_at_call 47; (with_reducible refine (Hand.device_May.calls a1_0 a1_1 a1_2 a1_3 a1_4 _ _ l1_5 true _ ?side1 ?side2 A10.out).mono ?_); (case side1 => repeat (first | exact (Kd.C_below HR1_5.out q19_) | (with_reducible refine Kd.C_alloc ?_ _) | (with_reducible refine Kd.C_drewN ?_ _) | (with_reducible refine Kd.C_drew ?_))); (case side2 => exact HC1_5.out); rintro e w34 ⟨rfl, hb⟩; replace BK146 := Aside0.mk (blk_below (g := gb146) q23_ hb); replace BK147 := Aside0.mk (blk_below (g := gb147) q26_ hb); replace HB := Aside0.mk (below_step q19_ hb); (try clear hb); (try clear hb2); (try clear hk); (try clear hi); obtain ⟨hcz35_0, hcz35_1, hcz35_2, hcz35_3, hcz35_4, hcz35_5, hfz35_0, hfz35_1, hfz35_2, hfz35_3, hfz35_4, hfz35_5⟩ := cells6_ BK146.out) | (go_at_call 48; (with_reducible refine (setup_Value.calls a2 false _ A25.out).mono ?_); rintro e w' ⟨rfl, ⟨nd, rfl⟩⟩))
   go_meet
   case rel => exact ⟨_, (true), q17_, H', ⟨by first | omega | exact Nat.le_refl _⟩, ⟨by (with_reducible repeat (first | refine blk_drewN ?_ _ | refine blk_drew ?_ | refine blk_alloc ?_ _)); exact BK146.out⟩, ⟨by (with_reducible repeat (first | refine blk_drewN ?_ _ | refine blk_drew ?_ | refine blk_alloc ?_ _)); exact BK147.out⟩, ⟨by repeat (first | (with_reducible first | exact HB.out | apply below_alloc | apply pw_below_drewN | apply below_drew1 | refine below_set ?_ GE146.out | refine below_set ?_ GE147.out) | exact HB.out)⟩⟩
  subst c26
  have H1 : ((setup_Length.f a3).bind fun t153 => (upload_Give.j0 k a0 a2 a3 (!t153) a1_0 a1_1 a1_2 a1_3 a1_4 l1_5)) = some (r1, r2, r3, r4, r5, r6, r7, r8) := by rw [if_pos rfl] at H; exact H
  clear H
  have H := H1
  clear H1
  replace H := Option.bind_eq_some_iff.mp H
  obtain ⟨t153, A270, H⟩ := H
  (try dsimp only at H)
  have A27 := Aside0.mk A270
  clear A270
  have H' := Aside0.mk H
  clear H
  go_wp2_with (first | ((with_reducible refine gate_callee (f := 46) rfl ?_); refine goesL_ (some 17) rfl rfl Try.func46 (by kernel_rfl) rfl #[.string a0] rfl q1_ ?_; (with_reducible refine (PSc.nor_May.calls a0 true _ A8.out).mono ?_); rintro e w' ⟨rfl, ⟨nd, rfl⟩⟩; refine ⟨_, rfl, ?_⟩; have hnb28 := NB146_147.out; have hnc28 := NB147_146.out; obtain ⟨hcz29_0, hcz29_1, hcz29_2, hcz29_3, hcz29_4, hcz29_5, hfz29_0, hfz29_1, hfz29_2, hfz29_3, hfz29_4, hfz29_5⟩ := cells6_ BK146.out) | (go_at_call 47; (with_reducible refine (Hand.device_May.calls a1_0 a1_1 a1_2 a1_3 a1_4 _ _ l1_5 true _ ?side1 ?side2 A10.out).mono ?_); (case side1 => repeat (first | exact (Kd.C_below HR1_5.out q19_) | (with_reducible refine Kd.C_alloc ?_ _) | (with_reducible refine Kd.C_drewN ?_ _) | (with_reducible refine Kd.C_drew ?_))); (case side2 => exact HC1_5.out); rintro e w30 ⟨rfl, hb⟩; replace BK146 := Aside0.mk (blk_below (g := gb146) q23_ hb); replace BK147 := Aside0.mk (blk_below (g := gb147) q26_ hb); replace HB := Aside0.mk (below_step q19_ hb); (try clear hb); (try clear hb2); (try clear hk); (try clear hi); obtain ⟨hcz31_0, hcz31_1, hcz31_2, hcz31_3, hcz31_4, hcz31_5, hfz31_0, hfz31_1, hfz31_2, hfz31_3, hfz31_4, hfz31_5⟩ := cells6_ BK146.out) | (go_at_call 48; (with_reducible refine (setup_Value.calls a2 true _ A25.out).mono ?_); rintro e w' ⟨rfl, ⟨nd, rfl⟩⟩) | (go_at_call 49; (with_reducible refine (setup_Length.calls a3 t153 _ A27.out).mono ?_); rintro e w' ⟨rfl, ⟨nd, rfl⟩⟩))
  go_meet
  case rel => exact ⟨_, (!t153), q17_, H', ⟨by first | omega | exact Nat.le_refl _⟩, ⟨by (with_reducible repeat (first | refine blk_drewN ?_ _ | refine blk_drew ?_ | refine blk_alloc ?_ _)); exact BK146.out⟩, ⟨by (with_reducible repeat (first | refine blk_drewN ?_ _ | refine blk_drew ?_ | refine blk_alloc ?_ _)); exact BK147.out⟩, ⟨by repeat (first | (with_reducible first | exact HB.out | apply below_alloc | apply pw_below_drewN | apply below_drew1 | refine below_set ?_ GE146.out | refine below_set ?_ GE147.out) | exact HB.out)⟩⟩
 case rest =>
  clear HC5
  try clear c1
  try clear c2
  try clear p2
  try clear c3
  try clear c4
  try clear c9
  try clear c11
  try clear c12
  try clear c12b0
  try clear c12b1
  try clear c14
  try clear c16
  try clear c20
  try clear c24
  try clear c24b0
  try clear c24b1
  try clear c26
  try clear c28
  try clear c32
  try clear c36
  try clear c40
  try clear hcz17_0
  try clear hcz17_1
  try clear hcz17_2
  try clear hcz17_3
  try clear hcz17_4
  try clear hcz17_5
  try clear hcz19_0
  try clear hcz19_1
  try clear hcz19_2
  try clear hcz19_3
  try clear hcz19_4
  try clear hcz19_5
  try clear hcz21_0
  try clear hcz21_1
  try clear hcz21_2
  try clear hcz21_3
  try clear hcz21_4
  try clear hcz21_5
  try clear hcz23_0
  try clear hcz23_1
  try clear hcz23_2
  try clear hcz23_3
  try clear hcz23_4
  try clear hcz23_5
  try clear hcz29_0
  try clear hcz29_1
  try clear hcz29_2
  try clear hcz29_3
  try clear hcz29_4
  try clear hcz29_5
  try clear hcz31_0
  try clear hcz31_1
  try clear hcz31_2
  try clear hcz31_3
  try clear hcz31_4
  try clear hcz31_5
  try clear hcz33_0
  try clear hcz33_1
  try clear hcz33_2
  try clear hcz33_3
  try clear hcz33_4
  try clear hcz33_5
  try clear hcz35_0
  try clear hcz35_1
  try clear hcz35_2
  try clear hcz35_3
  try clear hcz35_4
  try clear hcz35_5
  try clear hcz37_0
  try clear hcz37_1
  try clear hcz37_2
  try clear hcz37_3
  try clear hcz37_4
  try clear hcz37_5
  try clear hcz39_0
  try clear hcz39_1
  try clear hcz39_2
  try clear hcz39_3
  try clear hcz39_4
  try clear hcz39_5
  try clear hcz41_0
  try clear hcz41_1
  try clear hcz41_2
  try clear hcz41_3
  try clear hcz41_4
  try clear hcz41_5
  try clear hfz17_0
  try clear hfz17_1
  try clear hfz17_2
  try clear hfz17_3
  try clear hfz17_4
  try clear hfz17_5
  try clear hfz19_0
  try clear hfz19_1
  try clear hfz19_2
  try clear hfz19_3
  try clear hfz19_4
  try clear hfz19_5
  try clear hfz21_0
  try clear hfz21_1
  try clear hfz21_2
  try clear hfz21_3
  try clear hfz21_4
  try clear hfz21_5
  try clear hfz23_0
  try clear hfz23_1
  try clear hfz23_2
  try clear hfz23_3
  try clear hfz23_4
  try clear hfz23_5
  try clear hfz29_0
  try clear hfz29_1
  try clear hfz29_2
  try clear hfz29_3
  try clear hfz29_4
  try clear hfz29_5
  try clear hfz31_0
  try clear hfz31_1
  try clear hfz31_2
  try clear hfz31_3
  try clear hfz31_4
  try clear hfz31_5
  try clear hfz33_0
  try clear hfz33_1
  try clear hfz33_2
  try clear hfz33_3
  try clear hfz33_4
  try clear hfz33_5
  try clear hfz35_0
  try clear hfz35_1
  try clear hfz35_2
  try clear hfz35_3
  try clear hfz35_4
  try clear hfz35_5
  try clear hfz37_0
  try clear hfz37_1
  try clear hfz37_2
  try clear hfz37_3
  try clear hfz37_4
  try clear hfz37_5
  try clear hfz39_0
  try clear hfz39_1
  try clear hfz39_2
  try clear hfz39_3
  try clear hfz39_4
  try clear hfz39_5
  try clear hfz41_0
  try clear hfz41_1
  try clear hfz41_2
  try clear hfz41_3
  try clear hfz41_4
  try clear hfz41_5
  obtain ⟨kq, x43_4, rfl, HA, HJ4, BK146, BK147, HB⟩ := hcut
  cases kq with
  | zero => exact absurd HA.out (by simp [upload_Give.j0])
  | succ kj4 =>
   have H := HA.out
   clear HA
   simp only [upload_Give.j0] at H
   by_cases c43 : x43_4 = true
   ·subst c43
    have H1 : (some (0, 0, 0, 0, 0, ([] : List (S87)), (⟨#[]⟩ : ByteArray), 2000)) = some (r1, r2, r3, r4, r5, r6, r7, r8) := by rw [if_pos rfl] at H; exact H
    clear H
    have H := H1
    clear H1
    simp only [Option.some.injEq, Prod.mk.injEq] at H
    obtain ⟨rfl, rfl, rfl, rfl, rfl, rfl, rfl, rfl⟩ := H
    have hnb44 := NB147_146.out
    have hnc44 := NB146_147.out
    obtain ⟨hcz45_0, hcz45_1, hcz45_2, hcz45_3, hcz45_4, hcz45_5, hfz45_0, hfz45_1, hfz45_2, hfz45_3, hfz45_4, hfz45_5⟩ := cells6_ BK147.out
    go_wp2
    refine bodyPost_ret (results_ctt rfl _ _ gb147 56 #[.int .i64 0, .int .i64 0, .int .i64 0, .int .i64 0, .int .i64 0, .slice none 0 0] (0, 0) _ rfl q70_ Try.underlying56 rfl (by kernel_rfl)) rfl ?_
    exact ⟨_, by first | rfl | (simp [errW_none, errW_some] <;> rfl) | (simp [*, errW_none, errW_some] <;> rfl), by first | exact Kd.R_nil _ _ _ _ _ | exact Kd.N_nil _ _ _ _ _ | exact Kd.V_nil _ _ _ _ _ | exact Kd.Q_nil _ _ _ _ _ | exact Kd.S_nil _ _ _ _ _, by repeat (first | (with_reducible first | exact HB.out | apply below_alloc | apply pw_below_drewN | apply below_drew1 | refine below_set ?_ GE146.out | refine below_set ?_ GE147.out) | exact HB.out)⟩
   replace c43 := Bool.eq_false_iff.mpr c43
   subst c43
   have H1 : ((Hand.choose_Active.f kj4 a0).bind fun bt154 => (if bt154.2.2.2.2.2 = 0 then ((device_Copy.f a1_0 a1_1 a1_2 a1_3 a1_4 l1_5).bind fun bt169 => (if a1_0 = 0 then (upload_Give.j1 kj4 a0 a2 a3 bt154.1 bt154.2.1 bt154.2.2.1 bt154.2.2.2.1 bt154.2.2.2.2.1 bt169.1 bt169.2.1 0 bt169.2.2.2.1 bt169.2.2.2.2.1 bt169.2.2.2.2.2) else (upload_Give.j1 kj4 a0 a2 a3 bt154.1 bt154.2.1 bt154.2.2.1 bt154.2.2.2.1 bt154.2.2.2.2.1 bt169.1 bt169.2.1 bt169.2.2.1 bt169.2.2.2.1 bt169.2.2.2.2.1 bt169.2.2.2.2.2))) else ((device_Failed.f 2).bind fun bt161 => (some (bt161.1, bt161.2.1, bt161.2.2.1, bt161.2.2.2.1, bt161.2.2.2.2.1, bt161.2.2.2.2.2, (⟨#[]⟩ : ByteArray), 0))))) = some (r1, r2, r3, r4, r5, r6, r7, r8) := by rw [if_neg (show ¬ (false = true) by decide)] at H; exact H
   clear H
   have H := H1
   clear H1
   replace H := Option.bind_eq_some_iff.mp H
   obtain ⟨⟨t154, t155, t156, t157, t158, t159⟩, A460, H⟩ := H
   (try dsimp only at H)
   have A46 := Aside0.mk A460
   clear A460
   by_cases c47 : t159 = 0
   rotate_left
   ·rw [if_neg c47] at H
    have c47b0 : (t159 == 0) = false := beq_eq_false_iff_ne.mpr c47
    have c47b1 : (t159 != 0) = true := bne_iff_ne.mpr c47
    replace H := Option.bind_eq_some_iff.mp H
    obtain ⟨⟨t161, t162, t163, t164, t165, t166⟩, A1150, H⟩ := H
    (try dsimp only at H)
    have A115 := Aside0.mk A1150
    clear A1150
    simp only [Option.some.injEq, Prod.mk.injEq] at H
    obtain ⟨rfl, rfl, rfl, rfl, rfl, rfl, rfl, rfl⟩ := H
    go_wp2_with (first | ((with_reducible refine gate_callee (f := 9) rfl ?_); refine goesL_ (some 47) rfl rfl Try.func9 (by kernel_rfl) rfl #[.string a0] rfl q1_ ?_; (with_reducible refine (Hand.choose_Active.calls kj4 a0 t154 t155 t156 t157 t158 t159 _ A46.out).mono ?_); rintro e w116 ⟨rfl, hb⟩; refine ⟨_, rfl, ?_⟩; replace BK146 := Aside0.mk (blk_below (g := gb146) q23_ hb); replace BK147 := Aside0.mk (blk_below (g := gb147) q26_ hb); replace HB := Aside0.mk (below_step q19_ hb); (try clear hb); (try clear hb2); (try clear hk); (try clear hi)) | ((with_reducible refine gate_dst (N := 11) rfl ?_); refine box_event ?hg (N := 11) ?hd (cs := #[.int .i64 0, .int .i64 0, .int .i64 0, .int .i64 0, .int .i64 0]) (t := 25) ?hr ?_; (case hd => rfl); (case hg => rfl); (case hr => first | (go_simp; done) | (go_simp; rfl)); intro gb160 hg w117 hbox hb; have BK160 := Aside0.mk (hbox); have GW160 := Aside0.mk ((by rw [hg]; exact (below_size q19_) : w.heap.size ≤ gb160)); have GE160 := Aside0.mk ((by rw [hg]; exact (below_size q19_) : w.heap.size ≤ gb160)); have NB146_160 := Aside0.mk (nl_ (g := gb146) hg q23_); have NB160_146 := Aside0.mk (ng_ (g := gb146) hg q23_); have NB147_160 := Aside0.mk (nl_ (g := gb147) hg q26_); have NB160_147 := Aside0.mk (ng_ (g := gb147) hg q26_); replace BK146 := Aside0.mk (blk_below (g := gb146) q23_ hb); replace BK147 := Aside0.mk (blk_below (g := gb147) q26_ hb); replace HB := Aside0.mk (below_step q19_ hb); clear hb hbox hg; have hnb118 := NB160_146.out; have hnc118 := NB146_160.out; have hnb119 := NB160_147.out; have hnc119 := NB147_160.out; obtain ⟨hcz120_0, hcz120_1, hcz120_2, hcz120_3, hcz120_4, hfz120_0, hfz120_1, hfz120_2, hfz120_3, hfz120_4⟩ := cells5_ BK160.out) | ((with_reducible refine gate_callee (f := 50) rfl ?_); refine goesL_ (some 52) rfl rfl Try.func50 (by kernel_rfl) rfl #[.int .i64 2] rfl q1_ ?_; (with_reducible refine (device_Failed.calls 2 t161 t162 t163 t164 t165 t166 _ A115.out).mono ?_); rintro e w121 ⟨v167, rfl, ho0, hb⟩; refine ⟨_, rfl, ?_⟩; have HO168 := Aside0.mk (Kd.R_lower ho0 (below_size q35_)); replace BK146 := Aside0.mk (blk_below (g := gb146) (o := .cells #[.int .i64 a1_0, .int .i64 a1_1, .int .i64 a1_2, .int .i64 a1_3, .int .i64 a1_4, .slice A1_5 l1_5.length c1_5] 56 (0, 0)) (by (with_reducible repeat (first | refine blk_drewN ?_ _ | refine blk_drew ?_ | refine blk_alloc ?_ _)); (iterate 5 (refine blk_far ?_ NB146_160.out _; (with_reducible repeat (first | refine blk_drewN ?_ _ | refine blk_drew ?_ | refine blk_alloc ?_ _)))); exact BK146.out) hb); replace BK147 := Aside0.mk (blk_below (g := gb147) (o := .cells #[.int .i64 0, .int .i64 0, .int .i64 0, .int .i64 0, .int .i64 0, .slice none 0 0] 56 (0, 0)) (by (with_reducible repeat (first | refine blk_drewN ?_ _ | refine blk_drew ?_ | refine blk_alloc ?_ _)); (iterate 5 (refine blk_far ?_ NB147_160.out _; (with_reducible repeat (first | refine blk_drewN ?_ _ | refine blk_drew ?_ | refine blk_alloc ?_ _)))); exact BK147.out) hb); replace BK160 := Aside0.mk (blk_below (g := gb160) (o := .cells #[.int .i64 t154, .int .i64 t155, .int .i64 t156, .int .i64 t157, .int .i64 t158] 25 (0, 0)) q123_ hb); replace HB := Aside0.mk (below_step q35_ hb); (try clear hb); (try clear hb2); (try clear hk); (try clear hi); (try clear ho0); have hnb122 := NB147_146.out; have hnc122 := NB146_147.out; obtain ⟨hcz123_0, hcz123_1, hcz123_2, hcz123_3, hcz123_4, hcz123_5, hfz123_0, hfz123_1, hfz123_2, hfz123_3, hfz123_4, hfz123_5⟩ := cells6_ BK147.out; obtain ⟨Ao124, co124, eo124⟩ := Kd.R_slice HO168.out; subst eo124))
    refine bodyPost_ret (results_ctt rfl _ _ gb147 56 #[.int .i64 t161, .int .i64 t162, .int .i64 t163, .int .i64 t164, .int .i64 t165, .slice Ao124 t166.length co124] (0, 0) _ rfl q70_ Try.underlying56 rfl (by kernel_rfl)) rfl ?_
    exact ⟨_, by first | rfl | (simp [errW_none, errW_some] <;> rfl) | (simp [*, errW_none, errW_some] <;> rfl), by (with_reducible repeat (first | apply Kd.R_alloc | apply Kd.R_drewN | apply Kd.R_drew)); exact Kd.R_mono (Kd.R_far (p := ⟨gb147, 5, none⟩) (Kd.R_far (p := ⟨gb147, 4, none⟩) (Kd.R_far (p := ⟨gb147, 3, none⟩) (Kd.R_far (p := ⟨gb147, 2, none⟩) (Kd.R_far (p := ⟨gb147, 1, none⟩) (Kd.R_far (p := ⟨gb147, 0, none⟩) (Kd.R_types HO168.out BK147.out (by decide)) (fun _ hk => hk.2) (.int .i64 t161)) (fun _ hk => hk.2) (.int .i64 t162)) (fun _ hk => hk.2) (.int .i64 t163)) (fun _ hk => hk.2) (.int .i64 t164)) (fun _ hk => hk.2) (.int .i64 t165)) (fun _ hk => hk.2) (.slice Ao124 t166.length co124)) (fun _ hk => trivial), by repeat (first | (with_reducible first | exact HB.out | apply below_alloc | apply pw_below_drewN | apply below_drew1 | refine below_set ?_ GE146.out | refine below_set ?_ GE147.out | refine below_set ?_ GE160.out) | exact HB.out)⟩
   rw [if_pos c47] at H
   have c47b0 : (t159 == 0) = true := beq_iff_eq.mpr c47
   have c47b1 : (t159 != 0) = false := bne_eq_false_iff_eq.mpr c47
   clear c47
   replace H := Option.bind_eq_some_iff.mp H
   obtain ⟨⟨t169, t170, t171, t172, t173, t174⟩, A480, H⟩ := H
   (try dsimp only at H)
   have A48 := Aside0.mk A480
   clear A480
   have HC49 := Aside0.mk H
   clear H
   go_upto_if 57 with (first | ((with_reducible refine gate_callee (f := 9) rfl ?_); refine goesL_ (some 47) rfl rfl Try.func9 (by kernel_rfl) rfl #[.string a0] rfl q1_ ?_; (with_reducible refine (Hand.choose_Active.calls kj4 a0 t154 t155 t156 t157 t158 t159 _ A46.out).mono ?_); rintro e w50 ⟨rfl, hb⟩; refine ⟨_, rfl, ?_⟩; replace BK146 := Aside0.mk (blk_below (g := gb146) q23_ hb); replace BK147 := Aside0.mk (blk_below (g := gb147) q26_ hb); replace HB := Aside0.mk (below_step q19_ hb); (try clear hb); (try clear hb2); (try clear hk); (try clear hi)) | ((with_reducible refine gate_dst (N := 11) rfl ?_); refine box_event ?hg (N := 11) ?hd (cs := #[.int .i64 0, .int .i64 0, .int .i64 0, .int .i64 0, .int .i64 0]) (t := 25) ?hr ?_; (case hd => rfl); (case hg => rfl); (case hr => first | (go_simp; done) | (go_simp; rfl)); intro gb160 hg w51 hbox hb; have BK160 := Aside0.mk (hbox); have GW160 := Aside0.mk ((by rw [hg]; exact (below_size q19_) : w.heap.size ≤ gb160)); have GE160 := Aside0.mk ((by rw [hg]; exact (below_size q19_) : w.heap.size ≤ gb160)); have NB146_160 := Aside0.mk (nl_ (g := gb146) hg q23_); have NB160_146 := Aside0.mk (ng_ (g := gb146) hg q23_); have NB147_160 := Aside0.mk (nl_ (g := gb147) hg q26_); have NB160_147 := Aside0.mk (ng_ (g := gb147) hg q26_); replace BK146 := Aside0.mk (blk_below (g := gb146) q23_ hb); replace BK147 := Aside0.mk (blk_below (g := gb147) q26_ hb); replace HB := Aside0.mk (below_step q19_ hb); clear hb hbox hg; have hnb52 := NB160_146.out; have hnc52 := NB146_160.out; have hnb53 := NB160_147.out; have hnc53 := NB147_160.out; obtain ⟨hcz54_0, hcz54_1, hcz54_2, hcz54_3, hcz54_4, hfz54_0, hfz54_1, hfz54_2, hfz54_3, hfz54_4⟩ := cells5_ BK160.out; have hnb55 := NB146_147.out; have hnc55 := NB147_146.out; obtain ⟨hcz56_0, hcz56_1, hcz56_2, hcz56_3, hcz56_4, hcz56_5, hfz56_0, hfz56_1, hfz56_2, hfz56_3, hfz56_4, hfz56_5⟩ := cells6_ BK146.out) | ((with_reducible refine gate_callee (f := 51) rfl ?_); refine goesL_ (some 54) rfl rfl Try.func51 (by kernel_rfl) rfl #[.agg #[.int .i64 a1_0, .int .i64 a1_1, .int .i64 a1_2, .int .i64 a1_3, .int .i64 a1_4, .slice A1_5 l1_5.length c1_5]] rfl q1_ ?_; (with_reducible refine (device_Copy.calls a1_0 a1_1 a1_2 a1_3 a1_4 _ _ l1_5 t169 t170 t171 t172 t173 t174 _ ?side1 ?side2 A48.out).mono ?_); (case side1 => exact Kd.C_below HR1_5.out q35_); (case side2 => exact HC1_5.out); rintro e w57 ⟨v175, rfl, ho0, hb⟩; refine ⟨_, rfl, ?_⟩; have HO176 := Aside0.mk (Kd.R_lower ho0 (below_size q35_)); replace BK146 := Aside0.mk (blk_below (g := gb146) (o := .cells #[.int .i64 a1_0, .int .i64 a1_1, .int .i64 a1_2, .int .i64 a1_3, .int .i64 a1_4, .slice A1_5 l1_5.length c1_5] 56 (0, 0)) (by (with_reducible repeat (first | refine blk_drewN ?_ _ | refine blk_drew ?_ | refine blk_alloc ?_ _)); (iterate 5 (refine blk_far ?_ NB146_160.out _; (with_reducible repeat (first | refine blk_drewN ?_ _ | refine blk_drew ?_ | refine blk_alloc ?_ _)))); exact BK146.out) hb); replace BK147 := Aside0.mk (blk_below (g := gb147) (o := .cells #[.int .i64 0, .int .i64 0, .int .i64 0, .int .i64 0, .int .i64 0, .slice none 0 0] 56 (0, 0)) (by (with_reducible repeat (first | refine blk_drewN ?_ _ | refine blk_drew ?_ | refine blk_alloc ?_ _)); (iterate 5 (refine blk_far ?_ NB147_160.out _; (with_reducible repeat (first | refine blk_drewN ?_ _ | refine blk_drew ?_ | refine blk_alloc ?_ _)))); exact BK147.out) hb); replace BK160 := Aside0.mk (blk_below (g := gb160) (o := .cells #[.int .i64 t154, .int .i64 t155, .int .i64 t156, .int .i64 t157, .int .i64 t158] 25 (0, 0)) q123_ hb); replace HB := Aside0.mk (below_step q35_ hb); (try clear hb); (try clear hb2); (try clear hk); (try clear hi); (try clear ho0)) | ((with_reducible refine gate_dst (N := 13) rfl ?_); refine box_event ?hg (N := 13) ?hd (cs := #[.int .i64 0, .int .i64 0, .int .i64 0, .int .i64 0, .int .i64 0, .slice none 0 0]) (t := 56) ?hr ?_; (case hd => rfl); (case hg => rfl); (case hr => first | (go_simp; done) | (go_simp; rfl)); intro gb177 hg w58 hbox hb; have BK177 := Aside0.mk (hbox); have GW177 := Aside0.mk ((by rw [hg]; exact (below_size q35_) : w.heap.size ≤ gb177)); have GE177 := Aside0.mk ((by rw [hg]; exact (below_size q35_) : w.heap.size ≤ gb177)); have NB146_177 := Aside0.mk (nl_ (g := gb146) hg q23_); have NB177_146 := Aside0.mk (ng_ (g := gb146) hg q23_); have NB147_177 := Aside0.mk (nl_ (g := gb147) hg q26_); have NB177_147 := Aside0.mk (ng_ (g := gb147) hg q26_); have NB160_177 := Aside0.mk (nl_ (g := gb160) hg q83_); have NB177_160 := Aside0.mk (ng_ (g := gb160) hg q83_); replace HO176 := Aside0.mk (Kd.R_below (by (with_reducible repeat (first | apply Kd.R_alloc | apply Kd.R_drewN | apply Kd.R_drew)); exact HO176.out) hb); replace BK146 := Aside0.mk (blk_below (g := gb146) q23_ hb); replace BK147 := Aside0.mk (blk_below (g := gb147) q26_ hb); replace BK160 := Aside0.mk (blk_below (g := gb160) q83_ hb); replace HB := Aside0.mk (below_step q35_ hb); clear hb hbox hg; have hnb59 := NB177_146.out; have hnc59 := NB146_177.out; have hnb60 := NB177_147.out; have hnc60 := NB147_177.out; have hnb61 := NB177_160.out; have hnc61 := NB160_177.out; obtain ⟨hcz62_0, hcz62_1, hcz62_2, hcz62_3, hcz62_4, hcz62_5, hfz62_0, hfz62_1, hfz62_2, hfz62_3, hfz62_4, hfz62_5⟩ := cells6_ BK177.out; obtain ⟨Ao63, co63, eo63⟩ := Kd.R_slice HO176.out; subst eo63; obtain ⟨hcz64_0, hcz64_1, hcz64_2, hcz64_3, hcz64_4, hcz64_5, hfz64_0, hfz64_1, hfz64_2, hfz64_3, hfz64_4, hfz64_5⟩ := cells6_ BK146.out))
   (try simp only [Act.put, List.setIfInBounds_toArray, List.set_cons_zero, List.set_cons_succ])
   go_cut [] (fun wc => ∃ (kq : Nat) (x178002_48 : Int), Aside0 (upload_Give.j1 kq a0 a2 a3 t154 t155 t156 t157 t158 t169 t170 x178002_48 t172 t173 t174 = some (r1, r2, r3, r4, r5, r6, r7, r8)) ∧ Aside0 (kq ≤ kj4) ∧ Aside0 (Kd.R k87 87 wc w.heap.size (fun _ => True) (.slice Ao63 t174.length co63) t174) ∧ Aside0 (wc.heap[gb146]? = some (.cells #[.int .i64 a1_0, .int .i64 a1_1, .int .i64 a1_2, .int .i64 a1_3, .int .i64 a1_4, (.slice A1_5 l1_5.length c1_5)] 56 (0, 0))) ∧ Aside0 (wc.heap[gb147]? = some (.cells #[.int .i64 0, .int .i64 0, .int .i64 0, .int .i64 0, .int .i64 0, (.slice none 0 0)] 56 (0, 0))) ∧ Aside0 (wc.heap[gb160]? = some (.cells #[.int .i64 t154, .int .i64 t155, .int .i64 t156, .int .i64 t157, .int .i64 t158] 25 (0, 0))) ∧ Aside0 (wc.heap[gb177]? = some (.cells #[.int .i64 t169, .int .i64 t170, .int .i64 x178002_48, .int .i64 t172, .int .i64 t173, (.slice Ao63 t174.length co63)] 56 (0, 0))) ∧ Aside0 (Below w.heap.size w wc))
   case first =>
    have H := HC49.out
    clear HC49
    by_cases c65 : a1_0 = 0
    rotate_left
    ·rw [if_neg c65] at H
     have c65b0 : (a1_0 == 0) = false := beq_eq_false_iff_ne.mpr c65
     have c65b1 : (a1_0 != 0) = true := bne_iff_ne.mpr c65
     (first | rw [c65b0] | (simp only [i64_w, i32_w]; rw [c65b0]) | skip)
     have H' := Aside0.mk H
     clear H
     go_wp2
     go_meet
     case rel => exact ⟨_, (t171), H', ⟨by have := HJ4.out; first | omega | exact Nat.le_refl _⟩, ⟨by (with_reducible repeat (first | apply Kd.R_alloc | apply Kd.R_drewN | apply Kd.R_drew)); exact Kd.R_mono (Kd.R_far (p := ⟨gb177, 5, none⟩) (Kd.R_far (p := ⟨gb177, 4, none⟩) (Kd.R_far (p := ⟨gb177, 3, none⟩) (Kd.R_far (p := ⟨gb177, 2, none⟩) (Kd.R_far (p := ⟨gb177, 1, none⟩) (Kd.R_far (p := ⟨gb177, 0, none⟩) (Kd.R_types HO176.out BK177.out (by decide)) (fun _ hk => hk.2) (.int .i64 t169)) (fun _ hk => hk.2) (.int .i64 t170)) (fun _ hk => hk.2) (.int .i64 t171)) (fun _ hk => hk.2) (.int .i64 t172)) (fun _ hk => hk.2) (.int .i64 t173)) (fun _ hk => hk.2) (.slice Ao63 t174.length co63)) (fun _ hk => trivial)⟩, ⟨by (with_reducible repeat (first | refine blk_drewN ?_ _ | refine blk_drew ?_ | refine blk_alloc ?_ _)); (iterate 6 (refine blk_far ?_ NB146_177.out _; (with_reducible repeat (first | refine blk_drewN ?_ _ | refine blk_drew ?_ | refine blk_alloc ?_ _)))); exact BK146.out⟩, ⟨by (with_reducible repeat (first | refine blk_drewN ?_ _ | refine blk_drew ?_ | refine blk_alloc ?_ _)); (iterate 6 (refine blk_far ?_ NB147_177.out _; (with_reducible repeat (first | refine blk_drewN ?_ _ | refine blk_drew ?_ | refine blk_alloc ?_ _)))); exact BK147.out⟩, ⟨by (with_reducible repeat (first | refine blk_drewN ?_ _ | refine blk_drew ?_ | refine blk_alloc ?_ _)); (iterate 6 (refine blk_far ?_ NB160_177.out _; (with_reducible repeat (first | refine blk_drewN ?_ _ | refine blk_drew ?_ | refine blk_alloc ?_ _)))); exact BK160.out⟩, ⟨by (with_reducible repeat (first | refine blk_drewN ?_ _ | refine blk_drew ?_ | refine blk_alloc ?_ _)); refine put6_ (cs := #[.int .i64 0, .int .i64 0, .int .i64 0, .int .i64 0, .int .i64 0, .slice none 0 0]) ?_ rfl; (with_reducible repeat (first | refine blk_drewN ?_ _ | refine blk_drew ?_ | refine blk_alloc ?_ _)); exact BK177.out⟩, ⟨by repeat (first | (with_reducible first | exact HB.out | apply below_alloc | apply pw_below_drewN | apply below_drew1 | refine below_set ?_ GE146.out | refine below_set ?_ GE147.out | refine below_set ?_ GE160.out | refine below_set ?_ GE177.out) | exact HB.out)⟩⟩
    rw [if_pos c65] at H
    have c65b0 : (a1_0 == 0) = true := beq_iff_eq.mpr c65
    have c65b1 : (a1_0 != 0) = false := bne_eq_false_iff_eq.mpr c65
    clear c65
    (first | rw [c65b0] | (simp only [i64_w, i32_w]; rw [c65b0]) | skip)
    have H' := Aside0.mk H
    clear H
    have hnb66 := NB177_146.out
    have hnc66 := NB146_177.out
    have hnb67 := NB177_147.out
    have hnc67 := NB147_177.out
    have hnb68 := NB177_160.out
    have hnc68 := NB160_177.out
    obtain ⟨hcz69_0, hcz69_1, hcz69_2, hcz69_3, hcz69_4, hcz69_5, hfz69_0, hfz69_1, hfz69_2, hfz69_3, hfz69_4, hfz69_5⟩ := cells6_ BK177.out
    go_wp2
    go_meet
    case rel => exact ⟨_, (0), H', ⟨by have := HJ4.out; first | omega | exact Nat.le_refl _⟩, ⟨by (with_reducible repeat (first | apply Kd.R_alloc | apply Kd.R_drewN | apply Kd.R_drew)); exact Kd.R_mono (Kd.R_far (p := ⟨gb177, 2, none⟩) (Kd.R_far (p := ⟨gb177, 5, none⟩) (Kd.R_far (p := ⟨gb177, 4, none⟩) (Kd.R_far (p := ⟨gb177, 3, none⟩) (Kd.R_far (p := ⟨gb177, 2, none⟩) (Kd.R_far (p := ⟨gb177, 1, none⟩) (Kd.R_far (p := ⟨gb177, 0, none⟩) (Kd.R_types HO176.out BK177.out (by decide)) (fun _ hk => hk.2) (.int .i64 t169)) (fun _ hk => hk.2) (.int .i64 t170)) (fun _ hk => hk.2) (.int .i64 t171)) (fun _ hk => hk.2) (.int .i64 t172)) (fun _ hk => hk.2) (.int .i64 t173)) (fun _ hk => hk.2) (.slice Ao63 t174.length co63)) (fun _ hk => hk.2) (.int .i64 0)) (fun _ hk => trivial)⟩, ⟨by (with_reducible repeat (first | refine blk_drewN ?_ _ | refine blk_drew ?_ | refine blk_alloc ?_ _)); (iterate 7 (refine blk_far ?_ NB146_177.out _; (with_reducible repeat (first | refine blk_drewN ?_ _ | refine blk_drew ?_ | refine blk_alloc ?_ _)))); exact BK146.out⟩, ⟨by (with_reducible repeat (first | refine blk_drewN ?_ _ | refine blk_drew ?_ | refine blk_alloc ?_ _)); (iterate 7 (refine blk_far ?_ NB147_177.out _; (with_reducible repeat (first | refine blk_drewN ?_ _ | refine blk_drew ?_ | refine blk_alloc ?_ _)))); exact BK147.out⟩, ⟨by (with_reducible repeat (first | refine blk_drewN ?_ _ | refine blk_drew ?_ | refine blk_alloc ?_ _)); (iterate 7 (refine blk_far ?_ NB160_177.out _; (with_reducible repeat (first | refine blk_drewN ?_ _ | refine blk_drew ?_ | refine blk_alloc ?_ _)))); exact BK160.out⟩, ⟨by (with_reducible repeat (first | refine blk_drewN ?_ _ | refine blk_drew ?_ | refine blk_alloc ?_ _)); refine blk_put (cs := #[.int .i64 t169, .int .i64 t170, .int .i64 t171, .int .i64 t172, .int .i64 t173, .slice Ao63 t174.length co63]) ?_ 2 _ rfl; (with_reducible repeat (first | refine blk_drewN ?_ _ | refine blk_drew ?_ | refine blk_alloc ?_ _)); refine put6_ (cs := #[.int .i64 0, .int .i64 0, .int .i64 0, .int .i64 0, .int .i64 0, .slice none 0 0]) ?_ rfl; (with_reducible repeat (first | refine blk_drewN ?_ _ | refine blk_drew ?_ | refine blk_alloc ?_ _)); exact BK177.out⟩, ⟨by repeat (first | (with_reducible first | exact HB.out | apply below_alloc | apply pw_below_drewN | apply below_drew1 | refine below_set ?_ GE146.out | refine below_set ?_ GE147.out | refine below_set ?_ GE160.out | refine below_set ?_ GE177.out) | exact HB.out)⟩⟩
   case rest =>
    clear HC49
    try clear c1
    try clear c2
    try clear p2
    try clear c3
    try clear c4
    try clear c5
    try clear c6
    try clear c9
    try clear c11
    try clear c12
    try clear c12b0
    try clear c12b1
    try clear c14
    try clear c16
    try clear c20
    try clear c24
    try clear c24b0
    try clear c24b1
    try clear c26
    try clear c28
    try clear c32
    try clear c36
    try clear c40
    try clear c43
    try clear c44
    try clear c46
    try clear c47
    try clear c47b0
    try clear c47b1
    try clear c51
    try clear c52
    try clear c53
    try clear c55
    try clear c59
    try clear c60
    try clear c61
    try clear c65
    try clear c65b0
    try clear c65b1
    try clear c66
    try clear c67
    try clear c68
    try clear hcz17_0
    try clear hcz17_1
    try clear hcz17_2
    try clear hcz17_3
    try clear hcz17_4
    try clear hcz17_5
    try clear hcz19_0
    try clear hcz19_1
    try clear hcz19_2
    try clear hcz19_3
    try clear hcz19_4
    try clear hcz19_5
    try clear hcz21_0
    try clear hcz21_1
    try clear hcz21_2
    try clear hcz21_3
    try clear hcz21_4
    try clear hcz21_5
    try clear hcz23_0
    try clear hcz23_1
    try clear hcz23_2
    try clear hcz23_3
    try clear hcz23_4
    try clear hcz23_5
    try clear hcz29_0
    try clear hcz29_1
    try clear hcz29_2
    try clear hcz29_3
    try clear hcz29_4
    try clear hcz29_5
    try clear hcz31_0
    try clear hcz31_1
    try clear hcz31_2
    try clear hcz31_3
    try clear hcz31_4
    try clear hcz31_5
    try clear hcz33_0
    try clear hcz33_1
    try clear hcz33_2
    try clear hcz33_3
    try clear hcz33_4
    try clear hcz33_5
    try clear hcz35_0
    try clear hcz35_1
    try clear hcz35_2
    try clear hcz35_3
    try clear hcz35_4
    try clear hcz35_5
    try clear hcz37_0
    try clear hcz37_1
    try clear hcz37_2
    try clear hcz37_3
    try clear hcz37_4
    try clear hcz37_5
    try clear hcz39_0
    try clear hcz39_1
    try clear hcz39_2
    try clear hcz39_3
    try clear hcz39_4
    try clear hcz39_5
    try clear hcz41_0
    try clear hcz41_1
    try clear hcz41_2
    try clear hcz41_3
    try clear hcz41_4
    try clear hcz41_5
    try clear hcz45_0
    try clear hcz45_1
    try clear hcz45_2
    try clear hcz45_3
    try clear hcz45_4
    try clear hcz45_5
    try clear hcz54_0
    try clear hcz54_1
    try clear hcz54_2
    try clear hcz54_3
    try clear hcz54_4
    try clear hcz56_0
    try clear hcz56_1
    try clear hcz56_2
    try clear hcz56_3
    try clear hcz56_4
    try clear hcz56_5
    try clear hcz62_0
    try clear hcz62_1
    try clear hcz62_2
    try clear hcz62_3
    try clear hcz62_4
    try clear hcz62_5
    try clear hcz64_0
    try clear hcz64_1
    try clear hcz64_2
    try clear hcz64_3
    try clear hcz64_4
    try clear hcz64_5
    try clear hcz69_0
    try clear hcz69_1
    try clear hcz69_2
    try clear hcz69_3
    try clear hcz69_4
    try clear hcz69_5
    try clear hfz17_0
    try clear hfz17_1
    try clear hfz17_2
    try clear hfz17_3
    try clear hfz17_4
    try clear hfz17_5
    try clear hfz19_0
    try clear hfz19_1
    try clear hfz19_2
    try clear hfz19_3
    try clear hfz19_4
    try clear hfz19_5
    try clear hfz21_0
    try clear hfz21_1
    try clear hfz21_2
    try clear hfz21_3
    try clear hfz21_4
    try clear hfz21_5
    try clear hfz23_0
    try clear hfz23_1
    try clear hfz23_2
    try clear hfz23_3
    try clear hfz23_4
    try clear hfz23_5
    try clear hfz29_0
    try clear hfz29_1
    try clear hfz29_2
    try clear hfz29_3
    try clear hfz29_4
    try clear hfz29_5
    try clear hfz31_0
    try clear hfz31_1
    try clear hfz31_2
    try clear hfz31_3
    try clear hfz31_4
    try clear hfz31_5
    try clear hfz33_0
    try clear hfz33_1
    try clear hfz33_2
    try clear hfz33_3
    try clear hfz33_4
    try clear hfz33_5
    try clear hfz35_0
    try clear hfz35_1
    try clear hfz35_2
    try clear hfz35_3
    try clear hfz35_4
    try clear hfz35_5
    try clear hfz37_0
    try clear hfz37_1
    try clear hfz37_2
    try clear hfz37_3
    try clear hfz37_4
    try clear hfz37_5
    try clear hfz39_0
    try clear hfz39_1
    try clear hfz39_2
    try clear hfz39_3
    try clear hfz39_4
    try clear hfz39_5
    try clear hfz41_0
    try clear hfz41_1
    try clear hfz41_2
    try clear hfz41_3
    try clear hfz41_4
    try clear hfz41_5
    try clear hfz45_0
    try clear hfz45_1
    try clear hfz45_2
    try clear hfz45_3
    try clear hfz45_4
    try clear hfz45_5
    try clear hfz54_0
    try clear hfz54_1
    try clear hfz54_2
    try clear hfz54_3
    try clear hfz54_4
    try clear hfz56_0
    try clear hfz56_1
    try clear hfz56_2
    try clear hfz56_3
    try clear hfz56_4
    try clear hfz56_5
    try clear hfz62_0
    try clear hfz62_1
    try clear hfz62_2
    try clear hfz62_3
    try clear hfz62_4
    try clear hfz62_5
    try clear hfz64_0
    try clear hfz64_1
    try clear hfz64_2
    try clear hfz64_3
    try clear hfz64_4
    try clear hfz64_5
    try clear hfz69_0
    try clear hfz69_1
    try clear hfz69_2
    try clear hfz69_3
    try clear hfz69_4
    try clear hfz69_5
    try clear p2
    obtain ⟨kq, x178002_48, HA, HJ48, HO_178005, BK146, BK147, BK160, BK177, HB⟩ := hcut
    cases kq with
    | zero => exact absurd HA.out (by simp [upload_Give.j1])
    | succ kj48 =>
     have H := HA.out
     clear HA
     simp only [upload_Give.j1] at H
     by_cases c70 : a2 = x178002_48
     rotate_left
     ·rw [if_neg c70] at H
      have c70b0 : (a2 == x178002_48) = false := beq_eq_false_iff_ne.mpr c70
      have c70b1 : (a2 != x178002_48) = true := bne_iff_ne.mpr c70
      replace H := Option.bind_eq_some_iff.mp H
      obtain ⟨⟨t178, t179, t180, t181, t182, t183⟩, A1050, H⟩ := H
      (try dsimp only at H)
      have A105 := Aside0.mk A1050
      clear A1050
      simp only [Option.some.injEq, Prod.mk.injEq] at H
      obtain ⟨rfl, rfl, rfl, rfl, rfl, rfl, rfl, rfl⟩ := H
      have hnb106 := NB177_146.out
      have hnc106 := NB146_177.out
      have hnb107 := NB177_147.out
      have hnc107 := NB147_177.out
      have hnb108 := NB177_160.out
      have hnc108 := NB160_177.out
      obtain ⟨hcz109_0, hcz109_1, hcz109_2, hcz109_3, hcz109_4, hcz109_5, hfz109_0, hfz109_1, hfz109_2, hfz109_3, hfz109_4, hfz109_5⟩ := cells6_ BK177.out
      go_wp2_with (first | ((with_reducible refine gate_callee (f := 50) rfl ?_); refine goesL_ (some 63) rfl rfl Try.func50 (by kernel_rfl) rfl #[.int .i64 4] rfl q1_ ?_; (with_reducible refine (device_Failed.calls 4 t178 t179 t180 t181 t182 t183 _ A105.out).mono ?_); rintro e w110 ⟨v184, rfl, ho0, hb⟩; refine ⟨_, rfl, ?_⟩; have HO185 := Aside0.mk (Kd.R_lower (Kd.R_new' ho0 (Kd.R_lt q103_)) (below_size q41_)); replace HO_178005 := Aside0.mk (Kd.R_elder' q103_ (Kd.R_base ho0) hb); replace BK146 := Aside0.mk (blk_below (g := gb146) q23_ hb); replace BK147 := Aside0.mk (blk_below (g := gb147) q26_ hb); replace BK160 := Aside0.mk (blk_below (g := gb160) q83_ hb); replace BK177 := Aside0.mk (blk_below (g := gb177) q114_ hb); replace HB := Aside0.mk (below_step q41_ hb); (try clear hb); (try clear hb2); (try clear hk); (try clear hi); (try clear ho0); have hnb111 := NB147_146.out; have hnc111 := NB146_147.out; have hnb112 := NB147_160.out; have hnc112 := NB160_147.out; obtain ⟨hcz113_0, hcz113_1, hcz113_2, hcz113_3, hcz113_4, hcz113_5, hfz113_0, hfz113_1, hfz113_2, hfz113_3, hfz113_4, hfz113_5⟩ := cells6_ BK147.out; obtain ⟨Ao114, co114, eo114⟩ := Kd.R_slice HO185.out; subst eo114))
      refine bodyPost_ret (results_ctt rfl _ _ gb147 56 #[.int .i64 t178, .int .i64 t179, .int .i64 t180, .int .i64 t181, .int .i64 t182, .slice Ao114 t183.length co114] (0, 0) _ rfl q70_ Try.underlying56 rfl (by kernel_rfl)) rfl ?_
      exact ⟨_, by first | rfl | (simp [errW_none, errW_some] <;> rfl) | (simp [*, errW_none, errW_some] <;> rfl), by (with_reducible repeat (first | apply Kd.R_alloc | apply Kd.R_drewN | apply Kd.R_drew)); exact Kd.R_mono (Kd.R_far (p := ⟨gb147, 5, none⟩) (Kd.R_far (p := ⟨gb147, 4, none⟩) (Kd.R_far (p := ⟨gb147, 3, none⟩) (Kd.R_far (p := ⟨gb147, 2, none⟩) (Kd.R_far (p := ⟨gb147, 1, none⟩) (Kd.R_far (p := ⟨gb147, 0, none⟩) (Kd.R_types HO185.out BK147.out (by decide)) (fun _ hk => hk.2) (.int .i64 t178)) (fun _ hk => hk.2) (.int .i64 t179)) (fun _ hk => hk.2) (.int .i64 t180)) (fun _ hk => hk.2) (.int .i64 t181)) (fun _ hk => hk.2) (.int .i64 t182)) (fun _ hk => hk.2) (.slice Ao114 t183.length co114)) (fun _ hk => trivial), by repeat (first | (with_reducible first | exact HB.out | apply below_alloc | apply pw_below_drewN | apply below_drew1 | refine below_set ?_ GE146.out | refine below_set ?_ GE147.out | refine below_set ?_ GE160.out | refine below_set ?_ GE177.out) | exact HB.out)⟩
     rw [if_pos c70] at H
     have c70b0 : (a2 == x178002_48) = true := beq_iff_eq.mpr c70
     have c70b1 : (a2 != x178002_48) = false := bne_eq_false_iff_eq.mpr c70
     clear c70
     replace H := Option.bind_eq_some_iff.mp H
     obtain ⟨⟨t186, t187⟩, A710, H⟩ := H
     (try dsimp only at H)
     have A71 := Aside0.mk A710
     clear A710
     obtain ⟨ji72, hji72⟩ : ∃ j_ : Int, (mn (wrap64 (32 * x178002_48)) (t186.size : Int)) = j_ := ⟨_, rfl⟩
     replace H : (if 0 ≤ (ji72) then (if (ji72) ≤ (t186.size : Int) then (if 0 ≤ (mn a3 ((t186.extract ((ji72) : Int).toNat t186.size).size : Int)) then (if (mn a3 ((t186.extract ((ji72) : Int).toNat t186.size).size : Int)) ≤ ((t186.extract ((ji72) : Int).toNat t186.size).size : Int) then (if (((t186.extract ((ji72) : Int).toNat t186.size).extract 0 ((mn a3 ((t186.extract ((ji72) : Int).toNat t186.size).size : Int)) : Int).toNat).size : Int) < 32 then ((device_New.f).bind fun bt188 => (some (bt188.1, bt188.2.1, bt188.2.2.1, bt188.2.2.2.1, bt188.2.2.2.2.1, bt188.2.2.2.2.2, (t186.extract ((ji72) : Int).toNat t186.size).extract 0 ((mn a3 ((t186.extract ((ji72) : Int).toNat t186.size).size : Int)) : Int).toNat, 0))) else (some (6, t170, mn (wrap64 (x178002_48 + 1)) 16, t172, t173, t174, (t186.extract ((ji72) : Int).toNat t186.size).extract 0 ((mn a3 ((t186.extract ((ji72) : Int).toNat t186.size).size : Int)) : Int).toNat, 0))) else (none)) else (none)) else (none)) else (none)) = some (r1, r2, r3, r4, r5, r6, r7, r8) := by first | (rw [hji72] at H; exact H) | (simp only [hji72] at H ⊢; exact H)
     (try rw [hji72] at A71)
     have hji72_ : (if (t186.size : Int) < (wrap64 (32 * x178002_48)) then (t186.size : Int) else (wrap64 (32 * x178002_48))) = ji72 := hji72
     by_cases c73 : 0 ≤ (ji72)
     rotate_left
     ·rw [if_neg c73] at H
      exact absurd H (by simp)
     rw [if_pos c73] at H
     have c73b0 := eq_true c73
     have c73b1 : decide (0 ≤ (ji72)) = true := decide_eq_true c73
     clear c73
     by_cases c74 : (ji72) ≤ (t186.size : Int)
     rotate_left
     ·rw [if_neg c74] at H
      exact absurd H (by simp)
     rw [if_pos c74] at H
     have c74b0 := eq_true c74
     have c74b1 : decide ((ji72) ≤ (t186.size : Int)) = true := decide_eq_true c74
     clear c74
     obtain ⟨ji75, hji75⟩ : ∃ j_ : Int, (mn a3 ((t186.extract ((ji72) : Int).toNat t186.size).size : Int)) = j_ := ⟨_, rfl⟩
     replace H : (if 0 ≤ (ji75) then (if (ji75) ≤ ((t186.extract ((ji72) : Int).toNat t186.size).size : Int) then (if (((t186.extract ((ji72) : Int).toNat t186.size).extract 0 ((ji75) : Int).toNat).size : Int) < 32 then ((device_New.f).bind fun bt188 => (some (bt188.1, bt188.2.1, bt188.2.2.1, bt188.2.2.2.1, bt188.2.2.2.2.1, bt188.2.2.2.2.2, (t186.extract ((ji72) : Int).toNat t186.size).extract 0 ((ji75) : Int).toNat, 0))) else (some (6, t170, mn (wrap64 (x178002_48 + 1)) 16, t172, t173, t174, (t186.extract ((ji72) : Int).toNat t186.size).extract 0 ((ji75) : Int).toNat, 0))) else (none)) else (none)) = some (r1, r2, r3, r4, r5, r6, r7, r8) := by first | (rw [hji75] at H; exact H) | (simp only [hji75] at H ⊢; exact H)
     (try rw [hji75] at A71)
     have hji75_ : (if ((t186.extract ((ji72) : Int).toNat t186.size).size : Int) < a3 then ((t186.extract ((ji72) : Int).toNat t186.size).size : Int) else a3) = ji75 := hji75
     have hzz_ : (t186.extract ji72.toNat t186.size).size = t186.size - ji72.toNat := by rw [ByteArray.size_extract]; omega
     have hji75z_ : (if ((t186.size - ji72.toNat : Nat) : Int) < a3 then ((t186.size - ji72.toNat : Nat) : Int) else a3) = ji75 := by have h_ := hji75_; rw [hzz_] at h_; exact h_
     by_cases c76 : 0 ≤ (ji75)
     rotate_left
     ·rw [if_neg c76] at H
      exact absurd H (by simp)
     rw [if_pos c76] at H
     have c76b0 := eq_true c76
     have c76b1 : decide (0 ≤ (ji75)) = true := decide_eq_true c76
     clear c76
     by_cases c77 : (ji75) ≤ ((t186.extract ((ji72) : Int).toNat t186.size).size : Int)
     rotate_left
     ·rw [if_neg c77] at H
      exact absurd H (by simp)
     rw [if_pos c77] at H
     have c77b0 := eq_true c77
     have c77b1 : decide ((ji75) ≤ ((t186.extract ((ji72) : Int).toNat t186.size).size : Int)) = true := decide_eq_true c77
     have c77z : ji75 ≤ ((t186.size - ji72.toNat : Nat) : Int) := by have h_ := c77; rw [hzz_] at h_; exact h_
     have c77b2 := eq_true c77z
     have c77b3 : decide (ji75 ≤ ((t186.size - ji72.toNat : Nat) : Int)) = true := decide_eq_true c77z
     clear c77z
     clear c77
     by_cases c78 : (((t186.extract ((ji72) : Int).toNat t186.size).extract 0 ((ji75) : Int).toNat).size : Int) < 32
     rotate_left
     ·rw [if_neg c78] at H
      have c78b0 : decide ((((t186.extract ((ji72) : Int).toNat t186.size).extract 0 ((ji75) : Int).toNat).size : Int) < 32) = false := decide_eq_false c78
      have c78b1 : decide (((t186.extract ((ji72) : Int).toNat t186.size).extract 0 ((ji75) : Int).toNat).size < 32) = false := decide_eq_false (by omega)
      have h1_ := of_eq_true c76b0; have h2_ := of_eq_true c77b2
      have h3_ : ¬  ji75 < 32 := by have h_ := c78; rw [ByteArray.size_extract, hzz_] at h_; omega
      have c78z2 : ¬  (ji75 < 32) := by omega
      have c78e2 := eq_false c78z2
      have c78b2 : decide (ji75 < 32) = false := decide_eq_false c78z2
      clear c78z2
      have c78z3 : ¬  (((ji75.toNat : Nat) : Int) < 32) := by omega
      have c78e3 := eq_false c78z3
      have c78b3 : decide (((ji75.toNat : Nat) : Int) < 32) = false := decide_eq_false c78z3
      clear c78z3
      have c78z4 : ¬  (((min ji75.toNat (t186.size - ji72.toNat) : Nat) : Int) < 32) := by omega
      have c78e4 := eq_false c78z4
      have c78b4 : decide (((min ji75.toNat (t186.size - ji72.toNat) : Nat) : Int) < 32) = false := decide_eq_false c78z4
      clear c78z4
      have c78z5 : ¬  (min ((ji75.toNat : Nat) : Int) ((t186.size - ji72.toNat : Nat) : Int) < 32) := by omega
      have c78e5 := eq_false c78z5
      have c78b5 : decide (min ((ji75.toNat : Nat) : Int) ((t186.size - ji72.toNat : Nat) : Int) < 32) = false := decide_eq_false c78z5
      clear c78z5
      have c78z6 : ¬  (max ji75 0 < 32) := by omega
      have c78e6 := eq_false c78z6
      have c78b6 : decide (max ji75 0 < 32) = false := decide_eq_false c78z6
      clear c78z6
      clear h1_ h2_ h3_ hzz_
      clear c78
      obtain ⟨ji93, hji93⟩ : ∃ j_ : Int, (mn (wrap64 (x178002_48 + 1)) 16) = j_ := ⟨_, rfl⟩
      replace H : (some (6, t170, ji93, t172, t173, t174, (t186.extract ((ji72) : Int).toNat t186.size).extract 0 ((ji75) : Int).toNat, 0)) = some (r1, r2, r3, r4, r5, r6, r7, r8) := by first | (rw [hji93] at H; exact H) | (simp only [hji93] at H ⊢; exact H)
      (try rw [hji93] at A71)
      have hji93_ : (if 16 < (wrap64 (x178002_48 + 1)) then 16 else (wrap64 (x178002_48 + 1))) = ji93 := hji93
      simp only [Option.some.injEq, Prod.mk.injEq] at H
      obtain ⟨rfl, rfl, rfl, rfl, rfl, rfl, rfl, rfl⟩ := H
      have hnb94 := NB177_146.out
      have hnc94 := NB146_177.out
      have hnb95 := NB177_147.out
      have hnc95 := NB147_177.out
      have hnb96 := NB177_160.out
      have hnc96 := NB160_177.out
      obtain ⟨hcz97_0, hcz97_1, hcz97_2, hcz97_3, hcz97_4, hcz97_5, hfz97_0, hfz97_1, hfz97_2, hfz97_3, hfz97_4, hfz97_5⟩ := cells6_ BK177.out
      have hnb98 := NB160_146.out
      have hnc98 := NB146_160.out
      have hnb99 := NB160_147.out
      have hnc99 := NB147_160.out
      obtain ⟨hcz100_0, hcz100_1, hcz100_2, hcz100_3, hcz100_4, hfz100_0, hfz100_1, hfz100_2, hfz100_3, hfz100_4⟩ := cells5_ BK160.out
      go_wp2_with (first | ((with_reducible refine gate_callee (f := 52) rfl ?_); refine goesL_ (some 68) rfl rfl Try.func52 (by kernel_rfl) rfl #[.string a0, .agg #[.int .i64 t155, .int .i64 t156, .int .i64 t157, .int .i64 t158]] rfl q1_ ?_; (with_reducible refine (PSc.image_Of.calls a0 t155 t156 t157 t158 t186 t187 _ A71.out).mono ?_); rintro e w101 ⟨rfl, hb⟩; refine ⟨_, rfl, ?_⟩; replace HO_178005 := Aside0.mk (Kd.R_below q103_ hb); replace BK146 := Aside0.mk (blk_below (g := gb146) q23_ hb); replace BK147 := Aside0.mk (blk_below (g := gb147) q26_ hb); replace BK160 := Aside0.mk (blk_below (g := gb160) q83_ hb); replace BK177 := Aside0.mk (blk_below (g := gb177) q114_ hb); replace HB := Aside0.mk (below_step q41_ hb); (try clear hb); (try clear hb2); (try clear hk); (try clear hi); obtain ⟨hcz102_0, hcz102_1, hcz102_2, hcz102_3, hcz102_4, hcz102_5, hfz102_0, hfz102_1, hfz102_2, hfz102_3, hfz102_4, hfz102_5⟩ := cells6_ BK177.out; have hnb103 := NB147_146.out; have hnc103 := NB146_147.out; obtain ⟨hcz104_0, hcz104_1, hcz104_2, hcz104_3, hcz104_4, hcz104_5, hfz104_0, hfz104_1, hfz104_2, hfz104_3, hfz104_4, hfz104_5⟩ := cells6_ BK147.out))
      refine bodyPost_ret (results_ctt rfl _ _ gb147 56 #[.int .i64 6, .int .i64 t170, .int .i64 ji93, .int .i64 t172, .int .i64 t173, .slice Ao63 t174.length co63] (0, 0) _ rfl (by (with_reducible repeat (first | refine blk_drewN ?_ _ | refine blk_drew ?_ | refine blk_alloc ?_ _)); refine put6_ (cs := #[.int .i64 0, .int .i64 0, .int .i64 0, .int .i64 0, .int .i64 0, .slice none 0 0]) ?_ rfl; (with_reducible repeat (first | refine blk_drewN ?_ _ | refine blk_drew ?_ | refine blk_alloc ?_ _)); (iterate 2 (refine blk_far ?_ NB147_177.out _; (with_reducible repeat (first | refine blk_drewN ?_ _ | refine blk_drew ?_ | refine blk_alloc ?_ _)))); exact BK147.out) Try.underlying56 rfl (by kernel_rfl)) rfl ?_
      exact ⟨_, by first | rfl | (simp [errW_none, errW_some] <;> rfl) | (simp only [← hji72, ← hji75, ← hji93]; first | rfl | (simp [errW_none, errW_some] <;> rfl)) | (simp [*, errW_none, errW_some] <;> rfl), by (with_reducible repeat (first | apply Kd.R_alloc | apply Kd.R_drewN | apply Kd.R_drew)); exact Kd.R_mono (Kd.R_far (p := ⟨gb147, 5, none⟩) (Kd.R_far (p := ⟨gb147, 4, none⟩) (Kd.R_far (p := ⟨gb147, 3, none⟩) (Kd.R_far (p := ⟨gb147, 2, none⟩) (Kd.R_far (p := ⟨gb147, 1, none⟩) (Kd.R_far (p := ⟨gb147, 0, none⟩) (Kd.R_far (p := ⟨gb177, 2, none⟩) (Kd.R_far (p := ⟨gb177, 0, none⟩) (Kd.R_types (Kd.R_types HO_178005.out BK177.out (by decide)) BK147.out (by decide)) (fun _ hk => hk.1.2) (.int .i64 6)) (fun _ hk => hk.1.2) (.int .i64 ji93)) (fun _ hk => hk.2) (.int .i64 6)) (fun _ hk => hk.2) (.int .i64 t170)) (fun _ hk => hk.2) (.int .i64 ji93)) (fun _ hk => hk.2) (.int .i64 t172)) (fun _ hk => hk.2) (.int .i64 t173)) (fun _ hk => hk.2) (.slice Ao63 t174.length co63)) (fun _ hk => trivial), by repeat (first | (with_reducible first | exact HB.out | apply below_alloc | apply pw_below_drewN | apply below_drew1 | refine below_set ?_ GE146.out | refine below_set ?_ GE147.out | refine below_set ?_ GE160.out | refine below_set ?_ GE177.out) | exact HB.out)⟩
     rw [if_pos c78] at H
     have c78b0 : decide ((((t186.extract ((ji72) : Int).toNat t186.size).extract 0 ((ji75) : Int).toNat).size : Int) < 32) = true := decide_eq_true c78
     have c78b1 : decide (((t186.extract ((ji72) : Int).toNat t186.size).extract 0 ((ji75) : Int).toNat).size < 32) = true := decide_eq_true (by omega)
     have h1_ := of_eq_true c76b0; have h2_ := of_eq_true c77b2
     have h3_ :  ji75 < 32 := by have h_ := c78; rw [ByteArray.size_extract, hzz_] at h_; omega
     have c78z2 :  (ji75 < 32) := by omega
     have c78e2 := eq_true c78z2
     have c78b2 : decide (ji75 < 32) = true := decide_eq_true c78z2
     clear c78z2
     have c78z3 :  (((ji75.toNat : Nat) : Int) < 32) := by omega
     have c78e3 := eq_true c78z3
     have c78b3 : decide (((ji75.toNat : Nat) : Int) < 32) = true := decide_eq_true c78z3
     clear c78z3
     have c78z4 :  (((min ji75.toNat (t186.size - ji72.toNat) : Nat) : Int) < 32) := by omega
     have c78e4 := eq_true c78z4
     have c78b4 : decide (((min ji75.toNat (t186.size - ji72.toNat) : Nat) : Int) < 32) = true := decide_eq_true c78z4
     clear c78z4
     have c78z5 :  (min ((ji75.toNat : Nat) : Int) ((t186.size - ji72.toNat : Nat) : Int) < 32) := by omega
     have c78e5 := eq_true c78z5
     have c78b5 : decide (min ((ji75.toNat : Nat) : Int) ((t186.size - ji72.toNat : Nat) : Int) < 32) = true := decide_eq_true c78z5
     clear c78z5
     have c78z6 :  (max ji75 0 < 32) := by omega
     have c78e6 := eq_true c78z6
     have c78b6 : decide (max ji75 0 < 32) = true := decide_eq_true c78z6
     clear c78z6
     clear h1_ h2_ h3_ hzz_
     clear c78
     replace H := Option.bind_eq_some_iff.mp H
     obtain ⟨⟨t188, t189, t190, t191, t192, t193⟩, A790, H⟩ := H
     (try dsimp only at H)
     have A79 := Aside0.mk A790
     clear A790
     simp only [Option.some.injEq, Prod.mk.injEq] at H
     obtain ⟨rfl, rfl, rfl, rfl, rfl, rfl, rfl, rfl⟩ := H
     have hnb80 := NB177_146.out
     have hnc80 := NB146_177.out
     have hnb81 := NB177_147.out
     have hnc81 := NB147_177.out
     have hnb82 := NB177_160.out
     have hnc82 := NB160_177.out
     obtain ⟨hcz83_0, hcz83_1, hcz83_2, hcz83_3, hcz83_4, hcz83_5, hfz83_0, hfz83_1, hfz83_2, hfz83_3, hfz83_4, hfz83_5⟩ := cells6_ BK177.out
     have hnb84 := NB160_146.out
     have hnc84 := NB146_160.out
     have hnb85 := NB160_147.out
     have hnc85 := NB147_160.out
     obtain ⟨hcz86_0, hcz86_1, hcz86_2, hcz86_3, hcz86_4, hfz86_0, hfz86_1, hfz86_2, hfz86_3, hfz86_4⟩ := cells5_ BK160.out
     go_wp2_with (first | ((with_reducible refine gate_callee (f := 52) rfl ?_); refine goesL_ (some 68) rfl rfl Try.func52 (by kernel_rfl) rfl #[.string a0, .agg #[.int .i64 t155, .int .i64 t156, .int .i64 t157, .int .i64 t158]] rfl q1_ ?_; (with_reducible refine (PSc.image_Of.calls a0 t155 t156 t157 t158 t186 t187 _ A71.out).mono ?_); rintro e w87 ⟨rfl, hb⟩; refine ⟨_, rfl, ?_⟩; replace HO_178005 := Aside0.mk (Kd.R_below q103_ hb); replace BK146 := Aside0.mk (blk_below (g := gb146) q23_ hb); replace BK147 := Aside0.mk (blk_below (g := gb147) q26_ hb); replace BK160 := Aside0.mk (blk_below (g := gb160) q83_ hb); replace BK177 := Aside0.mk (blk_below (g := gb177) q114_ hb); replace HB := Aside0.mk (below_step q41_ hb); (try clear hb); (try clear hb2); (try clear hk); (try clear hi); obtain ⟨hcz88_0, hcz88_1, hcz88_2, hcz88_3, hcz88_4, hcz88_5, hfz88_0, hfz88_1, hfz88_2, hfz88_3, hfz88_4, hfz88_5⟩ := cells6_ BK177.out) | ((with_reducible refine gate_callee (f := 53) rfl ?_); refine goesL_ (some 88) rfl rfl Try.func53 (by kernel_rfl) rfl #[] rfl q1_ ?_; (with_reducible refine (device_New.calls  t188 t189 t190 t191 t192 t193 _ A79.out).mono ?_); rintro e w89 ⟨v194, rfl, ho0, hb⟩; refine ⟨_, rfl, ?_⟩; have HO195 := Aside0.mk (Kd.R_lower (Kd.R_new' ho0 (Kd.R_lt q103_)) (below_size q41_)); replace HO_178005 := Aside0.mk (Kd.R_elder' q103_ (Kd.R_base ho0) hb); replace BK146 := Aside0.mk (blk_below (g := gb146) q23_ hb); replace BK147 := Aside0.mk (blk_below (g := gb147) q26_ hb); replace BK160 := Aside0.mk (blk_below (g := gb160) q83_ hb); replace BK177 := Aside0.mk (blk_below (g := gb177) q114_ hb); replace HB := Aside0.mk (below_step q41_ hb); (try clear hb); (try clear hb2); (try clear hk); (try clear hi); (try clear ho0); have hnb90 := NB147_146.out; have hnc90 := NB146_147.out; obtain ⟨hcz91_0, hcz91_1, hcz91_2, hcz91_3, hcz91_4, hcz91_5, hfz91_0, hfz91_1, hfz91_2, hfz91_3, hfz91_4, hfz91_5⟩ := cells6_ BK147.out; obtain ⟨Ao92, co92, eo92⟩ := Kd.R_slice HO195.out; subst eo92))
     refine bodyPost_ret (results_ctt rfl _ _ gb147 56 #[.int .i64 t188, .int .i64 t189, .int .i64 t190, .int .i64 t191, .int .i64 t192, .slice Ao92 t193.length co92] (0, 0) _ rfl q70_ Try.underlying56 rfl (by kernel_rfl)) rfl ?_
     exact ⟨_, by first | rfl | (simp [errW_none, errW_some] <;> rfl) | (simp only [← hji72, ← hji75]; first | rfl | (simp [errW_none, errW_some] <;> rfl)) | (simp [*, errW_none, errW_some] <;> rfl), by (with_reducible repeat (first | apply Kd.R_alloc | apply Kd.R_drewN | apply Kd.R_drew)); exact Kd.R_mono (Kd.R_far (p := ⟨gb147, 5, none⟩) (Kd.R_far (p := ⟨gb147, 4, none⟩) (Kd.R_far (p := ⟨gb147, 3, none⟩) (Kd.R_far (p := ⟨gb147, 2, none⟩) (Kd.R_far (p := ⟨gb147, 1, none⟩) (Kd.R_far (p := ⟨gb147, 0, none⟩) (Kd.R_types HO195.out BK147.out (by decide)) (fun _ hk => hk.2) (.int .i64 t188)) (fun _ hk => hk.2) (.int .i64 t189)) (fun _ hk => hk.2) (.int .i64 t190)) (fun _ hk => hk.2) (.int .i64 t191)) (fun _ hk => hk.2) (.int .i64 t192)) (fun _ hk => hk.2) (.slice Ao92 t193.length co92)) (fun _ hk => trivial), by repeat (first | (with_reducible first | exact HB.out | apply below_alloc | apply pw_below_drewN | apply below_drew1 | refine below_set ?_ GE146.out | refine below_set ?_ GE147.out | refine below_set ?_ GE160.out | refine below_set ?_ GE177.out) | exact HB.out)⟩
def skiffref1_FlashMay.f (a0 : ByteArray) : Option (Bool) := some ((a0.size : Int) == 768)
set_option maxHeartbeats 8000000 in
set_option maxRecDepth 100000 in
theorem skiffref1_FlashMay.calls (a0 : ByteArray) (r : Bool) (w : World) (h : skiffref1_FlashMay.f a0 = some r) :
  Calls Try.prog 34 #[.string a0] w fun e w' => e = .returned (.bool r) ∧ Drawn0 w w' := by
 have H : (some ((a0.size : Int) == 768)) = some r := h
 clear h
 obtain rfl := Option.some.inj H
 go_enter Try.func34, Try.ntmps34
 go_wp2
 go_ret
 exact ⟨by first | rfl | (simp; done) | (simp [*]; done), by repeat (first | exact Drawn0.refl _ | apply Drawn0.step)⟩
def skiffref1_Of.l0 : Nat → ByteArray → Int → Int → Option (Int)
 | 0, _, _, _ => none
 | k + 1, x0, x3, x4 => if x4 ≥ 0 then (if 0 ≤ x4 then (if x4 < (x0.size : Int) then (skiffref1_Of.l0 k x0 (Go.bits .or .i64 (wrap64 (x3 * 256)) (wrap64 (bt x0 x4))) (wrap64 (x4 - 1))) else (none)) else (none)) else (some x3)
def skiffref1_Of.f (k : Nat) (a0 : ByteArray) : Option (Int) := skiffref1_Of.l0 k a0 0 (wrap64 ((a0.size : Int) - 1))
theorem skiffref1_Of.mono_l : ∀ k, (∀ y0 y1 y2, LeO (skiffref1_Of.l0 k y0 y1 y2) (skiffref1_Of.l0 (k + 1) y0 y1 y2))
 | 0 => fun _ _ _ r h => by simp [skiffref1_Of.l0] at h
 | k + 1 => by
  have ih0 := skiffref1_Of.mono_l k
  ·intro y0 y1 y2
   unfold skiffref1_Of.l0
   repeat' first
   | (with_reducible exact ih0 _ _ _)
   | (with_reducible exact LeO.refl _)
   | (with_reducible exact LeO.none _)
   | (with_reducible refine LeO.ite ?_ ?_)
   | (with_reducible refine LeO.bind ?_ (fun _ => ?_))
   | exact ih0 _ _ _
   | exact LeO.none _
   | refine LeO.ite ?_ ?_
   | refine LeO.bind ?_ (fun _ => ?_)
theorem skiffref1_Of.mono : ∀ a0 k, LeO (skiffref1_Of.f k a0) (skiffref1_Of.f (k + 1) a0) := by
 intro a0 k
 have ih0 := skiffref1_Of.mono_l k
 unfold skiffref1_Of.f
 repeat' first
   | (with_reducible exact ih0 _ _ _)
   | (with_reducible exact LeO.refl _)
   | (with_reducible exact LeO.none _)
   | (with_reducible refine LeO.ite ?_ ?_)
   | (with_reducible refine LeO.bind ?_ (fun _ => ?_))
   | exact ih0 _ _ _
   | exact LeO.none _
   | refine LeO.ite ?_ ?_
   | refine LeO.bind ?_ (fun _ => ?_)
set_option maxHeartbeats 8000000 in
set_option maxRecDepth 100000 in
theorem skiffref1_Of.calls (k : Nat) (a0 : ByteArray) (r : Int) (w : World) (h : skiffref1_Of.f k a0 = some r) :
  Calls Try.prog 66 #[.string a0] w fun e w' => e = .returned (.int .i64 r) ∧ Drawn0 w w' := by
 have H : (skiffref1_Of.l0 k a0 0 (wrap64 ((a0.size : Int) - 1))) = some r := h
 clear h
 have H' := Aside0.mk H
 clear H
 go_enter Try.func66, Try.ntmps66
 go_wp2
 go_loopg [3, 4] k (fun kq v3 v4 w' => ∃ (x3_1 : Int) (x4_1 : Int), v3 = .int .i64 x3_1 ∧ v4 = .int .i64 x4_1 ∧ Aside0 (skiffref1_Of.l0 kq a0 x3_1 x4_1 = some r) ∧ Aside0 (kq ≤ k) ∧ Drawn0 w w')
 case atStart => exact ⟨(0), (wrap64 ((a0.size : Int) - 1)), q17_, q17_, H', ⟨Nat.le_refl _⟩, by repeat (first | exact Drawn0.refl _ | apply Drawn0.step)⟩
 case round =>
  clear H'
  obtain ⟨x3_1, x4_1, rfl, rfl, HA, HK1, ⟨m1, rfl⟩⟩ := hrel
  cases gk with
  | zero => exact absurd HA.out (by simp [skiffref1_Of.l0])
  | succ k1 =>
   have H := HA.out
   clear HA
   simp only [skiffref1_Of.l0] at H
   by_cases c2 : x4_1 ≥ 0
   rotate_left
   ·rw [if_neg c2] at H
    have c2b0 : decide (0 ≤ x4_1) = false := decide_eq_false c2
    clear c2
    obtain rfl := Option.some.inj H
    go_wp2
    go_ret
    exact ⟨by first | rfl | (simp; done) | (simp [*]; done), by repeat (first | exact Drawn0.refl _ | apply Drawn0.step)⟩
   rw [if_pos c2] at H
   have c2b0 : decide (0 ≤ x4_1) = true := decide_eq_true c2
   clear c2
   by_cases c3 : 0 ≤ x4_1
   rotate_left
   ·rw [if_neg c3] at H
    exact absurd H (by simp)
   rw [if_pos c3] at H
   have c3b0 : decide (0 ≤ x4_1) = true := decide_eq_true c3
   clear c3
   by_cases c4 : x4_1 < (a0.size : Int)
   rotate_left
   ·rw [if_neg c4] at H
    exact absurd H (by simp)
   rw [if_pos c4] at H
   have c4b0 : decide (x4_1 < (a0.size : Int)) = true := decide_eq_true c4
   clear c4
   have H' := Aside0.mk H
   clear H
   have p5 : 0 ≤ (x4_1 : Int) := of_decide_eq_true q16_
   have q5 : x4_1 < (a0.size : Int) := of_decide_eq_true q16_
   have hx5 := bt_at a0 x4_1
   replace p5 := eq_true p5
   replace q5 := eq_true q5
   go_wp2
   go_roundg k1
   case measure => have := HK1.out; omega
   case rel => exact ⟨(Go.bits .or .i64 (wrap64 (x3_1 * 256)) (wrap64 (bt a0 x4_1))), (wrap64 (x4_1 - 1)), q17_, q17_, H', ⟨by have := HK1.out; omega⟩, by repeat (first | exact Drawn0.refl _ | apply Drawn0.step)⟩
def skiffref1_GetEntry.f (k : Nat) (a0 : ByteArray) : Option (Int × Int × Int × Int × Int) := if (a0.size : Int) = 24 then (if 0 ≤ 4 then (if 4 ≤ (a0.size : Int) then ((skiffref1_Of.f k (a0.extract 0 4)).bind fun t197 => (if 4 < (a0.size : Int) then (if 6 ≤ 8 then (if 8 ≤ (a0.size : Int) then ((skiffref1_Of.f k (a0.extract 6 8)).bind fun t198 => (if 8 ≤ 12 then (if 12 ≤ (a0.size : Int) then ((skiffref1_Of.f k (a0.extract 8 12)).bind fun t199 => ((Hand.skiffref1_PutEntry.f k t197 (wrap64 (bt a0 4)) t198 t199).bind fun bt201 => (if bt201.2 = 0 then (if bt201.1.toList = a0.toList then (some (t197, wrap64 (bt a0 4), t198, t199, 0)) else (some (0, 0, 0, 0, 400))) else (some (0, 0, 0, 0, 400))))) else (none)) else (none))) else (none)) else (none)) else (none))) else (none)) else (none)) else (some (0, 0, 0, 0, 400))
theorem skiffref1_GetEntry.mono : ∀ a0 k, LeO (skiffref1_GetEntry.f k a0) (skiffref1_GetEntry.f (k + 1) a0) := by
 intro a0 k
 unfold skiffref1_GetEntry.f
 repeat' first
   | (with_reducible exact Hand.skiffref1_PutEntry.mono _ _ _ _ _)
   | (with_reducible exact skiffref1_Of.mono _ _)
   | (with_reducible exact LeO.refl _)
   | (with_reducible exact LeO.none _)
   | (with_reducible refine LeO.ite ?_ ?_)
   | (with_reducible refine LeO.bind ?_ (fun _ => ?_))
   | exact Hand.skiffref1_PutEntry.mono _ _ _ _ _
   | exact skiffref1_Of.mono _ _
   | exact LeO.none _
   | refine LeO.ite ?_ ?_
   | refine LeO.bind ?_ (fun _ => ?_)
def skiffref1_GetEntry.T3 : Bool × List (List Nat × List Nat) := (true, [([], []), ([0], [0]), ([1], [1]), ([], []), ([3], [3]), ([4], [4]), ([], []), ([6], [6]), ([7, 2], [7]), ([], []), ([9], [9]), ([10, 8], [10]), ([2, 5, 8, 11], [2, 5, 8, 11]), ([], []), ([13, 12, 11, 0, 1, 2, 3, 4, 5, 6, 7, 8, 9, 10, 11, 12, 13], [12, 13])])
def skiffref1_GetEntry.B3 : List Nat := [0, 1, 3, 0, 8, 24, 0, 64, 199, 0, 512, 1991, 4095, 0, 16383]
theorem skiffref1_GetEntry.tab3 : rtab .any (opsOf Try.f35 3) = skiffref1_GetEntry.T3 := by kernel_rfl
theorem skiffref1_GetEntry.bits3 : waitsOk skiffref1_GetEntry.T3.2 skiffref1_GetEntry.B3 = true := by kernel_rfl
set_option maxHeartbeats 8000000 in
set_option maxRecDepth 100000 in
theorem skiffref1_GetEntry.calls (k : Nat) (a0 : ByteArray) (r1 : Int) (r2 : Int) (r3 : Int) (r4 : Int) (r5 : Int) (w : World) (h : skiffref1_GetEntry.f k a0 = some (r1, r2, r3, r4, r5)) :
  Calls Try.prog 35 #[.string a0] w fun e w' => e = .returned (.tuple #[.agg #[.int .i64 r1, .int .i64 r2, .int .i64 r3, .int .i64 r4], .int .i64 r5]) ∧ Below w.heap.size w w' := by
 have hu23 := Try.underlying23
 have HB := Aside0.mk (Below.refl w.heap.size w)
 have H : (if (a0.size : Int) = 24 then (if 0 ≤ 4 then (if 4 ≤ (a0.size : Int) then ((skiffref1_Of.f k (a0.extract 0 4)).bind fun t197 => (if 4 < (a0.size : Int) then (if 6 ≤ 8 then (if 8 ≤ (a0.size : Int) then ((skiffref1_Of.f k (a0.extract 6 8)).bind fun t198 => (if 8 ≤ 12 then (if 12 ≤ (a0.size : Int) then ((skiffref1_Of.f k (a0.extract 8 12)).bind fun t199 => ((Hand.skiffref1_PutEntry.f k t197 (wrap64 (bt a0 4)) t198 t199).bind fun bt201 => (if bt201.2 = 0 then (if bt201.1.toList = a0.toList then (some (t197, wrap64 (bt a0 4), t198, t199, 0)) else (some (0, 0, 0, 0, 400))) else (some (0, 0, 0, 0, 400))))) else (none)) else (none))) else (none)) else (none)) else (none))) else (none)) else (none)) else (some (0, 0, 0, 0, 400))) = some (r1, r2, r3, r4, r5) := h
 clear h
 by_cases c2 : (a0.size : Int) = 24
 rotate_left
 ·rw [if_neg c2] at H
  have c2b0 : ((a0.size : Int) == 24) = false := beq_eq_false_iff_ne.mpr c2
  have c2b1 : ((a0.size : Int) != 24) = true := bne_iff_ne.mpr c2
  simp only [Option.some.injEq, Prod.mk.injEq] at H
  obtain ⟨rfl, rfl, rfl, rfl, rfl⟩ := H
  go_enter Try.func35, Try.ntmps35
  go_wp2_with (first | ((with_reducible refine gate_dst (N := 2) rfl ?_); refine box_event ?hg (N := 2) ?hd (cs := #[.int .i64 0, .int .i64 0, .int .i64 0, .int .i64 0]) (t := 23) ?hr ?_; (case hd => rfl); (case hg => rfl); (case hr => first | (go_simp; done) | (go_simp; rfl)); intro gb196 hg w54 hbox hb; have BK196 := Aside0.mk (hbox); have GW196 := Aside0.mk ((by rw [hg]; exact (below_size q2_) : w.heap.size ≤ gb196)); have GE196 := Aside0.mk ((by rw [hg]; exact (below_size q2_) : w.heap.size ≤ gb196)); replace HB := Aside0.mk (below_step q2_ hb); clear hb hbox hg; obtain ⟨hcz55_0, hcz55_1, hcz55_2, hcz55_3, hfz55_0, hfz55_1, hfz55_2, hfz55_3⟩ := cells4_ BK196.out))
  refine bodyPost_ret (results_ct rfl _ _ gb196 23 #[.int .i64 0, .int .i64 0, .int .i64 0, .int .i64 0] (0, 0) _ rfl q75_ Try.underlying23 rfl (by kernel_rfl)) rfl ?_
  exact ⟨by first | rfl | (simp [errW_none, errW_some] <;> rfl) | (simp [*, errW_none, errW_some] <;> rfl), by repeat (first | (with_reducible first | exact HB.out | apply below_alloc | apply pw_below_drewN | apply below_drew1 | refine below_set ?_ GE196.out) | exact HB.out)⟩
 rw [if_pos c2] at H
 have c2b0 : ((a0.size : Int) == 24) = true := beq_iff_eq.mpr c2
 have c2b1 : ((a0.size : Int) != 24) = false := bne_eq_false_iff_eq.mpr c2
 clear c2
 by_cases c3 : 0 ≤ 4
 rotate_left
 ·rw [if_neg c3] at H
  exact absurd H (by simp)
 rw [if_pos c3] at H
 have c3b0 := eq_true c3
 have c3b1 : decide (0 ≤ 4) = true := decide_eq_true c3
 clear c3
 by_cases c4 : 4 ≤ (a0.size : Int)
 rotate_left
 ·rw [if_neg c4] at H
  exact absurd H (by simp)
 rw [if_pos c4] at H
 have c4b0 := eq_true c4
 have c4b1 : decide (4 ≤ (a0.size : Int)) = true := decide_eq_true c4
 clear c4
 replace H := Option.bind_eq_some_iff.mp H
 obtain ⟨t197, A50, H⟩ := H
 (try dsimp only at H)
 have A5 := Aside0.mk A50
 clear A50
 by_cases c6 : 4 < (a0.size : Int)
 rotate_left
 ·rw [if_neg c6] at H
  exact absurd H (by simp)
 rw [if_pos c6] at H
 have c6b0 : decide (4 < (a0.size : Int)) = true := decide_eq_true c6
 have c6b1 : decide (4 < a0.size) = true := decide_eq_true (by omega)
 clear c6
 by_cases c8 : 6 ≤ 8
 rotate_left
 ·rw [if_neg c8] at H
  exact absurd H (by simp)
 rw [if_pos c8] at H
 have c8b0 := eq_true c8
 have c8b1 : decide (6 ≤ 8) = true := decide_eq_true c8
 clear c8
 by_cases c9 : 8 ≤ (a0.size : Int)
 rotate_left
 ·rw [if_neg c9] at H
  exact absurd H (by simp)
 rw [if_pos c9] at H
 have c9b0 := eq_true c9
 have c9b1 : decide (8 ≤ (a0.size : Int)) = true := decide_eq_true c9
 clear c9
 replace H := Option.bind_eq_some_iff.mp H
 obtain ⟨t198, A100, H⟩ := H
 (try dsimp only at H)
 have A10 := Aside0.mk A100
 clear A100
 by_cases c11 : 8 ≤ 12
 rotate_left
 ·rw [if_neg c11] at H
  exact absurd H (by simp)
 rw [if_pos c11] at H
 have c11b0 := eq_true c11
 have c11b1 : decide (8 ≤ 12) = true := decide_eq_true c11
 clear c11
 by_cases c12 : 12 ≤ (a0.size : Int)
 rotate_left
 ·rw [if_neg c12] at H
  exact absurd H (by simp)
 rw [if_pos c12] at H
 have c12b0 := eq_true c12
 have c12b1 : decide (12 ≤ (a0.size : Int)) = true := decide_eq_true c12
 clear c12
 replace H := Option.bind_eq_some_iff.mp H
 obtain ⟨t199, A130, H⟩ := H
 (try dsimp only at H)
 have A13 := Aside0.mk A130
 clear A130
 replace H := Option.bind_eq_some_iff.mp H
 obtain ⟨⟨t201, t202⟩, A140, H⟩ := H
 (try dsimp only at H)
 have A14 := Aside0.mk A140
 clear A140
 have HH_ := Aside0.mk H
 clear H
 go_enter Try.func35, Try.ntmps35
 try go_wp2_with (first | ((with_reducible refine gate_dst (N := 2) rfl ?_); refine box_event ?hg (N := 2) ?hd (cs := #[.int .i64 0, .int .i64 0, .int .i64 0, .int .i64 0]) (t := 23) ?hr ?_; (case hd => rfl); (case hg => rfl); (case hr => first | (go_simp; done) | (go_simp; rfl)); intro gb196 hg w17 hbox hb; have BK196 := Aside0.mk (hbox); have GW196 := Aside0.mk ((by rw [hg]; exact (below_size q2_) : w.heap.size ≤ gb196)); have GE196 := Aside0.mk ((by rw [hg]; exact (below_size q2_) : w.heap.size ≤ gb196)); replace HB := Aside0.mk (below_step q2_ hb); clear hb hbox hg))
 replace BK196 := Aside0.mk (blk_drew BK196.out)
 replace HB := Aside0.mk (below_drew1 HB.out)
 have p7 : 0 ≤ (4 : Int) := (by omega)
 have q7 : 4 < a0.size := (by have : (4 : Int) < (a0.size : Int) := of_decide_eq_true q16_; omega)
 have hx7 : ∀ h : 4 < a0.size, ((a0[4]'h).toNat : Int) = bt a0 4 := bt_at a0 4
 clear p7
 have qi7 : (4 < (a0.size : Int)) = True := eq_true (of_decide_eq_true q16_)
 replace q7 := eq_true q7
 refine start_ (n := 15) (S := fun w' => True) (ds := []) #[false, false, false, false, false, false, false, false, false, false, false, false, false, false, false] (by kernel_rfl) rfl rfl trivial (fun hHeld => ?_); refine with_tabW skiffref1_GetEntry.tab3 skiffref1_GetEntry.bits3 (fun HT_ HW_ => ?_)
 generalize w17.drew = w18 at BK196 HB hHeld ⊢
 refine pure_ (i := 0) (N := some 11) (v := ?_) (a' := ?_) #[true, false, false, false, false, false, false, false, false, false, false, false, false, false, false] rfl rfl (any_of HT_.out (by kernel_rfl)) (fun _ _ _ h => h) (Or.inl ⟨by rfl, ?_⟩) ?_ ?_
 rotate_left
 ·intro w'
  go_simp
  with_reducible rfl
 rotate_left
 ·simp only [Act.put, List.setIfInBounds_toArray, List.set_cons_zero, List.set_cons_succ, i64_w, i32_w]
  rfl
 refine pure_ (i := 1) (N := some 12) (v := ?_) (a' := ?_) #[true, true, false, false, false, false, false, false, false, false, false, false, false, false, false] rfl rfl (any_of HT_.out (by kernel_rfl)) (fun _ _ _ h => h) (Or.inl ⟨by rfl, ?_⟩) ?_ ?_
 rotate_left
 ·intro w'
  go_simp
  with_reducible rfl
 rotate_left
 ·simp only [Act.put, List.setIfInBounds_toArray, List.set_cons_zero, List.set_cons_succ, i64_w, i32_w]
  rfl
 refine pure_ (i := 3) (N := some 14) (v := ?_) (a' := ?_) #[true, true, false, true, false, false, false, false, false, false, false, false, false, false, false] rfl rfl (any_of HT_.out (by kernel_rfl)) (fun _ _ _ h => h) (Or.inl ⟨by rfl, ?_⟩) ?_ ?_
 rotate_left
 ·intro w'
  go_simp
  with_reducible rfl
 rotate_left
 ·simp only [Act.put, List.setIfInBounds_toArray, List.set_cons_zero, List.set_cons_succ, i64_w, i32_w]
  rfl
 refine pure_ (i := 6) (N := some 17) (v := ?_) (a' := ?_) #[true, true, false, true, false, false, true, false, false, false, false, false, false, false, false] rfl rfl (any_of HT_.out (by kernel_rfl)) (fun _ _ _ h => h) (Or.inl ⟨by rfl, ?_⟩) ?_ ?_
 rotate_left
 ·intro w'
  go_simp
  with_reducible rfl
 rotate_left
 ·simp only [Act.put, List.setIfInBounds_toArray, List.set_cons_zero, List.set_cons_succ, i64_w, i32_w]
  rfl
 refine pure_ (i := 7) (N := some 18) (v := ?_) (a' := ?_) #[true, true, false, true, false, false, true, true, false, false, false, false, false, false, false] rfl rfl (any_of HT_.out (by kernel_rfl)) (fun _ _ _ h => h) (Or.inl ⟨by rfl, ?_⟩) ?_ ?_
 rotate_left
 ·intro w'
  go_simp
  with_reducible rfl
 rotate_left
 ·simp only [Act.put, List.setIfInBounds_toArray, List.set_cons_zero, List.set_cons_succ, i64_w, i32_w]
  rfl
 refine pure_ (i := 9) (N := some 20) (v := ?_) (a' := ?_) #[true, true, false, true, false, false, true, true, false, true, false, false, false, false, false] rfl rfl (any_of HT_.out (by kernel_rfl)) (fun _ _ _ h => h) (Or.inl ⟨by rfl, ?_⟩) ?_ ?_
 rotate_left
 ·intro w'
  go_simp
  with_reducible rfl
 rotate_left
 ·simp only [Act.put, List.setIfInBounds_toArray, List.set_cons_zero, List.set_cons_succ, i64_w, i32_w]
  rfl
 refine pure_ (i := 10) (N := some 21) (v := ?_) (a' := ?_) #[true, true, false, true, false, false, true, true, false, true, true, false, false, false, false] rfl rfl (any_of HT_.out (by kernel_rfl)) (fun _ _ _ h => h) (Or.inl ⟨by rfl, ?_⟩) ?_ ?_
 rotate_left
 ·intro w'
  go_simp
  with_reducible rfl
 rotate_left
 ·simp only [Act.put, List.setIfInBounds_toArray, List.set_cons_zero, List.set_cons_succ, i64_w, i32_w]
  rfl
 refine take_ (i := 4) (N := some 15) (v := ?_) (a' := ?_) #[true, true, false, true, true, false, true, true, false, true, true, false, false, false, false] rfl rfl (take_ofW HT_.out HW_.out (by kernel_rfl)) (fun _ _ _ h => h) (Or.inl ⟨by rfl, ?_⟩) hHeld ?_ ?_
 rotate_left
 ·intro w' _
  go_simp
  with_reducible rfl
 rotate_left
 ·simp only [Act.put, List.setIfInBounds_toArray, List.set_cons_zero, List.set_cons_succ, i64_w, i32_w]
  rfl
 refine pure_ (i := 5) (N := some 16) (v := ?_) (a' := ?_) #[true, true, false, true, true, true, true, true, false, true, true, false, false, false, false] rfl rfl (any_of HT_.out (by kernel_rfl)) (fun _ _ _ h => h) (Or.inl ⟨by rfl, ?_⟩) ?_ ?_
 rotate_left
 ·intro w'
  go_simp
  with_reducible rfl
 rotate_left
 ·simp only [Act.put, List.setIfInBounds_toArray, List.set_cons_zero, List.set_cons_succ, i64_w, i32_w]
  rfl
 refine join_ (σ := Nat) 1 #[true, true, true, true, true, true, true, true, true, true, true, true, true, true, false] (fun s_ => [(13, .int .i64 t197), (19, .int .i64 t198), (22, .int .i64 t199), (4, .pointer (some ⟨s_, 0, none⟩)), (23, .agg #[.int .i64 t197, .int .i64 (wrap64 (bt a0 4)), .int .i64 t198, .int .i64 t199])]) (fun s_ w' => (w'.heap[gb196]? = some (.cells #[.int .i64 0, .int .i64 0, .int .i64 0, .int .i64 0] 23 (0, 0))) ∧ (w'.heap[s_]? = some (.cells #[.int .i64 0, .int .i64 0, .int .i64 0, .int .i64 0] 23 (0, 0))) ∧ (w.heap.size ≤ s_) ∧ (w.heap.size ≤ s_) ∧ (gb196 ≠ s_) ∧ (s_ ≠ gb196) ∧ (Below w.heap.size w w')) ?_ ?_
 rotate_left
 ·intro hCont
  refine two_ (i := 2) (j := 13) (Ni := some 13) (Nj := some 4) #[true, true, true, true, true, true, true, true, false, true, true, false, false, false, false] #[true, true, false, true, true, true, true, true, false, true, true, false, false, true, false] rfl rfl rfl rfl (two_of HT_.out (by kernel_rfl)) (by decide) (by decide) (fun K hK => ?_) (fun K hK => ?_)
  ·skip
   refine goes_ Try.func66 (by kernel_rfl) rfl #[.string (a0.extract 0 4)] (by rfl) rfl rfl q1_ ?_
   with_reducible refine (skiffref1_Of.calls k (a0.extract 0 4) t197 _ A5.out).mono ?_
   rintro e w' ⟨rfl, ⟨nd, rfl⟩⟩
   refine ⟨_, rfl, ?_⟩
   refine hK.out _ _ trivial (fun hHeld => ?_)
   clear hK K
   refine norm_ (a' := ?_) ?_ ?_
   rotate_left
   ·show Act.put _ (some 13) _ = _
    simp only [Act.put, List.setIfInBounds_toArray, List.set_cons_zero, List.set_cons_succ, i64_w, i32_w]
    rfl
   refine two_ (i := 8) (j := 13) (Ni := some 19) (Nj := some 4) #[true, true, true, true, true, true, true, true, true, true, true, false, false, false, false] #[true, true, true, true, true, true, true, true, false, true, true, false, false, true, false] rfl rfl rfl rfl (two_of HT_.out (by kernel_rfl)) (by decide) (by decide) (fun K hK => ?_) (fun K hK => ?_)
   ·skip
    refine goes_ Try.func66 (by kernel_rfl) rfl #[.string (a0.extract 6 8)] (by rfl) rfl rfl q1_ ?_
    with_reducible refine (skiffref1_Of.calls k (a0.extract 6 8) t198 _ A10.out).mono ?_
    rintro e w' ⟨rfl, ⟨nd, rfl⟩⟩
    refine ⟨_, rfl, ?_⟩
    refine hK.out _ _ trivial (fun hHeld => ?_)
    clear hK K
    refine norm_ (a' := ?_) ?_ ?_
    rotate_left
    ·show Act.put _ (some 19) _ = _
     simp only [Act.put, List.setIfInBounds_toArray, List.set_cons_zero, List.set_cons_succ, i64_w, i32_w]
     rfl
    refine two_ (i := 11) (j := 13) (Ni := some 22) (Nj := some 4) #[true, true, true, true, true, true, true, true, true, true, true, true, false, false, false] #[true, true, true, true, true, true, true, true, true, true, true, false, false, true, false] rfl rfl rfl rfl (two_of HT_.out (by kernel_rfl)) (by decide) (by decide) (fun K hK => ?_) (fun K hK => ?_)
    ·skip
     refine goes_ Try.func66 (by kernel_rfl) rfl #[.string (a0.extract 8 12)] (by rfl) rfl rfl q1_ ?_
     with_reducible refine (skiffref1_Of.calls k (a0.extract 8 12) t199 _ A13.out).mono ?_
     rintro e w' ⟨rfl, ⟨nd, rfl⟩⟩
     refine ⟨_, rfl, ?_⟩
     refine hK.out _ _ trivial (fun hHeld => ?_)
     clear hK K
     refine norm_ (a' := ?_) ?_ ?_
     rotate_left
     ·show Act.put _ (some 22) _ = _
      simp only [Act.put, List.setIfInBounds_toArray, List.set_cons_zero, List.set_cons_succ, i64_w, i32_w]
      rfl
     refine pure_ (i := 12) (N := some 23) (v := ?_) (a' := ?_) #[true, true, true, true, true, true, true, true, true, true, true, true, true, false, false] rfl rfl (any_of HT_.out (by kernel_rfl)) (fun _ _ _ h => h) (Or.inl ⟨by rfl, ?_⟩) ?_ ?_
     rotate_left
     ·intro w'
      go_simp
      with_reducible rfl
     rotate_left
     ·simp only [Act.put, List.setIfInBounds_toArray, List.set_cons_zero, List.set_cons_succ, i64_w, i32_w]
      rfl
     refine one_ (i := 13) (N := some 4) #[true, true, true, true, true, true, true, true, true, true, true, true, true, true, false] rfl rfl (one_of HT_.out (by kernel_rfl)) (by decide) (fun K hK => ?_)
     refine box_step ?hg (N := 4) ?hd (cs := #[.int .i64 0, .int .i64 0, .int .i64 0, .int .i64 0]) (t := 23) ?hr ?_; (case hd => rfl); (case hg => rfl); (case hr => first | (go_simp; done) | (go_simp; rfl))
     intro gb200 hg w19 hbox hb
     have BK200 := Aside0.mk (hbox)
     have GW200 := Aside0.mk ((by rw [hg]; exact (below_size q33_) : w.heap.size ≤ gb200))
     have GE200 := Aside0.mk ((by rw [hg]; exact (below_size q33_) : w.heap.size ≤ gb200))
     have NB196_200 := Aside0.mk (nl_ (g := gb196) hg q34_)
     have NB200_196 := Aside0.mk (ng_ (g := gb196) hg q34_)
     replace BK196 := Aside0.mk (blk_below (g := gb196) q34_ hb)
     replace HB := Aside0.mk (below_step q33_ hb)
     clear hb hbox hg
     refine hK.out _ _ trivial (fun hHeld => ?_)
     clear hK K
     refine norm_ (a' := ?_) ?_ ?_
     rotate_left
     ·show Act.put _ (some 4) _ = _
      simp only [Act.put, List.setIfInBounds_toArray, List.set_cons_zero, List.set_cons_succ, i64_w, i32_w]
      rfl
     exact norm_ q85_ (hCont (gb200) _ ⟨q34_, q113_, GW200.out, GE200.out, NB196_200.out, NB200_196.out, q65_⟩)
    ·skip
     refine box_step ?hg (N := 4) ?hd (cs := #[.int .i64 0, .int .i64 0, .int .i64 0, .int .i64 0]) (t := 23) ?hr ?_; (case hd => rfl); (case hg => rfl); (case hr => first | (go_simp; done) | (go_simp; rfl))
     intro gb200 hg w19 hbox hb
     have BK200 := Aside0.mk (hbox)
     have GW200 := Aside0.mk ((by rw [hg]; exact (below_size q33_) : w.heap.size ≤ gb200))
     have GE200 := Aside0.mk ((by rw [hg]; exact (below_size q33_) : w.heap.size ≤ gb200))
     have NB196_200 := Aside0.mk (nl_ (g := gb196) hg q34_)
     have NB200_196 := Aside0.mk (ng_ (g := gb196) hg q34_)
     replace BK196 := Aside0.mk (blk_below (g := gb196) q34_ hb)
     replace HB := Aside0.mk (below_step q33_ hb)
     clear hb hbox hg
     refine hK.out _ _ trivial (fun hHeld => ?_)
     clear hK K
     refine norm_ (a' := ?_) ?_ ?_
     rotate_left
     ·show Act.put _ (some 4) _ = _
      simp only [Act.put, List.setIfInBounds_toArray, List.set_cons_zero, List.set_cons_succ, i64_w, i32_w]
      rfl
     refine one_ (i := 11) (N := some 22) #[true, true, true, true, true, true, true, true, true, true, true, true, false, true, false] rfl rfl (one_of HT_.out (by kernel_rfl)) (by decide) (fun K hK => ?_)
     refine goes_ Try.func66 (by kernel_rfl) rfl #[.string (a0.extract 8 12)] (by rfl) rfl rfl q1_ ?_
     with_reducible refine (skiffref1_Of.calls k (a0.extract 8 12) t199 _ A13.out).mono ?_
     rintro e w' ⟨rfl, ⟨nd, rfl⟩⟩
     refine ⟨_, rfl, ?_⟩
     refine hK.out _ _ trivial (fun hHeld => ?_)
     clear hK K
     refine norm_ (a' := ?_) ?_ ?_
     rotate_left
     ·show Act.put _ (some 22) _ = _
      simp only [Act.put, List.setIfInBounds_toArray, List.set_cons_zero, List.set_cons_succ, i64_w, i32_w]
      rfl
     refine pure_ (i := 12) (N := some 23) (v := ?_) (a' := ?_) #[true, true, true, true, true, true, true, true, true, true, true, true, true, true, false] rfl rfl (any_of HT_.out (by kernel_rfl)) (fun _ _ _ h => h) (Or.inl ⟨by rfl, ?_⟩) ?_ ?_
     rotate_left
     ·intro w'
      go_simp
      with_reducible rfl
     rotate_left
     ·simp only [Act.put, List.setIfInBounds_toArray, List.set_cons_zero, List.set_cons_succ, i64_w, i32_w]
      rfl
     exact norm_ q85_ (hCont (gb200) _ ⟨q34_, q113_, GW200.out, GE200.out, NB196_200.out, NB200_196.out, q65_⟩)
   ·skip
    refine box_step ?hg (N := 4) ?hd (cs := #[.int .i64 0, .int .i64 0, .int .i64 0, .int .i64 0]) (t := 23) ?hr ?_; (case hd => rfl); (case hg => rfl); (case hr => first | (go_simp; done) | (go_simp; rfl))
    intro gb200 hg w19 hbox hb
    have BK200 := Aside0.mk (hbox)
    have GW200 := Aside0.mk ((by rw [hg]; exact (below_size q33_) : w.heap.size ≤ gb200))
    have GE200 := Aside0.mk ((by rw [hg]; exact (below_size q33_) : w.heap.size ≤ gb200))
    have NB196_200 := Aside0.mk (nl_ (g := gb196) hg q34_)
    have NB200_196 := Aside0.mk (ng_ (g := gb196) hg q34_)
    replace BK196 := Aside0.mk (blk_below (g := gb196) q34_ hb)
    replace HB := Aside0.mk (below_step q33_ hb)
    clear hb hbox hg
    refine hK.out _ _ trivial (fun hHeld => ?_)
    clear hK K
    refine norm_ (a' := ?_) ?_ ?_
    rotate_left
    ·show Act.put _ (some 4) _ = _
     simp only [Act.put, List.setIfInBounds_toArray, List.set_cons_zero, List.set_cons_succ, i64_w, i32_w]
     rfl
    refine one_ (i := 8) (N := some 19) #[true, true, true, true, true, true, true, true, true, true, true, false, false, true, false] rfl rfl (one_of HT_.out (by kernel_rfl)) (by decide) (fun K hK => ?_)
    refine goes_ Try.func66 (by kernel_rfl) rfl #[.string (a0.extract 6 8)] (by rfl) rfl rfl q1_ ?_
    with_reducible refine (skiffref1_Of.calls k (a0.extract 6 8) t198 _ A10.out).mono ?_
    rintro e w' ⟨rfl, ⟨nd, rfl⟩⟩
    refine ⟨_, rfl, ?_⟩
    refine hK.out _ _ trivial (fun hHeld => ?_)
    clear hK K
    refine norm_ (a' := ?_) ?_ ?_
    rotate_left
    ·show Act.put _ (some 19) _ = _
     simp only [Act.put, List.setIfInBounds_toArray, List.set_cons_zero, List.set_cons_succ, i64_w, i32_w]
     rfl
    refine one_ (i := 11) (N := some 22) #[true, true, true, true, true, true, true, true, true, true, true, true, false, true, false] rfl rfl (one_of HT_.out (by kernel_rfl)) (by decide) (fun K hK => ?_)
    refine goes_ Try.func66 (by kernel_rfl) rfl #[.string (a0.extract 8 12)] (by rfl) rfl rfl q1_ ?_
    with_reducible refine (skiffref1_Of.calls k (a0.extract 8 12) t199 _ A13.out).mono ?_
    rintro e w' ⟨rfl, ⟨nd, rfl⟩⟩
    refine ⟨_, rfl, ?_⟩
    refine hK.out _ _ trivial (fun hHeld => ?_)
    clear hK K
    refine norm_ (a' := ?_) ?_ ?_
    rotate_left
    ·show Act.put _ (some 22) _ = _
     simp only [Act.put, List.setIfInBounds_toArray, List.set_cons_zero, List.set_cons_succ, i64_w, i32_w]
     rfl
    refine pure_ (i := 12) (N := some 23) (v := ?_) (a' := ?_) #[true, true, true, true, true, true, true, true, true, true, true, true, true, true, false] rfl rfl (any_of HT_.out (by kernel_rfl)) (fun _ _ _ h => h) (Or.inl ⟨by rfl, ?_⟩) ?_ ?_
    rotate_left
    ·intro w'
     go_simp
     with_reducible rfl
    rotate_left
    ·simp only [Act.put, List.setIfInBounds_toArray, List.set_cons_zero, List.set_cons_succ, i64_w, i32_w]
     rfl
    exact norm_ q85_ (hCont (gb200) _ ⟨q34_, q113_, GW200.out, GE200.out, NB196_200.out, NB200_196.out, q65_⟩)
  ·skip
   refine box_step ?hg (N := 4) ?hd (cs := #[.int .i64 0, .int .i64 0, .int .i64 0, .int .i64 0]) (t := 23) ?hr ?_; (case hd => rfl); (case hg => rfl); (case hr => first | (go_simp; done) | (go_simp; rfl))
   intro gb200 hg w19 hbox hb
   have BK200 := Aside0.mk (hbox)
   have GW200 := Aside0.mk ((by rw [hg]; exact (below_size q33_) : w.heap.size ≤ gb200))
   have GE200 := Aside0.mk ((by rw [hg]; exact (below_size q33_) : w.heap.size ≤ gb200))
   have NB196_200 := Aside0.mk (nl_ (g := gb196) hg q34_)
   have NB200_196 := Aside0.mk (ng_ (g := gb196) hg q34_)
   replace BK196 := Aside0.mk (blk_below (g := gb196) q34_ hb)
   replace HB := Aside0.mk (below_step q33_ hb)
   clear hb hbox hg
   refine hK.out _ _ trivial (fun hHeld => ?_)
   clear hK K
   refine norm_ (a' := ?_) ?_ ?_
   rotate_left
   ·show Act.put _ (some 4) _ = _
    simp only [Act.put, List.setIfInBounds_toArray, List.set_cons_zero, List.set_cons_succ, i64_w, i32_w]
    rfl
   refine one_ (i := 2) (N := some 13) #[true, true, true, true, true, true, true, true, false, true, true, false, false, true, false] rfl rfl (one_of HT_.out (by kernel_rfl)) (by decide) (fun K hK => ?_)
   refine goes_ Try.func66 (by kernel_rfl) rfl #[.string (a0.extract 0 4)] (by rfl) rfl rfl q1_ ?_
   with_reducible refine (skiffref1_Of.calls k (a0.extract 0 4) t197 _ A5.out).mono ?_
   rintro e w' ⟨rfl, ⟨nd, rfl⟩⟩
   refine ⟨_, rfl, ?_⟩
   refine hK.out _ _ trivial (fun hHeld => ?_)
   clear hK K
   refine norm_ (a' := ?_) ?_ ?_
   rotate_left
   ·show Act.put _ (some 13) _ = _
    simp only [Act.put, List.setIfInBounds_toArray, List.set_cons_zero, List.set_cons_succ, i64_w, i32_w]
    rfl
   refine one_ (i := 8) (N := some 19) #[true, true, true, true, true, true, true, true, true, true, true, false, false, true, false] rfl rfl (one_of HT_.out (by kernel_rfl)) (by decide) (fun K hK => ?_)
   refine goes_ Try.func66 (by kernel_rfl) rfl #[.string (a0.extract 6 8)] (by rfl) rfl rfl q1_ ?_
   with_reducible refine (skiffref1_Of.calls k (a0.extract 6 8) t198 _ A10.out).mono ?_
   rintro e w' ⟨rfl, ⟨nd, rfl⟩⟩
   refine ⟨_, rfl, ?_⟩
   refine hK.out _ _ trivial (fun hHeld => ?_)
   clear hK K
   refine norm_ (a' := ?_) ?_ ?_
   rotate_left
   ·show Act.put _ (some 19) _ = _
    simp only [Act.put, List.setIfInBounds_toArray, List.set_cons_zero, List.set_cons_succ, i64_w, i32_w]
    rfl
   refine one_ (i := 11) (N := some 22) #[true, true, true, true, true, true, true, true, true, true, true, true, false, true, false] rfl rfl (one_of HT_.out (by kernel_rfl)) (by decide) (fun K hK => ?_)
   refine goes_ Try.func66 (by kernel_rfl) rfl #[.string (a0.extract 8 12)] (by rfl) rfl rfl q1_ ?_
   with_reducible refine (skiffref1_Of.calls k (a0.extract 8 12) t199 _ A13.out).mono ?_
   rintro e w' ⟨rfl, ⟨nd, rfl⟩⟩
   refine ⟨_, rfl, ?_⟩
   refine hK.out _ _ trivial (fun hHeld => ?_)
   clear hK K
   refine norm_ (a' := ?_) ?_ ?_
   rotate_left
   ·show Act.put _ (some 22) _ = _
    simp only [Act.put, List.setIfInBounds_toArray, List.set_cons_zero, List.set_cons_succ, i64_w, i32_w]
    rfl
   refine pure_ (i := 12) (N := some 23) (v := ?_) (a' := ?_) #[true, true, true, true, true, true, true, true, true, true, true, true, true, true, false] rfl rfl (any_of HT_.out (by kernel_rfl)) (fun _ _ _ h => h) (Or.inl ⟨by rfl, ?_⟩) ?_ ?_
   rotate_left
   ·intro w'
    go_simp
    with_reducible rfl
   rotate_left
   ·simp only [Act.put, List.setIfInBounds_toArray, List.set_cons_zero, List.set_cons_succ, i64_w, i32_w]
    rfl
   exact norm_ q85_ (hCont (gb200) _ ⟨q34_, q113_, GW200.out, GE200.out, NB196_200.out, NB200_196.out, q65_⟩)
 rintro gb200 w20 ⟨h0_, h1_, h2_, h3_, h4_, h5_, h6_⟩
 have n0_ : Aside0 (w20.heap[gb196]? = some (.cells #[.int .i64 0, .int .i64 0, .int .i64 0, .int .i64 0] 23 (0, 0))) := ⟨h0_⟩
 have n1_ : Aside0 (w20.heap[gb200]? = some (.cells #[.int .i64 0, .int .i64 0, .int .i64 0, .int .i64 0] 23 (0, 0))) := ⟨h1_⟩
 have n2_ : Aside0 (w.heap.size ≤ gb200) := ⟨h2_⟩
 have n3_ : Aside0 (w.heap.size ≤ gb200) := ⟨h3_⟩
 have n4_ : Aside0 (gb196 ≠ gb200) := ⟨h4_⟩
 have n5_ : Aside0 (gb200 ≠ gb196) := ⟨h5_⟩
 have n6_ : Aside0 (Below w.heap.size w w20) := ⟨h6_⟩
 clear BK196
 clear HB
 clear h0_ h1_ h2_ h3_ h4_ h5_ h6_
 have BK196 := n0_
 have BK200 := n1_
 have GW200 := n2_
 have GE200 := n3_
 have NB196_200 := n4_
 have NB200_196 := n5_
 have HB := n6_
 clear n0_ n1_ n2_ n3_ n4_ n5_ n6_
 have hHeld := trivial
 refine norm_ (a' := ?_) ?_ ?_
 rotate_left
 ·simp only [putAll, Act.put, List.setIfInBounds_toArray, List.set_cons_zero, List.set_cons_succ]
  rfl
 refine one_ (i := 14) (N := none) #[true, true, true, true, true, true, true, true, true, true, true, true, true, true, true] rfl rfl (one_of HT_.out (by kernel_rfl)) (by decide) (fun K hK => ?_)
 have hs21 : w20.cell? ⟨gb200, 0, none⟩ = some (.int .i64 0) := (blk_cell BK200.out 0).trans rfl
 have hfs21 := blk_frozen BK200.out 0
 have hns21_0 := NB196_200.out
 have hms21_0 := NB200_196.out
 have hs22 : w20.cell? ⟨gb200, 1, none⟩ = some (.int .i64 0) := (blk_cell BK200.out 1).trans rfl
 have hfs22 := blk_frozen BK200.out 1
 have hns22_0 := NB196_200.out
 have hms22_0 := NB200_196.out
 have hs23 : w20.cell? ⟨gb200, 2, none⟩ = some (.int .i64 0) := (blk_cell BK200.out 2).trans rfl
 have hfs23 := blk_frozen BK200.out 2
 have hns23_0 := NB196_200.out
 have hms23_0 := NB200_196.out
 have hs24 : w20.cell? ⟨gb200, 3, none⟩ = some (.int .i64 0) := (blk_cell BK200.out 3).trans rfl
 have hfs24 := blk_frozen BK200.out 3
 have hns24_0 := NB196_200.out
 have hms24_0 := NB200_196.out
 refine skip_ (w1 := ?_) (by rfl) rfl ?_ ?_
 rotate_left
 ·go_simp
  rfl
 refine hK.out _ _ trivial (fun hHeld => ?_)
 clear hK K
 refine done_ (done_of HT_.out (by kernel_rfl)) ?_
 have hnb25 := NB200_196.out
 have hnc25 := NB196_200.out
 obtain ⟨hcz26_0, hcz26_1, hcz26_2, hcz26_3, hfz26_0, hfz26_1, hfz26_2, hfz26_3⟩ := cells4_ BK200.out
 have H := HH_.out
 clear HH_
 by_cases c15 : t202 = 0
 rotate_left
 ·rw [if_neg c15] at H
  have c15b0 : (t202 == 0) = false := beq_eq_false_iff_ne.mpr c15
  have c15b1 : (t202 != 0) = true := bne_iff_ne.mpr c15
  simp only [Option.some.injEq, Prod.mk.injEq] at H
  obtain ⟨rfl, rfl, rfl, rfl, rfl⟩ := H
  try go_wp2_with (first | ((with_reducible refine gate_callee (f := 19) rfl ?_); refine goesL_ (some 26) rfl rfl Try.func19 (by kernel_rfl) rfl #[.agg #[.int .i64 t197, .int .i64 (wrap64 (bt a0 4)), .int .i64 t198, .int .i64 t199]] rfl q1_ ?_; (with_reducible refine (Hand.skiffref1_PutEntry.calls k t197 (wrap64 (bt a0 4)) t198 t199 t201 t202 _ A14.out).mono ?_); rintro e w52 ⟨rfl, hb⟩; refine ⟨_, rfl, ?_⟩; replace BK196 := Aside0.mk (blk_below (g := gb196) (o := .cells #[.int .i64 0, .int .i64 0, .int .i64 0, .int .i64 0] 23 (0, 0)) q104_ hb); replace BK200 := Aside0.mk (blk_below (g := gb200) (o := .cells #[.int .i64 t197, .int .i64 (wrap64 (bt a0 4)), .int .i64 t198, .int .i64 t199] 23 (0, 0)) q96_ hb); replace HB := Aside0.mk (below_step q65_ hb); (try clear hb); (try clear hb2); (try clear hk); (try clear hi); obtain ⟨hcz53_0, hcz53_1, hcz53_2, hcz53_3, hfz53_0, hfz53_1, hfz53_2, hfz53_3⟩ := cells4_ BK196.out))
  refine bodyPost_ret (results_ct rfl _ _ gb196 23 #[.int .i64 0, .int .i64 0, .int .i64 0, .int .i64 0] (0, 0) _ rfl q75_ Try.underlying23 rfl (by kernel_rfl)) rfl ?_
  exact ⟨by first | rfl | (simp [errW_none, errW_some] <;> rfl) | (simp [*, errW_none, errW_some] <;> rfl), by repeat (first | (with_reducible first | exact HB.out | apply below_alloc | apply pw_below_drewN | apply below_drew1 | refine below_set ?_ GE196.out | refine below_set ?_ GE200.out) | exact HB.out)⟩
 rw [if_pos c15] at H
 have c15b0 : (t202 == 0) = true := beq_iff_eq.mpr c15
 have c15b1 : (t202 != 0) = false := bne_eq_false_iff_eq.mpr c15
 clear c15
 by_cases c16 : t201.toList = a0.toList
 rotate_left
 ·rw [if_neg c16] at H
  have c16b0 : (t201.toList == a0.toList) = false := beq_eq_false_iff_ne.mpr c16
  have c16b1 : (t201.toList != a0.toList) = true := bne_iff_ne.mpr c16
  simp only [Option.some.injEq, Prod.mk.injEq] at H
  obtain ⟨rfl, rfl, rfl, rfl, rfl⟩ := H
  try go_wp2_with (first | ((with_reducible refine gate_callee (f := 19) rfl ?_); refine goesL_ (some 26) rfl rfl Try.func19 (by kernel_rfl) rfl #[.agg #[.int .i64 t197, .int .i64 (wrap64 (bt a0 4)), .int .i64 t198, .int .i64 t199]] rfl q1_ ?_; (with_reducible refine (Hand.skiffref1_PutEntry.calls k t197 (wrap64 (bt a0 4)) t198 t199 t201 t202 _ A14.out).mono ?_); rintro e w40 ⟨rfl, hb⟩; refine ⟨_, rfl, ?_⟩; replace BK196 := Aside0.mk (blk_below (g := gb196) (o := .cells #[.int .i64 0, .int .i64 0, .int .i64 0, .int .i64 0] 23 (0, 0)) q104_ hb); replace BK200 := Aside0.mk (blk_below (g := gb200) (o := .cells #[.int .i64 t197, .int .i64 (wrap64 (bt a0 4)), .int .i64 t198, .int .i64 t199] 23 (0, 0)) q96_ hb); replace HB := Aside0.mk (below_step q65_ hb); (try clear hb); (try clear hb2); (try clear hk); (try clear hi); obtain ⟨hcz41_0, hcz41_1, hcz41_2, hcz41_3, hfz41_0, hfz41_1, hfz41_2, hfz41_3⟩ := cells4_ BK196.out))
  refine bodyPost_ret (results_ct rfl _ _ gb196 23 #[.int .i64 0, .int .i64 0, .int .i64 0, .int .i64 0] (0, 0) _ rfl q75_ Try.underlying23 rfl (by kernel_rfl)) rfl ?_
  exact ⟨by first | rfl | (simp [errW_none, errW_some] <;> rfl) | (simp [*, errW_none, errW_some] <;> rfl), by repeat (first | (with_reducible first | exact HB.out | apply below_alloc | apply pw_below_drewN | apply below_drew1 | refine below_set ?_ GE196.out | refine below_set ?_ GE200.out) | exact HB.out)⟩
 rw [if_pos c16] at H
 have c16b0 : (t201.toList == a0.toList) = true := beq_iff_eq.mpr c16
 have c16b1 : (t201.toList != a0.toList) = false := bne_eq_false_iff_eq.mpr c16
 clear c16
 simp only [Option.some.injEq, Prod.mk.injEq] at H
 obtain ⟨rfl, rfl, rfl, rfl, rfl⟩ := H
 try go_wp2_with (first | ((with_reducible refine gate_callee (f := 19) rfl ?_); refine goesL_ (some 26) rfl rfl Try.func19 (by kernel_rfl) rfl #[.agg #[.int .i64 t197, .int .i64 (wrap64 (bt a0 4)), .int .i64 t198, .int .i64 t199]] rfl q1_ ?_; (with_reducible refine (Hand.skiffref1_PutEntry.calls k t197 (wrap64 (bt a0 4)) t198 t199 t201 t202 _ A14.out).mono ?_); rintro e w27 ⟨rfl, hb⟩; refine ⟨_, rfl, ?_⟩; replace BK196 := Aside0.mk (blk_below (g := gb196) (o := .cells #[.int .i64 0, .int .i64 0, .int .i64 0, .int .i64 0] 23 (0, 0)) q104_ hb); replace BK200 := Aside0.mk (blk_below (g := gb200) (o := .cells #[.int .i64 t197, .int .i64 (wrap64 (bt a0 4)), .int .i64 t198, .int .i64 t199] 23 (0, 0)) q96_ hb); replace HB := Aside0.mk (below_step q65_ hb); (try clear hb); (try clear hb2); (try clear hk); (try clear hi); obtain ⟨hcz28_0, hcz28_1, hcz28_2, hcz28_3, hfz28_0, hfz28_1, hfz28_2, hfz28_3⟩ := cells4_ BK200.out; obtain ⟨hcz29_0, hcz29_1, hcz29_2, hcz29_3, hfz29_0, hfz29_1, hfz29_2, hfz29_3⟩ := cells4_ BK196.out))
 refine bodyPost_ret (results_ct rfl _ _ gb196 23 #[.int .i64 t197, .int .i64 (wrap64 (bt a0 4)), .int .i64 t198, .int .i64 t199] (0, 0) _ rfl q75_ Try.underlying23 rfl (by kernel_rfl)) rfl ?_
 exact ⟨by first | rfl | (simp [errW_none, errW_some] <;> rfl) | (simp [*, errW_none, errW_some] <;> rfl), by repeat (first | (with_reducible first | exact HB.out | apply below_alloc | apply pw_below_drewN | apply below_drew1 | refine below_set ?_ GE196.out | refine below_set ?_ GE200.out) | exact HB.out)⟩
mutual
def skiffref1_Scan.l0 : Nat → ByteArray → List (S25) → Int → Option ((List (S25)) × Int)
 | 0, _, _, _ => none
 | k + 1, x0, x4, x5 => if x5 < 2 then (skiffref1_Scan.l1 k x0 x4 x5 (wrap64 (x5 * 96))) else (some (x4, 0))
def skiffref1_Scan.l1 : Nat → ByteArray → List (S25) → Int → Int → Option ((List (S25)) × Int)
 | 0, _, _, _, _ => none
 | k + 1, x0, x4, x5, x6 => if (wrap64 (x6 + 24)) ≤ (wrap64 ((wrap64 (x5 + 1)) * 96)) then (if 0 ≤ x6 then (if x6 ≤ (wrap64 (x6 + 24)) then (if (wrap64 (x6 + 24)) ≤ (x0.size : Int) then ((skiffref1_GetEntry.f k (x0.extract (x6 : Int).toNat ((wrap64 (x6 + 24)) : Int).toNat)).bind fun bt204 => (if bt204.2.2.2.2 = 0 then (if x4.length < 3518437208883 then (skiffref1_Scan.l1 k x0 (x4 ++ [(⟨x6, (⟨bt204.1, bt204.2.1, bt204.2.2.1, bt204.2.2.2.1⟩ : S23)⟩ : S25)]) x5 (wrap64 (x6 + 24))) else (none)) else (skiffref1_Scan.l1 k x0 x4 x5 (wrap64 (x6 + 24))))) else (none)) else (none)) else (none)) else (skiffref1_Scan.l0 k x0 x4 (wrap64 (x5 + 1)))
end
def skiffref1_Scan.f (k : Nat) (a0 : ByteArray) : Option ((List (S25)) × Int) := (skiffref1_FlashMay.f a0).bind fun t203 => (if t203 = true then (skiffref1_Scan.l0 k a0 ([] : List (S25)) 0) else (some (([] : List (S25)), 500)))
set_option maxHeartbeats 8000000 in
set_option maxRecDepth 100000 in
theorem skiffref1_Scan.calls (k : Nat) (a0 : ByteArray) (r1 : List (S25)) (r2 : Int) (w : World) (h : skiffref1_Scan.f k a0 = some (r1, r2)) :
  Calls Try.prog 15 #[.string a0] w fun e w' => ∃ v0_ : Value, e = .returned (.tuple #[v0_, .int .i64 r2]) ∧ Kd.R k25 25 w' w.heap.size (fun _ => True) v0_ r1 ∧ Below w.heap.size w w' := by
 have hu23 := Try.underlying23
 have hu25 := Try.underlying25
 have HB := Aside0.mk (Below.refl w.heap.size w)
 have H : ((skiffref1_FlashMay.f a0).bind fun t203 => (if t203 = true then (skiffref1_Scan.l0 k a0 ([] : List (S25)) 0) else (some (([] : List (S25)), 500)))) = some (r1, r2) := h
 clear h
 replace H := Option.bind_eq_some_iff.mp H
 obtain ⟨t203, A20, H⟩ := H
 (try dsimp only at H)
 have A2 := Aside0.mk A20
 clear A20
 by_cases c3 : t203 = true
 rotate_left
 ·replace c3 := Bool.eq_false_iff.mpr c3
  subst c3
  have H1 : (some (([] : List (S25)), 500)) = some (r1, r2) := by rw [if_neg (show ¬ (false = true) by decide)] at H; exact H
  clear H
  have H := H1
  clear H1
  simp only [Option.some.injEq, Prod.mk.injEq] at H
  obtain ⟨rfl, rfl⟩ := H
  go_enter Try.func15, Try.ntmps15
  go_wp2_with (first | ((with_reducible refine gate_callee (f := 34) rfl ?_); refine goesL_ (some 10) rfl rfl Try.func34 (by kernel_rfl) rfl #[.string a0] rfl q1_ ?_; (with_reducible refine (skiffref1_FlashMay.calls a0 false _ A2.out).mono ?_); rintro e w' ⟨rfl, ⟨nd, rfl⟩⟩; refine ⟨_, rfl, ?_⟩))
  go_ret2
  exact ⟨_, by first | rfl | (simp [errW_none, errW_some] <;> rfl) | (simp [*, errW_none, errW_some] <;> rfl), by first | exact Kd.R_nil _ _ _ _ _ | exact Kd.N_nil _ _ _ _ _ | exact Kd.V_nil _ _ _ _ _ | exact Kd.Q_nil _ _ _ _ _ | exact Kd.S_nil _ _ _ _ _, by repeat (first | (with_reducible first | exact HB.out | apply below_alloc | apply pw_below_drewN | apply below_drew1) | exact HB.out)⟩
 subst c3
 have H1 : (skiffref1_Scan.l0 k a0 ([] : List (S25)) 0) = some (r1, r2) := by rw [if_pos rfl] at H; exact H
 clear H
 have H := H1
 clear H1
 have H' := Aside0.mk H
 clear H
 go_enter Try.func15, Try.ntmps15
 go_wp2_with (first | ((with_reducible refine gate_callee (f := 34) rfl ?_); refine goesL_ (some 10) rfl rfl Try.func34 (by kernel_rfl) rfl #[.string a0] rfl q1_ ?_; (with_reducible refine (skiffref1_FlashMay.calls a0 true _ A2.out).mono ?_); rintro e w' ⟨rfl, ⟨nd, rfl⟩⟩; refine ⟨_, rfl, ?_⟩))
 go_loopg [4, 5] k (fun kq v4 v5 w' => ∃ (x4_1 : List (S25)) (x5_1 : Int), v5 = .int .i64 x5_1 ∧ Aside0 (skiffref1_Scan.l0 kq a0 x4_1 x5_1 = some (r1, r2)) ∧ Aside0 (kq ≤ k) ∧ Aside0 (Kd.R k25 25 w' w.heap.size (fun _ => True) v4 x4_1) ∧ Aside0 (Below w.heap.size w w'))
 case atStart => exact ⟨(([] : List (S25))), (0), q17_, H', ⟨Nat.le_refl _⟩, ⟨by first | exact Kd.R_nil _ _ _ _ _ | exact Kd.N_nil _ _ _ _ _ | exact Kd.V_nil _ _ _ _ _ | exact Kd.Q_nil _ _ _ _ _ | exact Kd.S_nil _ _ _ _ _⟩, ⟨by repeat (first | (with_reducible first | exact HB.out | apply below_alloc | apply pw_below_drewN | apply below_drew1) | exact HB.out)⟩⟩
 case round =>
  clear H'
  try clear c1
  try clear p2
  try clear c3
  obtain ⟨x4_1, x5_1, rfl, HA, HK1, HO_4, HB⟩ := hrel
  cases gk with
  | zero => exact absurd HA.out (by simp [skiffref1_Scan.l0])
  | succ k1 =>
   have H := HA.out
   clear HA
   simp only [skiffref1_Scan.l0] at H
   by_cases c4 : x5_1 < 2
   rotate_left
   ·rw [if_neg c4] at H
    have c4b0 : decide (x5_1 < 2) = false := decide_eq_false c4
    clear c4
    simp only [Option.some.injEq, Prod.mk.injEq] at H
    obtain ⟨rfl, rfl⟩ := H
    go_wp2
    go_ret2
    exact ⟨_, by first | rfl | (simp [errW_none, errW_some] <;> rfl) | (simp [*, errW_none, errW_some] <;> rfl), by (with_reducible repeat (first | apply Kd.R_alloc | apply Kd.R_drewN | apply Kd.R_drew)); exact HO_4.out, by repeat (first | (with_reducible first | exact HB.out | apply below_alloc | apply pw_below_drewN | apply below_drew1) | exact HB.out)⟩
   rw [if_pos c4] at H
   have c4b0 : decide (x5_1 < 2) = true := decide_eq_true c4
   clear c4
   have H' := Aside0.mk H
   clear H
   go_wp2
   go_loopg [4, 6] k1 (fun kq v4 v6 w' => ∃ (x4_2 : List (S25)) (x6_2 : Int), v6 = .int .i64 x6_2 ∧ Aside0 (skiffref1_Scan.l1 kq a0 x4_2 x5_1 x6_2 = some (r1, r2)) ∧ Aside0 (kq ≤ k1) ∧ Aside0 (Kd.R k25 25 w' w.heap.size (fun _ => True) v4 x4_2) ∧ Aside0 (Below w.heap.size w w'))
   case atStart => exact ⟨(x4_1), (wrap64 (x5_1 * 96)), q17_, H', ⟨Nat.le_refl _⟩, ⟨by (with_reducible repeat (first | apply Kd.R_alloc | apply Kd.R_drewN | apply Kd.R_drew)); exact HO_4.out⟩, ⟨by repeat (first | (with_reducible first | exact HB.out | apply below_alloc | apply pw_below_drewN | apply below_drew1) | exact HB.out)⟩⟩
   case round =>
    clear H'
    try clear c1
    try clear p2
    try clear c3
    try clear c4
    try clear c4b0
    try clear p2
    obtain ⟨x4_2, x6_2, rfl, HA, HK2, HO_4, HB⟩ := hrel
    cases gk with
    | zero => exact absurd HA.out (by simp [skiffref1_Scan.l1])
    | succ k2 =>
     have H := HA.out
     clear HA
     simp only [skiffref1_Scan.l1] at H
     by_cases c5 : (wrap64 (x6_2 + 24)) ≤ (wrap64 ((wrap64 (x5_1 + 1)) * 96))
     rotate_left
     ·rw [if_neg c5] at H
      have c5b0 : decide ((wrap64 (x6_2 + 24)) ≤ (wrap64 ((wrap64 (x5_1 + 1)) * 96))) = false := decide_eq_false c5
      clear c5
      have H' := Aside0.mk H
      clear H
      go_wp2
      go_roundg k2
      case measure => have := HK1.out; have := HK2.out; omega
      case rel => exact ⟨(x4_2), (wrap64 (x5_1 + 1)), q17_, H', ⟨by have := HK1.out; have := HK2.out; omega⟩, ⟨by (with_reducible repeat (first | apply Kd.R_alloc | apply Kd.R_drewN | apply Kd.R_drew)); exact HO_4.out⟩, ⟨by repeat (first | (with_reducible first | exact HB.out | apply below_alloc | apply pw_below_drewN | apply below_drew1) | exact HB.out)⟩⟩
     rw [if_pos c5] at H
     have c5b0 : decide ((wrap64 (x6_2 + 24)) ≤ (wrap64 ((wrap64 (x5_1 + 1)) * 96))) = true := decide_eq_true c5
     clear c5
     by_cases c6 : 0 ≤ x6_2
     rotate_left
     ·rw [if_neg c6] at H
      exact absurd H (by simp)
     rw [if_pos c6] at H
     have c6b0 := eq_true c6
     have c6b1 : decide (0 ≤ x6_2) = true := decide_eq_true c6
     clear c6
     by_cases c7 : x6_2 ≤ (wrap64 (x6_2 + 24))
     rotate_left
     ·rw [if_neg c7] at H
      exact absurd H (by simp)
     rw [if_pos c7] at H
     have c7b0 := eq_true c7
     have c7b1 : decide (x6_2 ≤ (wrap64 (x6_2 + 24))) = true := decide_eq_true c7
     by_cases c8 : (wrap64 (x6_2 + 24)) ≤ (a0.size : Int)
     rotate_left
     ·rw [if_neg c8] at H
      exact absurd H (by simp)
     rw [if_pos c8] at H
     have c8b0 := eq_true c8
     have c8b1 : decide ((wrap64 (x6_2 + 24)) ≤ (a0.size : Int)) = true := decide_eq_true c8
     replace H := Option.bind_eq_some_iff.mp H
     obtain ⟨⟨t204, t205, t206, t207, t208⟩, A90, H⟩ := H
     (try dsimp only at H)
     have A9 := Aside0.mk A90
     clear A90
     by_cases c10 : t208 = 0
     rotate_left
     ·rw [if_neg c10] at H
      have c10b0 : (t208 == 0) = false := beq_eq_false_iff_ne.mpr c10
      have c10b1 : (t208 != 0) = true := bne_iff_ne.mpr c10
      have H' := Aside0.mk H
      clear H
      go_wp2_with (first | ((with_reducible refine gate_callee (f := 35) rfl ?_); refine goesL_ (some 32) rfl rfl Try.func35 (by kernel_rfl) rfl #[.string (a0.extract (x6_2 : Int).toNat ((wrap64 (x6_2 + 24)) : Int).toNat)] rfl q1_ ?_; (with_reducible refine (skiffref1_GetEntry.calls k2 (a0.extract (x6_2 : Int).toNat ((wrap64 (x6_2 + 24)) : Int).toNat) t204 t205 t206 t207 t208 _ A9.out).mono ?_); rintro e w16 ⟨rfl, hb⟩; refine ⟨_, rfl, ?_⟩; replace HO_4 := Aside0.mk (Kd.R_below q27_ hb); replace HB := Aside0.mk (below_step q2_ hb); (try clear hb); (try clear hb2); (try clear hk); (try clear hi)) | ((with_reducible refine gate_dst (N := 7) rfl ?_); refine box_event ?hg (N := 7) ?hd (cs := #[.int .i64 0, .int .i64 0, .int .i64 0, .int .i64 0]) (t := 23) ?hr ?_; (case hd => rfl); (case hg => rfl); (case hr => first | (go_simp; done) | (go_simp; rfl)); intro gb209 hg w17 hbox hb; have BK209 := Aside0.mk (hbox); have GW209 := Aside0.mk ((by rw [hg]; exact (below_size q2_) : w.heap.size ≤ gb209)); have GE209 := Aside0.mk ((by rw [hg]; exact (below_size q2_) : w.heap.size ≤ gb209)); replace HO_4 := Aside0.mk (Kd.R_below q27_ hb); replace HB := Aside0.mk (below_step q2_ hb); clear hb hbox hg; obtain ⟨hcz18_0, hcz18_1, hcz18_2, hcz18_3, hfz18_0, hfz18_1, hfz18_2, hfz18_3⟩ := cells4_ BK209.out))
      go_roundg k2
      case measure => have := HK1.out; have := HK2.out; omega
      case rel => exact ⟨(x4_2), (wrap64 (x6_2 + 24)), q17_, H', ⟨by have := HK1.out; have := HK2.out; omega⟩, ⟨by (with_reducible repeat (first | apply Kd.R_alloc | apply Kd.R_drewN | apply Kd.R_drew)); exact Kd.R_mono (Kd.R_far (p := ⟨gb209, 3, none⟩) (Kd.R_far (p := ⟨gb209, 2, none⟩) (Kd.R_far (p := ⟨gb209, 1, none⟩) (Kd.R_far (p := ⟨gb209, 0, none⟩) (Kd.R_types HO_4.out BK209.out (by decide)) (fun _ hk => hk.2) (.int .i64 t204)) (fun _ hk => hk.2) (.int .i64 t205)) (fun _ hk => hk.2) (.int .i64 t206)) (fun _ hk => hk.2) (.int .i64 t207)) (fun _ hk => trivial)⟩, ⟨by repeat (first | (with_reducible first | exact HB.out | apply below_alloc | apply pw_below_drewN | apply below_drew1 | refine below_set ?_ GE209.out) | exact HB.out)⟩⟩
     rw [if_pos c10] at H
     have c10b0 : (t208 == 0) = true := beq_iff_eq.mpr c10
     have c10b1 : (t208 != 0) = false := bne_eq_false_iff_eq.mpr c10
     clear c10
     by_cases c11 : x4_2.length < 3518437208883
     rotate_left
     ·rw [if_neg c11] at H
      exact absurd H (by simp)
     rw [if_pos c11] at H
     have LMc11 := Aside0.mk c11
     clear c11
     obtain ⟨y210, hy210⟩ : ∃ y_ : List (S25), y_ = (x4_2 ++ [(⟨x6_2, (⟨t204, t205, t206, t207⟩ : S23)⟩ : S25)]) := ⟨_, rfl⟩
     replace H : (skiffref1_Scan.l1 k2 a0 y210 x5_1 (wrap64 (x6_2 + 24))) = some (r1, r2) := by first | (rw [hy210]; with_reducible exact H) | (have H2_ := (Option.bind_some _ _).symm.trans H; rw [hy210]; with_reducible exact H2_) | (have H2_ := (Option.bind_some _ _).symm.trans H; with_reducible exact H2_) | with_reducible exact H | (rw [hy210]; exact H) | exact H
     have Ny210 := Aside0.mk hy210
     clear hy210
     have H' := Aside0.mk H
     clear H
     go_wp2_with (first | ((with_reducible refine gate_callee (f := 35) rfl ?_); refine goesL_ (some 32) rfl rfl Try.func35 (by kernel_rfl) rfl #[.string (a0.extract (x6_2 : Int).toNat ((wrap64 (x6_2 + 24)) : Int).toNat)] rfl q1_ ?_; (with_reducible refine (skiffref1_GetEntry.calls k2 (a0.extract (x6_2 : Int).toNat ((wrap64 (x6_2 + 24)) : Int).toNat) t204 t205 t206 t207 t208 _ A9.out).mono ?_); rintro e w12 ⟨rfl, hb⟩; refine ⟨_, rfl, ?_⟩; replace HO_4 := Aside0.mk (Kd.R_below q27_ hb); replace HB := Aside0.mk (below_step q2_ hb); (try clear hb); (try clear hb2); (try clear hk); (try clear hi)) | ((with_reducible refine gate_dst (N := 7) rfl ?_); refine box_event ?hg (N := 7) ?hd (cs := #[.int .i64 0, .int .i64 0, .int .i64 0, .int .i64 0]) (t := 23) ?hr ?_; (case hd => rfl); (case hg => rfl); (case hr => first | (go_simp; done) | (go_simp; rfl)); intro gb209 hg w13 hbox hb; have BK209 := Aside0.mk (hbox); have GW209 := Aside0.mk ((by rw [hg]; exact (below_size q2_) : w.heap.size ≤ gb209)); have GE209 := Aside0.mk ((by rw [hg]; exact (below_size q2_) : w.heap.size ≤ gb209)); replace HO_4 := Aside0.mk (Kd.R_below q27_ hb); replace HB := Aside0.mk (below_step q2_ hb); clear hb hbox hg; obtain ⟨hcz14_0, hcz14_1, hcz14_2, hcz14_3, hfz14_0, hfz14_1, hfz14_2, hfz14_3⟩ := cells4_ BK209.out) | ((with_reducible refine gate_builtin (b := .append) (xs := #[.tmp 37, .tmp 41]) rfl ?_); at_builtin; refine Kd.R_append k25 (w0 := w) w.heap.size rfl (.tmp 37) (.tmp 41) 38 25 (.agg #[(.int .i64 0), (.int .i64 0), (.int .i64 0), (.int .i64 0), (.int .i64 0)]) 40 rfl Try.underlying38 info25 rfl (by decide) (by omega) u4 x4_2 (⟨x6_2, (⟨t204, t205, t206, t207⟩ : S23)⟩ : S25) [.int .i64 x6_2, .int .i64 t204, .int .i64 t205, .int .i64 t206, .int .i64 t207] (fun _ => True) (fun _ => False) rfl (by first | (go_simp; done) | (go_simp; rfl)) ?aP (fun _ hk => hk.elim) ?aF ?aO ?aB ?aS ?aL ?_; (case aP => exact k25_mkM _ _ _ (⟨x6_2, (⟨t204, t205, t206, t207⟩ : S23)⟩ : S25)); (case aB => exact (by repeat (first | (with_reducible first | exact HB.out | apply below_alloc | apply pw_below_drewN | apply below_drew1 | refine below_set ?_ GE209.out) | exact HB.out))); (case aF => exact (fun _ _ => trivial)); (case aO => exact (by (with_reducible repeat (first | apply Kd.R_alloc | apply Kd.R_drewN | apply Kd.R_drew)); exact Kd.R_mono (Kd.R_far (p := ⟨gb209, 3, none⟩) (Kd.R_far (p := ⟨gb209, 2, none⟩) (Kd.R_far (p := ⟨gb209, 1, none⟩) (Kd.R_far (p := ⟨gb209, 0, none⟩) (Kd.R_types HO_4.out BK209.out (by decide)) (fun _ hk => hk.2) (.int .i64 t204)) (fun _ hk => hk.2) (.int .i64 t205)) (fun _ hk => hk.2) (.int .i64 t206)) (fun _ hk => hk.2) (.int .i64 t207)) (fun _ hk => trivial))); (case aS => exact (below_size (by repeat (first | (with_reducible first | exact HB.out | apply below_alloc | apply pw_below_drewN | apply below_drew1 | refine below_set ?_ GE209.out) | exact HB.out)))); (case aL => have := LMc11.out; omega); intro v211 w15 ho hb hg hat; rw [← Ny210.out] at ho; have HO212 := Aside0.mk (ho); replace BK209 := Aside0.mk (blk_grown (g := gb209) (o := .cells #[.int .i64 t204, .int .i64 t205, .int .i64 t206, .int .i64 t207] 23 (0, 0)) (by (with_reducible repeat (first | refine blk_drewN ?_ _ | refine blk_drew ?_ | refine blk_alloc ?_ _)); refine put4_ (cs := #[.int .i64 0, .int .i64 0, .int .i64 0, .int .i64 0]) ?_ rfl; (with_reducible repeat (first | refine blk_drewN ?_ _ | refine blk_drew ?_ | refine blk_alloc ?_ _)); exact BK209.out) hg (Kd.R_ne HO_4.out BK209.out (by decide))); replace HB := Aside0.mk (hb); clear HO_4; clear ho hb hg hat))
     go_roundg k2
     case measure => have := HK1.out; have := HK2.out; omega
     case rel => exact ⟨(y210), (wrap64 (x6_2 + 24)), q17_, H', ⟨by have := HK1.out; have := HK2.out; omega⟩, ⟨by (with_reducible repeat (first | apply Kd.R_alloc | apply Kd.R_drewN | apply Kd.R_drew)); exact HO212.out⟩, ⟨by repeat (first | (with_reducible first | exact HB.out | apply below_alloc | apply pw_below_drewN | apply below_drew1 | refine below_set ?_ GE209.out) | exact HB.out)⟩⟩
mutual
def skiffref1_Crc.l0 : Nat → ByteArray → Int → Int → Option (Int)
 | 0, _, _, _ => none
 | k + 1, x0, x3, x4 => if x4 < (x0.size : Int) then (if 0 ≤ x4 then (skiffref1_Crc.l1 k x0 (Go.bits .xor .u32 x3 ((bt x0 x4) % 4294967296)) x4 0) else (none)) else (some (wrap64 (Go.bits .xor .u32 IntKind.u32.max x3)))
def skiffref1_Crc.l1 : Nat → ByteArray → Int → Int → Int → Option (Int)
 | 0, _, _, _, _ => none
 | k + 1, x0, x3, x4, x5 => if x5 < 8 then (if (Go.bits .and .u32 x3 1) = 1 then (skiffref1_Crc.l1 k x0 (Go.bits .xor .u32 (x3 / 2) 3988292384) x4 (wrap64 (x5 + 1))) else (skiffref1_Crc.l1 k x0 (x3 / 2) x4 (wrap64 (x5 + 1)))) else (skiffref1_Crc.l0 k x0 x3 (wrap64 (x4 + 1)))
end
def skiffref1_Crc.f (k : Nat) (a0 : ByteArray) : Option (Int) := skiffref1_Crc.l0 k a0 4294967295 0
theorem skiffref1_Crc.mono_l : ∀ k, (∀ y0 y1 y2, LeO (skiffref1_Crc.l0 k y0 y1 y2) (skiffref1_Crc.l0 (k + 1) y0 y1 y2)) ∧ (∀ y0 y1 y2 y3, LeO (skiffref1_Crc.l1 k y0 y1 y2 y3) (skiffref1_Crc.l1 (k + 1) y0 y1 y2 y3))
 | 0 => ⟨fun _ _ _ r h => by simp [skiffref1_Crc.l0] at h, fun _ _ _ _ r h => by simp [skiffref1_Crc.l1] at h⟩
 | k + 1 => by
  obtain ⟨ih0, ih1⟩ := skiffref1_Crc.mono_l k
  refine ⟨?_, ?_⟩
  ·intro y0 y1 y2
   unfold skiffref1_Crc.l0
   repeat' first
   | (with_reducible exact ih0 _ _ _)
   | (with_reducible exact ih1 _ _ _ _)
   | (with_reducible exact LeO.refl _)
   | (with_reducible exact LeO.none _)
   | (with_reducible refine LeO.ite ?_ ?_)
   | (with_reducible refine LeO.bind ?_ (fun _ => ?_))
   | exact ih0 _ _ _
   | exact ih1 _ _ _ _
   | exact LeO.none _
   | refine LeO.ite ?_ ?_
   | refine LeO.bind ?_ (fun _ => ?_)
  ·intro y0 y1 y2 y3
   unfold skiffref1_Crc.l1
   repeat' first
   | (with_reducible exact ih0 _ _ _)
   | (with_reducible exact ih1 _ _ _ _)
   | (with_reducible exact LeO.refl _)
   | (with_reducible exact LeO.none _)
   | (with_reducible refine LeO.ite ?_ ?_)
   | (with_reducible refine LeO.bind ?_ (fun _ => ?_))
   | exact ih0 _ _ _
   | exact ih1 _ _ _ _
   | exact LeO.none _
   | refine LeO.ite ?_ ?_
   | refine LeO.bind ?_ (fun _ => ?_)
theorem skiffref1_Crc.mono : ∀ a0 k, LeO (skiffref1_Crc.f k a0) (skiffref1_Crc.f (k + 1) a0) := by
 intro a0 k
 obtain ⟨ih0, ih1⟩ := skiffref1_Crc.mono_l k
 unfold skiffref1_Crc.f
 repeat' first
   | (with_reducible exact ih0 _ _ _)
   | (with_reducible exact ih1 _ _ _ _)
   | (with_reducible exact LeO.refl _)
   | (with_reducible exact LeO.none _)
   | (with_reducible refine LeO.ite ?_ ?_)
   | (with_reducible refine LeO.bind ?_ (fun _ => ?_))
   | exact ih0 _ _ _
   | exact ih1 _ _ _ _
   | exact LeO.none _
   | refine LeO.ite ?_ ?_
   | refine LeO.bind ?_ (fun _ => ?_)
set_option maxHeartbeats 8000000 in
set_option maxRecDepth 100000 in
theorem skiffref1_Crc.calls (k : Nat) (a0 : ByteArray) (r : Int) (w : World) (h : skiffref1_Crc.f k a0 = some r) :
  Calls Try.prog 18 #[.string a0] w fun e w' => e = .returned (.int .i64 r) ∧ Drawn0 w w' := by
 have H : (skiffref1_Crc.l0 k a0 4294967295 0) = some r := h
 clear h
 have H' := Aside0.mk H
 clear H
 go_enter Try.func18, Try.ntmps18
 go_wp2
 go_loopg [3, 4] k (fun kq v3 v4 w' => ∃ (x3_1 : Int) (x4_1 : Int), v3 = .int .u32 x3_1 ∧ v4 = .int .i64 x4_1 ∧ Aside0 (skiffref1_Crc.l0 kq a0 x3_1 x4_1 = some r) ∧ Aside0 (kq ≤ k) ∧ Drawn0 w w')
 case atStart => exact ⟨(4294967295), (0), q17_, q17_, H', ⟨Nat.le_refl _⟩, by repeat (first | exact Drawn0.refl _ | apply Drawn0.step)⟩
 case round =>
  clear H'
  try clear c1
  obtain ⟨x3_1, x4_1, rfl, rfl, HA, HK1, ⟨m1, rfl⟩⟩ := hrel
  cases gk with
  | zero => exact absurd HA.out (by simp [skiffref1_Crc.l0])
  | succ k1 =>
   have H := HA.out
   clear HA
   simp only [skiffref1_Crc.l0] at H
   by_cases c2 : x4_1 < (a0.size : Int)
   rotate_left
   ·rw [if_neg c2] at H
    have c2b0 : decide (x4_1 < (a0.size : Int)) = false := decide_eq_false c2
    clear c2
    obtain rfl := Option.some.inj H
    go_wp2
    go_ret
    exact ⟨by first | rfl | (simp; done) | (simp [*]; done), by repeat (first | exact Drawn0.refl _ | apply Drawn0.step)⟩
   rw [if_pos c2] at H
   have c2b0 : decide (x4_1 < (a0.size : Int)) = true := decide_eq_true c2
   clear c2
   by_cases c3 : 0 ≤ x4_1
   rotate_left
   ·rw [if_neg c3] at H
    exact absurd H (by simp)
   rw [if_pos c3] at H
   have c3b0 : decide (0 ≤ x4_1) = true := decide_eq_true c3
   clear c3
   have H' := Aside0.mk H
   clear H
   have p4 : 0 ≤ (x4_1 : Int) := of_decide_eq_true q16_
   have q4 : x4_1 < (a0.size : Int) := of_decide_eq_true q16_
   have hx4 := bt_at a0 x4_1
   replace p4 := eq_true p4
   replace q4 := eq_true q4
   go_wp2
   go_loopg [3, 5] k1 (fun kq v3 v5 w' => ∃ (x3_2 : Int) (x5_2 : Int), v3 = .int .u32 x3_2 ∧ v5 = .int .i64 x5_2 ∧ Aside0 (skiffref1_Crc.l1 kq a0 x3_2 x4_1 x5_2 = some r) ∧ Aside0 (kq ≤ k1) ∧ Drawn0 w w')
   case atStart => exact ⟨(Go.bits .xor .u32 x3_1 ((bt a0 x4_1) % 4294967296)), (0), q17_, q17_, H', ⟨Nat.le_refl _⟩, by repeat (first | exact Drawn0.refl _ | apply Drawn0.step)⟩
   case round =>
    clear H'
    try clear c1
    try clear c2
    try clear c2b0
    try clear p2
    try clear c3
    try clear c3b0
    try clear p4
    try clear q4
    try clear hx4
    try clear p4
    try clear q4
    obtain ⟨x3_2, x5_2, rfl, rfl, HA, HK2, ⟨m2, rfl⟩⟩ := hrel
    cases gk with
    | zero => exact absurd HA.out (by simp [skiffref1_Crc.l1])
    | succ k2 =>
     have H := HA.out
     clear HA
     simp only [skiffref1_Crc.l1] at H
     by_cases c5 : x5_2 < 8
     rotate_left
     ·rw [if_neg c5] at H
      have c5b0 : decide (x5_2 < 8) = false := decide_eq_false c5
      clear c5
      have H' := Aside0.mk H
      clear H
      go_wp2
      go_roundg k2
      case measure => have := HK1.out; have := HK2.out; omega
      case rel => exact ⟨(x3_2), (wrap64 (x4_1 + 1)), q17_, q17_, H', ⟨by have := HK1.out; have := HK2.out; omega⟩, by repeat (first | exact Drawn0.refl _ | apply Drawn0.step)⟩
     rw [if_pos c5] at H
     have c5b0 : decide (x5_2 < 8) = true := decide_eq_true c5
     clear c5
     by_cases c6 : (Go.bits .and .u32 x3_2 1) = 1
     rotate_left
     ·rw [if_neg c6] at H
      have c6b0 : ((Go.bits .and .u32 x3_2 1) == 1) = false := beq_eq_false_iff_ne.mpr c6
      have c6b1 : ((Go.bits .and .u32 x3_2 1) != 1) = true := bne_iff_ne.mpr c6
      have H' := Aside0.mk H
      clear H
      go_wp2
      go_roundg k2
      case measure => have := HK1.out; have := HK2.out; omega
      case rel => exact ⟨(x3_2 / 2), (wrap64 (x5_2 + 1)), q17_, q17_, H', ⟨by have := HK1.out; have := HK2.out; omega⟩, by repeat (first | exact Drawn0.refl _ | apply Drawn0.step)⟩
     rw [if_pos c6] at H
     have c6b0 : ((Go.bits .and .u32 x3_2 1) == 1) = true := beq_iff_eq.mpr c6
     have c6b1 : ((Go.bits .and .u32 x3_2 1) != 1) = false := bne_eq_false_iff_eq.mpr c6
     clear c6
     have H' := Aside0.mk H
     clear H
     go_wp2
     go_roundg k2
     case measure => have := HK1.out; have := HK2.out; omega
     case rel => exact ⟨(Go.bits .xor .u32 (x3_2 / 2) 3988292384), (wrap64 (x5_2 + 1)), q17_, q17_, H', ⟨by have := HK1.out; have := HK2.out; omega⟩, by repeat (first | exact Drawn0.refl _ | apply Drawn0.step)⟩
def skiffref1_Base.f (a0 : Int) : Option (Int × Int) := (PBase.skiffref1_upTo.f a0 0 1).bind fun t213 => (if t213 = true then (some (wrap64 ((wrap64 (2 + (wrap64 (3 * a0)))) * 96), 0)) else (some (0, 600)))
set_option maxHeartbeats 8000000 in
set_option maxRecDepth 100000 in
theorem skiffref1_Base.calls (a0 : Int) (r1 : Int) (r2 : Int) (w : World) (h : skiffref1_Base.f a0 = some (r1, r2)) :
  Calls Try.prog 20 #[.int .i64 a0] w fun e w' => e = .returned (.tuple #[.int .i64 r1, .int .i64 r2]) ∧ Drawn0 w w' := by
 have H : ((PBase.skiffref1_upTo.f a0 0 1).bind fun t213 => (if t213 = true then (some (wrap64 ((wrap64 (2 + (wrap64 (3 * a0)))) * 96), 0)) else (some (0, 600)))) = some (r1, r2) := h
 clear h
 replace H := Option.bind_eq_some_iff.mp H
 obtain ⟨t213, A20, H⟩ := H
 (try dsimp only at H)
 have A2 := Aside0.mk A20
 clear A20
 by_cases c3 : t213 = true
 ·subst c3
  have H1 : (some (wrap64 ((wrap64 (2 + (wrap64 (3 * a0)))) * 96), 0)) = some (r1, r2) := by rw [if_pos rfl] at H; exact H
  clear H
  have H := H1
  clear H1
  simp only [Option.some.injEq, Prod.mk.injEq] at H
  obtain ⟨rfl, rfl⟩ := H
  go_enter Try.func20, Try.ntmps20
  go_wp2_with (first | ((with_reducible refine gate_callee (f := 40) rfl ?_); refine goesL_ (some 5) rfl rfl Try.func40 (by kernel_rfl) rfl #[.int .i64 a0, .int .i64 0, .int .i64 1] rfl q1_ ?_; (with_reducible refine (PBase.skiffref1_upTo.calls a0 0 1 true _ A2.out).mono ?_); rintro e w' ⟨rfl, ⟨nd, rfl⟩⟩; refine ⟨_, rfl, ?_⟩))
  go_ret2
  exact ⟨by first | rfl | (simp; done) | (simp [*]; done), by repeat (first | exact Drawn0.refl _ | apply Drawn0.step)⟩
 replace c3 := Bool.eq_false_iff.mpr c3
 subst c3
 have H1 : (some (0, 600)) = some (r1, r2) := by rw [if_neg (show ¬ (false = true) by decide)] at H; exact H
 clear H
 have H := H1
 clear H1
 simp only [Option.some.injEq, Prod.mk.injEq] at H
 obtain ⟨rfl, rfl⟩ := H
 go_enter Try.func20, Try.ntmps20
 go_wp2_with (first | ((with_reducible refine gate_callee (f := 40) rfl ?_); refine goesL_ (some 5) rfl rfl Try.func40 (by kernel_rfl) rfl #[.int .i64 a0, .int .i64 0, .int .i64 1] rfl q1_ ?_; (with_reducible refine (PBase.skiffref1_upTo.calls a0 0 1 false _ A2.out).mono ?_); rintro e w' ⟨rfl, ⟨nd, rfl⟩⟩; refine ⟨_, rfl, ?_⟩))
 go_ret2
 exact ⟨by first | rfl | (simp; done) | (simp [*]; done), by repeat (first | exact Drawn0.refl _ | apply Drawn0.step)⟩
def skiffref1_ImageOf.f (a0 : ByteArray) (a1_0 : Int) (a1_1 : Int) (a1_2 : Int) (a1_3 : Int) : Option (ByteArray × Int) := (skiffref1_FlashMay.f a0).bind fun t215 => (if t215 = true then ((PBase.skiffref1_RecordMay.f a1_0 a1_1 a1_2 a1_3).bind fun t216 => (if t216 = true then ((skiffref1_Base.f a1_1).bind fun bt217 => (if 0 ≤ bt217.1 then (if bt217.1 ≤ (wrap64 (bt217.1 + a1_2)) then (if (wrap64 (bt217.1 + a1_2)) ≤ (a0.size : Int) then (some (a0.extract (bt217.1 : Int).toNat ((wrap64 (bt217.1 + a1_2)) : Int).toNat, 0)) else (none)) else (none)) else (none))) else (some ((⟨#[]⟩ : ByteArray), 600)))) else (some ((⟨#[]⟩ : ByteArray), 600)))
set_option maxHeartbeats 8000000 in
set_option maxRecDepth 100000 in
theorem skiffref1_ImageOf.calls (a0 : ByteArray) (a1_0 : Int) (a1_1 : Int) (a1_2 : Int) (a1_3 : Int) (r1 : ByteArray) (r2 : Int) (w : World) (h : skiffref1_ImageOf.f a0 a1_0 a1_1 a1_2 a1_3 = some (r1, r2)) :
  Calls Try.prog 36 #[.string a0, .agg #[.int .i64 a1_0, .int .i64 a1_1, .int .i64 a1_2, .int .i64 a1_3]] w fun e w' => e = .returned (.tuple #[.string r1, .int .i64 r2]) ∧ Below w.heap.size w w' := by
 have hu23 := Try.underlying23
 have HB := Aside0.mk (Below.refl w.heap.size w)
 have H : ((skiffref1_FlashMay.f a0).bind fun t215 => (if t215 = true then ((PBase.skiffref1_RecordMay.f a1_0 a1_1 a1_2 a1_3).bind fun t216 => (if t216 = true then ((skiffref1_Base.f a1_1).bind fun bt217 => (if 0 ≤ bt217.1 then (if bt217.1 ≤ (wrap64 (bt217.1 + a1_2)) then (if (wrap64 (bt217.1 + a1_2)) ≤ (a0.size : Int) then (some (a0.extract (bt217.1 : Int).toNat ((wrap64 (bt217.1 + a1_2)) : Int).toNat, 0)) else (none)) else (none)) else (none))) else (some ((⟨#[]⟩ : ByteArray), 600)))) else (some ((⟨#[]⟩ : ByteArray), 600)))) = some (r1, r2) := h
 clear h
 replace H := Option.bind_eq_some_iff.mp H
 obtain ⟨t215, A30, H⟩ := H
 (try dsimp only at H)
 have A3 := Aside0.mk A30
 clear A30
 by_cases c4 : t215 = true
 rotate_left
 ·replace c4 := Bool.eq_false_iff.mpr c4
  subst c4
  have H1 : (some ((⟨#[]⟩ : ByteArray), 600)) = some (r1, r2) := by rw [if_neg (show ¬ (false = true) by decide)] at H; exact H
  clear H
  have H := H1
  clear H1
  simp only [Option.some.injEq, Prod.mk.injEq] at H
  obtain ⟨rfl, rfl⟩ := H
  go_enter Try.func36, Try.ntmps36
  go_wp2_with (first | ((with_reducible refine gate_dst (N := 3) rfl ?_); refine box_event ?hg (N := 3) ?hd (cs := #[.int .i64 a1_0, .int .i64 a1_1, .int .i64 a1_2, .int .i64 a1_3]) (t := 23) ?hr ?_; (case hd => rfl); (case hg => rfl); (case hr => first | (go_simp; done) | (go_simp; rfl)); intro gb214 hg w18 hbox hb; have BK214 := Aside0.mk (hbox); have GW214 := Aside0.mk ((by rw [hg]; exact (below_size q2_) : w.heap.size ≤ gb214)); have GE214 := Aside0.mk ((by rw [hg]; exact (below_size q2_) : w.heap.size ≤ gb214)); replace HB := Aside0.mk (below_step q2_ hb); clear hb hbox hg) | ((with_reducible refine gate_callee (f := 34) rfl ?_); refine goesL_ (some 9) rfl rfl Try.func34 (by kernel_rfl) rfl #[.string a0] rfl q1_ ?_; (with_reducible refine (skiffref1_FlashMay.calls a0 false _ A3.out).mono ?_); rintro e w' ⟨rfl, ⟨nd, rfl⟩⟩; refine ⟨_, rfl, ?_⟩))
  go_ret2
  exact ⟨by first | rfl | (simp [errW_none, errW_some] <;> rfl) | (simp [*, errW_none, errW_some] <;> rfl), by repeat (first | (with_reducible first | exact HB.out | apply below_alloc | apply pw_below_drewN | apply below_drew1 | refine below_set ?_ GE214.out) | exact HB.out)⟩
 subst c4
 have H1 : ((PBase.skiffref1_RecordMay.f a1_0 a1_1 a1_2 a1_3).bind fun t216 => (if t216 = true then ((skiffref1_Base.f a1_1).bind fun bt217 => (if 0 ≤ bt217.1 then (if bt217.1 ≤ (wrap64 (bt217.1 + a1_2)) then (if (wrap64 (bt217.1 + a1_2)) ≤ (a0.size : Int) then (some (a0.extract (bt217.1 : Int).toNat ((wrap64 (bt217.1 + a1_2)) : Int).toNat, 0)) else (none)) else (none)) else (none))) else (some ((⟨#[]⟩ : ByteArray), 600)))) = some (r1, r2) := by rw [if_pos rfl] at H; exact H
 clear H
 have H := H1
 clear H1
 replace H := Option.bind_eq_some_iff.mp H
 obtain ⟨t216, A50, H⟩ := H
 (try dsimp only at H)
 have A5 := Aside0.mk A50
 clear A50
 by_cases c6 : t216 = true
 rotate_left
 ·replace c6 := Bool.eq_false_iff.mpr c6
  subst c6
  have H1 : (some ((⟨#[]⟩ : ByteArray), 600)) = some (r1, r2) := by rw [if_neg (show ¬ (false = true) by decide)] at H; exact H
  clear H
  have H := H1
  clear H1
  simp only [Option.some.injEq, Prod.mk.injEq] at H
  obtain ⟨rfl, rfl⟩ := H
  go_enter Try.func36, Try.ntmps36
  go_wp2_with (first | ((with_reducible refine gate_dst (N := 3) rfl ?_); refine box_event ?hg (N := 3) ?hd (cs := #[.int .i64 a1_0, .int .i64 a1_1, .int .i64 a1_2, .int .i64 a1_3]) (t := 23) ?hr ?_; (case hd => rfl); (case hg => rfl); (case hr => first | (go_simp; done) | (go_simp; rfl)); intro gb214 hg w15 hbox hb; have BK214 := Aside0.mk (hbox); have GW214 := Aside0.mk ((by rw [hg]; exact (below_size q2_) : w.heap.size ≤ gb214)); have GE214 := Aside0.mk ((by rw [hg]; exact (below_size q2_) : w.heap.size ≤ gb214)); replace HB := Aside0.mk (below_step q2_ hb); clear hb hbox hg) | ((with_reducible refine gate_callee (f := 34) rfl ?_); refine goesL_ (some 9) rfl rfl Try.func34 (by kernel_rfl) rfl #[.string a0] rfl q1_ ?_; (with_reducible refine (skiffref1_FlashMay.calls a0 true _ A3.out).mono ?_); rintro e w' ⟨rfl, ⟨nd, rfl⟩⟩; refine ⟨_, rfl, ?_⟩; obtain ⟨hcz16_0, hcz16_1, hcz16_2, hcz16_3, hfz16_0, hfz16_1, hfz16_2, hfz16_3⟩ := cells4_ BK214.out) | (go_at_call 38; (with_reducible refine (PBase.skiffref1_RecordMay.calls a1_0 a1_1 a1_2 a1_3 false _ A5.out).mono ?_); rintro e w17 ⟨rfl, hb⟩; replace BK214 := Aside0.mk (blk_below (g := gb214) (by (with_reducible repeat (first | refine blk_drewN ?_ _ | refine blk_drew ?_ | refine blk_alloc ?_ _)); exact BK214.out) hb); replace HB := Aside0.mk (below_step (by repeat (first | (with_reducible first | exact HB.out | apply below_alloc | apply pw_below_drewN | apply below_drew1 | refine below_set ?_ GE214.out) | exact HB.out)) hb); (try clear hb); (try clear hb2); (try clear hk); (try clear hi)))
  go_ret2
  exact ⟨by first | rfl | (simp [errW_none, errW_some] <;> rfl) | (simp [*, errW_none, errW_some] <;> rfl), by repeat (first | (with_reducible first | exact HB.out | apply below_alloc | apply pw_below_drewN | apply below_drew1 | refine below_set ?_ GE214.out) | exact HB.out)⟩
 subst c6
 have H1 : ((skiffref1_Base.f a1_1).bind fun bt217 => (if 0 ≤ bt217.1 then (if bt217.1 ≤ (wrap64 (bt217.1 + a1_2)) then (if (wrap64 (bt217.1 + a1_2)) ≤ (a0.size : Int) then (some (a0.extract (bt217.1 : Int).toNat ((wrap64 (bt217.1 + a1_2)) : Int).toNat, 0)) else (none)) else (none)) else (none))) = some (r1, r2) := by rw [if_pos rfl] at H; exact H
 clear H
 have H := H1
 clear H1
 replace H := Option.bind_eq_some_iff.mp H
 obtain ⟨⟨t217, t218⟩, A70, H⟩ := H
 (try dsimp only at H)
 have A7 := Aside0.mk A70
 clear A70
 by_cases c8 : 0 ≤ t217
 rotate_left
 ·rw [if_neg c8] at H
  exact absurd H (by simp)
 rw [if_pos c8] at H
 have c8b0 := eq_true c8
 have c8b1 : decide (0 ≤ t217) = true := decide_eq_true c8
 clear c8
 by_cases c9 : t217 ≤ (wrap64 (t217 + a1_2))
 rotate_left
 ·rw [if_neg c9] at H
  exact absurd H (by simp)
 rw [if_pos c9] at H
 have c9b0 := eq_true c9
 have c9b1 : decide (t217 ≤ (wrap64 (t217 + a1_2))) = true := decide_eq_true c9
 by_cases c10 : (wrap64 (t217 + a1_2)) ≤ (a0.size : Int)
 rotate_left
 ·rw [if_neg c10] at H
  exact absurd H (by simp)
 rw [if_pos c10] at H
 have c10b0 := eq_true c10
 have c10b1 : decide ((wrap64 (t217 + a1_2)) ≤ (a0.size : Int)) = true := decide_eq_true c10
 simp only [Option.some.injEq, Prod.mk.injEq] at H
 obtain ⟨rfl, rfl⟩ := H
 go_enter Try.func36, Try.ntmps36
 go_wp2_with (first | ((with_reducible refine gate_dst (N := 3) rfl ?_); refine box_event ?hg (N := 3) ?hd (cs := #[.int .i64 a1_0, .int .i64 a1_1, .int .i64 a1_2, .int .i64 a1_3]) (t := 23) ?hr ?_; (case hd => rfl); (case hg => rfl); (case hr => first | (go_simp; done) | (go_simp; rfl)); intro gb214 hg w11 hbox hb; have BK214 := Aside0.mk (hbox); have GW214 := Aside0.mk ((by rw [hg]; exact (below_size q2_) : w.heap.size ≤ gb214)); have GE214 := Aside0.mk ((by rw [hg]; exact (below_size q2_) : w.heap.size ≤ gb214)); replace HB := Aside0.mk (below_step q2_ hb); clear hb hbox hg) | ((with_reducible refine gate_callee (f := 34) rfl ?_); refine goesL_ (some 9) rfl rfl Try.func34 (by kernel_rfl) rfl #[.string a0] rfl q1_ ?_; (with_reducible refine (skiffref1_FlashMay.calls a0 true _ A3.out).mono ?_); rintro e w' ⟨rfl, ⟨nd, rfl⟩⟩; refine ⟨_, rfl, ?_⟩; obtain ⟨hcz12_0, hcz12_1, hcz12_2, hcz12_3, hfz12_0, hfz12_1, hfz12_2, hfz12_3⟩ := cells4_ BK214.out) | (go_at_call 38; (with_reducible refine (PBase.skiffref1_RecordMay.calls a1_0 a1_1 a1_2 a1_3 true _ A5.out).mono ?_); rintro e w13 ⟨rfl, hb⟩; replace BK214 := Aside0.mk (blk_below (g := gb214) (by (with_reducible repeat (first | refine blk_drewN ?_ _ | refine blk_drew ?_ | refine blk_alloc ?_ _)); exact BK214.out) hb); replace HB := Aside0.mk (below_step (by repeat (first | (with_reducible first | exact HB.out | apply below_alloc | apply pw_below_drewN | apply below_drew1 | refine below_set ?_ GE214.out) | exact HB.out)) hb); (try clear hb); (try clear hb2); (try clear hk); (try clear hi); obtain ⟨hcz14_0, hcz14_1, hcz14_2, hcz14_3, hfz14_0, hfz14_1, hfz14_2, hfz14_3⟩ := cells4_ BK214.out) | ((with_reducible refine gate_callee (f := 20) rfl ?_); refine goesL_ (some 19) rfl rfl Try.func20 (by kernel_rfl) rfl #[.int .i64 a1_1] rfl q1_ ?_; (with_reducible refine (skiffref1_Base.calls a1_1 t217 t218 _ A7.out).mono ?_); rintro e w' ⟨rfl, ⟨nd, rfl⟩⟩; refine ⟨_, rfl, ?_⟩))
 go_ret2
 exact ⟨by first | rfl | (simp [errW_none, errW_some] <;> rfl) | (simp [*, errW_none, errW_some] <;> rfl), by repeat (first | (with_reducible first | exact HB.out | apply below_alloc | apply pw_below_drewN | apply below_drew1 | refine below_set ?_ GE214.out) | exact HB.out)⟩
def skiffref1_Good.f (k : Nat) (a0 : ByteArray) (a1_0 : Int) (a1_1 : Int) (a1_2 : Int) (a1_3 : Int) : Option (Bool × Int) := (skiffref1_ImageOf.f a0 a1_0 a1_1 a1_2 a1_3).bind fun bt220 => (if bt220.2 = 0 then ((skiffref1_Crc.f k bt220.1).bind fun t222 => (some ((t222 == a1_3), bt220.2))) else (some (false, bt220.2)))
set_option maxHeartbeats 8000000 in
set_option maxRecDepth 100000 in
theorem skiffref1_Good.calls (k : Nat) (a0 : ByteArray) (a1_0 : Int) (a1_1 : Int) (a1_2 : Int) (a1_3 : Int) (r1 : Bool) (r2 : Int) (w : World) (h : skiffref1_Good.f k a0 a1_0 a1_1 a1_2 a1_3 = some (r1, r2)) :
  Calls Try.prog 16 #[.string a0, .agg #[.int .i64 a1_0, .int .i64 a1_1, .int .i64 a1_2, .int .i64 a1_3]] w fun e w' => e = .returned (.tuple #[.bool r1, .int .i64 r2]) ∧ Below w.heap.size w w' := by
 have hu23 := Try.underlying23
 have HB := Aside0.mk (Below.refl w.heap.size w)
 have H : ((skiffref1_ImageOf.f a0 a1_0 a1_1 a1_2 a1_3).bind fun bt220 => (if bt220.2 = 0 then ((skiffref1_Crc.f k bt220.1).bind fun t222 => (some ((t222 == a1_3), bt220.2))) else (some (false, bt220.2)))) = some (r1, r2) := h
 clear h
 replace H := Option.bind_eq_some_iff.mp H
 obtain ⟨⟨t220, t221⟩, A30, H⟩ := H
 (try dsimp only at H)
 have A3 := Aside0.mk A30
 clear A30
 by_cases c4 : t221 = 0
 rotate_left
 ·rw [if_neg c4] at H
  have c4b0 : (t221 == 0) = false := beq_eq_false_iff_ne.mpr c4
  have c4b1 : (t221 != 0) = true := bne_iff_ne.mpr c4
  simp only [Option.some.injEq, Prod.mk.injEq] at H
  obtain ⟨rfl, rfl⟩ := H
  go_enter Try.func16, Try.ntmps16
  go_wp2_with (first | ((with_reducible refine gate_dst (N := 3) rfl ?_); refine box_event ?hg (N := 3) ?hd (cs := #[.int .i64 a1_0, .int .i64 a1_1, .int .i64 a1_2, .int .i64 a1_3]) (t := 23) ?hr ?_; (case hd => rfl); (case hg => rfl); (case hr => first | (go_simp; done) | (go_simp; rfl)); intro gb219 hg w10 hbox hb; have BK219 := Aside0.mk (hbox); have GW219 := Aside0.mk ((by rw [hg]; exact (below_size q2_) : w.heap.size ≤ gb219)); have GE219 := Aside0.mk ((by rw [hg]; exact (below_size q2_) : w.heap.size ≤ gb219)); replace HB := Aside0.mk (below_step q2_ hb); clear hb hbox hg; obtain ⟨hcz11_0, hcz11_1, hcz11_2, hcz11_3, hfz11_0, hfz11_1, hfz11_2, hfz11_3⟩ := cells4_ BK219.out) | (go_at_call 36; (with_reducible refine (skiffref1_ImageOf.calls a0 a1_0 a1_1 a1_2 a1_3 t220 t221 _ A3.out).mono ?_); rintro e w12 ⟨rfl, hb⟩; replace BK219 := Aside0.mk (blk_below (g := gb219) q102_ hb); replace HB := Aside0.mk (below_step q79_ hb); (try clear hb); (try clear hb2); (try clear hk); (try clear hi)))
  repeat (go_quiet (first | ((with_reducible refine gate_dst (N := 3) rfl ?_); refine box_event ?hg (N := 3) ?hd (cs := #[.int .i64 a1_0, .int .i64 a1_1, .int .i64 a1_2, .int .i64 a1_3]) (t := 23) ?hr ?_; (case hd => rfl); (case hg => rfl); (case hr => first | (go_simp; done) | (go_simp; rfl)); intro gb219 hg w10 hbox hb; have BK219 := Aside0.mk (hbox); have GW219 := Aside0.mk ((by rw [hg]; exact (below_size q2_) : w.heap.size ≤ gb219)); have GE219 := Aside0.mk ((by rw [hg]; exact (below_size q2_) : w.heap.size ≤ gb219)); replace HB := Aside0.mk (below_step q2_ hb); clear hb hbox hg; obtain ⟨hcz11_0, hcz11_1, hcz11_2, hcz11_3, hfz11_0, hfz11_1, hfz11_2, hfz11_3⟩ := cells4_ BK219.out) | (go_at_call 36; (with_reducible refine (skiffref1_ImageOf.calls a0 a1_0 a1_1 a1_2 a1_3 t220 t221 _ A3.out).mono ?_); rintro e w12 ⟨rfl, hb⟩; replace BK219 := Aside0.mk (blk_below (g := gb219) q102_ hb); replace HB := Aside0.mk (below_step q79_ hb); (try clear hb); (try clear hb2); (try clear hk); (try clear hi))); try go_wp2_with (first | ((with_reducible refine gate_dst (N := 3) rfl ?_); refine box_event ?hg (N := 3) ?hd (cs := #[.int .i64 a1_0, .int .i64 a1_1, .int .i64 a1_2, .int .i64 a1_3]) (t := 23) ?hr ?_; (case hd => rfl); (case hg => rfl); (case hr => first | (go_simp; done) | (go_simp; rfl)); intro gb219 hg w10 hbox hb; have BK219 := Aside0.mk (hbox); have GW219 := Aside0.mk ((by rw [hg]; exact (below_size q2_) : w.heap.size ≤ gb219)); have GE219 := Aside0.mk ((by rw [hg]; exact (below_size q2_) : w.heap.size ≤ gb219)); replace HB := Aside0.mk (below_step q2_ hb); clear hb hbox hg; obtain ⟨hcz11_0, hcz11_1, hcz11_2, hcz11_3, hfz11_0, hfz11_1, hfz11_2, hfz11_3⟩ := cells4_ BK219.out) | (go_at_call 36; (with_reducible refine (skiffref1_ImageOf.calls a0 a1_0 a1_1 a1_2 a1_3 t220 t221 _ A3.out).mono ?_); rintro e w12 ⟨rfl, hb⟩; replace BK219 := Aside0.mk (blk_below (g := gb219) q102_ hb); replace HB := Aside0.mk (below_step q79_ hb); (try clear hb); (try clear hb2); (try clear hk); (try clear hi))))
  go_ret2
  exact ⟨by first | rfl | (simp [errW_none, errW_some] <;> rfl) | (simp [*, errW_none, errW_some] <;> rfl), by repeat (first | (with_reducible first | exact HB.out | apply below_alloc | apply pw_below_drewN | apply below_drew1 | refine below_set ?_ GE219.out) | exact HB.out)⟩
 rw [if_pos c4] at H
 have c4b0 : (t221 == 0) = true := beq_iff_eq.mpr c4
 have c4b1 : (t221 != 0) = false := bne_eq_false_iff_eq.mpr c4
 clear c4
 replace H := Option.bind_eq_some_iff.mp H
 obtain ⟨t222, A50, H⟩ := H
 replace H : (some ((t222 == a1_3), t221)) = some (r1, r2) := H
 have A5 := Aside0.mk A50
 clear A50
 simp only [Option.some.injEq, Prod.mk.injEq] at H
 obtain ⟨rfl, rfl⟩ := H
 go_enter Try.func16, Try.ntmps16
 go_wp2_with (first | ((with_reducible refine gate_dst (N := 3) rfl ?_); refine box_event ?hg (N := 3) ?hd (cs := #[.int .i64 a1_0, .int .i64 a1_1, .int .i64 a1_2, .int .i64 a1_3]) (t := 23) ?hr ?_; (case hd => rfl); (case hg => rfl); (case hr => first | (go_simp; done) | (go_simp; rfl)); intro gb219 hg w6 hbox hb; have BK219 := Aside0.mk (hbox); have GW219 := Aside0.mk ((by rw [hg]; exact (below_size q2_) : w.heap.size ≤ gb219)); have GE219 := Aside0.mk ((by rw [hg]; exact (below_size q2_) : w.heap.size ≤ gb219)); replace HB := Aside0.mk (below_step q2_ hb); clear hb hbox hg; obtain ⟨hcz7_0, hcz7_1, hcz7_2, hcz7_3, hfz7_0, hfz7_1, hfz7_2, hfz7_3⟩ := cells4_ BK219.out) | (go_at_call 36; (with_reducible refine (skiffref1_ImageOf.calls a0 a1_0 a1_1 a1_2 a1_3 t220 t221 _ A3.out).mono ?_); rintro e w8 ⟨rfl, hb⟩; replace BK219 := Aside0.mk (blk_below (g := gb219) q102_ hb); replace HB := Aside0.mk (below_step q79_ hb); (try clear hb); (try clear hb2); (try clear hk); (try clear hi)) | (go_at_call 18; (with_reducible refine (skiffref1_Crc.calls k t220 t222 _ A5.out).mono ?_); rintro e w' ⟨rfl, ⟨nd, rfl⟩⟩; (try first | exact ⟨rfl, _, World.drewN_drewN _ _ _⟩ | exact ⟨rfl, _, Eq.trans (World.drewN_drewN _ _ _) (congrArg (World.drewN _) (Nat.add_assoc _ _ _))⟩); obtain ⟨hcz9_0, hcz9_1, hcz9_2, hcz9_3, hfz9_0, hfz9_1, hfz9_2, hfz9_3⟩ := cells4_ BK219.out))
 repeat (go_quiet (first | ((with_reducible refine gate_dst (N := 3) rfl ?_); refine box_event ?hg (N := 3) ?hd (cs := #[.int .i64 a1_0, .int .i64 a1_1, .int .i64 a1_2, .int .i64 a1_3]) (t := 23) ?hr ?_; (case hd => rfl); (case hg => rfl); (case hr => first | (go_simp; done) | (go_simp; rfl)); intro gb219 hg w6 hbox hb; have BK219 := Aside0.mk (hbox); have GW219 := Aside0.mk ((by rw [hg]; exact (below_size q2_) : w.heap.size ≤ gb219)); have GE219 := Aside0.mk ((by rw [hg]; exact (below_size q2_) : w.heap.size ≤ gb219)); replace HB := Aside0.mk (below_step q2_ hb); clear hb hbox hg; obtain ⟨hcz7_0, hcz7_1, hcz7_2, hcz7_3, hfz7_0, hfz7_1, hfz7_2, hfz7_3⟩ := cells4_ BK219.out) | (go_at_call 36; (with_reducible refine (skiffref1_ImageOf.calls a0 a1_0 a1_1 a1_2 a1_3 t220 t221 _ A3.out).mono ?_); rintro e w8 ⟨rfl, hb⟩; replace BK219 := Aside0.mk (blk_below (g := gb219) q102_ hb); replace HB := Aside0.mk (below_step q79_ hb); (try clear hb); (try clear hb2); (try clear hk); (try clear hi)) | (go_at_call 18; (with_reducible refine (skiffref1_Crc.calls k t220 t222 _ A5.out).mono ?_); rintro e w' ⟨rfl, ⟨nd, rfl⟩⟩; (try first | exact ⟨rfl, _, World.drewN_drewN _ _ _⟩ | exact ⟨rfl, _, Eq.trans (World.drewN_drewN _ _ _) (congrArg (World.drewN _) (Nat.add_assoc _ _ _))⟩); obtain ⟨hcz9_0, hcz9_1, hcz9_2, hcz9_3, hfz9_0, hfz9_1, hfz9_2, hfz9_3⟩ := cells4_ BK219.out)); try go_wp2_with (first | ((with_reducible refine gate_dst (N := 3) rfl ?_); refine box_event ?hg (N := 3) ?hd (cs := #[.int .i64 a1_0, .int .i64 a1_1, .int .i64 a1_2, .int .i64 a1_3]) (t := 23) ?hr ?_; (case hd => rfl); (case hg => rfl); (case hr => first | (go_simp; done) | (go_simp; rfl)); intro gb219 hg w6 hbox hb; have BK219 := Aside0.mk (hbox); have GW219 := Aside0.mk ((by rw [hg]; exact (below_size q2_) : w.heap.size ≤ gb219)); have GE219 := Aside0.mk ((by rw [hg]; exact (below_size q2_) : w.heap.size ≤ gb219)); replace HB := Aside0.mk (below_step q2_ hb); clear hb hbox hg; obtain ⟨hcz7_0, hcz7_1, hcz7_2, hcz7_3, hfz7_0, hfz7_1, hfz7_2, hfz7_3⟩ := cells4_ BK219.out) | (go_at_call 36; (with_reducible refine (skiffref1_ImageOf.calls a0 a1_0 a1_1 a1_2 a1_3 t220 t221 _ A3.out).mono ?_); rintro e w8 ⟨rfl, hb⟩; replace BK219 := Aside0.mk (blk_below (g := gb219) q102_ hb); replace HB := Aside0.mk (below_step q79_ hb); (try clear hb); (try clear hb2); (try clear hk); (try clear hi)) | (go_at_call 18; (with_reducible refine (skiffref1_Crc.calls k t220 t222 _ A5.out).mono ?_); rintro e w' ⟨rfl, ⟨nd, rfl⟩⟩; (try first | exact ⟨rfl, _, World.drewN_drewN _ _ _⟩ | exact ⟨rfl, _, Eq.trans (World.drewN_drewN _ _ _) (congrArg (World.drewN _) (Nat.add_assoc _ _ _))⟩); obtain ⟨hcz9_0, hcz9_1, hcz9_2, hcz9_3, hfz9_0, hfz9_1, hfz9_2, hfz9_3⟩ := cells4_ BK219.out)))
 go_ret2
 exact ⟨by first | rfl | (simp [errW_none, errW_some] <;> rfl) | (simp [*, errW_none, errW_some] <;> rfl), by repeat (first | (with_reducible first | exact HB.out | apply below_alloc | apply pw_below_drewN | apply below_drew1 | refine below_set ?_ GE219.out) | exact HB.out)⟩
end Go.Proofs.Ytjadcjkjpkkmkaa.PAll
