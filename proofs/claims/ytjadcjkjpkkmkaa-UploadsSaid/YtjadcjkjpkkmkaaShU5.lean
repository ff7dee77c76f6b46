import Derived.Test.YtjadcjkjpkkmkaaShU4
theorem Go.Proofs.Ytjadcjkjpkkmkaa.sl1_ {α : Type} (l : List α) (i : Nat) (a : α) : l.toArray.setIfInBounds i a = (l.set i a).toArray := List.setIfInBounds_toArray ..
theorem Go.Proofs.Ytjadcjkjpkkmkaa.sl2_ {α : Type} (x a : α) (l : List α) : (x :: l).set 0 a = a :: l := rfl
theorem Go.Proofs.Ytjadcjkjpkkmkaa.sl3_ {α : Type} (x a : α) (l : List α) (n : Nat) : (x :: l).set (n + 1) a = x :: l.set n a := rfl
namespace Go.Proofs.Ytjadcjkjpkkmkaa.PAll
open Go.RowKit Go.Proofs.YtjadcjkjpkkmkaaW.PrintWords Go.Proofs.YtjadcjkjpkkmkaaW.PrintLast Go.Proofs.YtjadcjkjpkkmkaaW.PrintMore
attribute [local go_sem] max2_int min2_int max_two min_two max_three min_three max_four min_four
set_option linter.unusedVariables false
set_option linter.unusedSimpArgs false
def skiffref1_Active.l0 : Nat → ByteArray → List (S25) → Int → Int → Option (Int × Int × Int × Int × Int × Int)
 | 0, _, _, _, _ => none
 | k + 1, x0, x4, x6, x7 => if x7 < (x4.length : Int) then (if 0 ≤ x7 then ((skiffref1_Good.f k x0 ((rd_T25 x4 x7).f1.f0) ((rd_T25 x4 x7).f1.f1) ((rd_T25 x4 x7).f1.f2) ((rd_T25 x4 x7).f1.f3)).bind fun bt229 => (if bt229.1 = true then (if x6 < 0 then (skiffref1_Active.l0 k x0 x4 x7 (wrap64 (x7 + 1))) else (if 0 ≤ x6 then (if x6 < (x4.length : Int) then (if ((rd_T25 x4 x7).f1.f0) ≥ ((rd_T25 x4 x6).f1.f0) then (skiffref1_Active.l0 k x0 x4 x7 (wrap64 (x7 + 1))) else (skiffref1_Active.l0 k x0 x4 x6 (wrap64 (x7 + 1)))) else (none)) else (none))) else (skiffref1_Active.l0 k x0 x4 x6 (wrap64 (x7 + 1))))) else (none)) else (if x6 < 0 then (some (0, 0, 0, 0, 0, 701)) else (if 0 ≤ x6 then (if x6 < (x4.length : Int) then (some ((rd_T25 x4 x6).f0, (rd_T25 x4 x6).f1.f0, (rd_T25 x4 x6).f1.f1, (rd_T25 x4 x6).f1.f2, (rd_T25 x4 x6).f1.f3, 0)) else (none)) else (none)))
def skiffref1_Active.f (k : Nat) (a0 : ByteArray) : Option (Int × Int × Int × Int × Int × Int) := (skiffref1_Scan.f k a0).bind fun bt224 => (if bt224.2 = 0 then (skiffref1_Active.l0 k a0 bt224.1 (-1) 0) else (some (0, 0, 0, 0, 0, 700)))
set_option maxHeartbeats 8000000 in
set_option maxRecDepth 100000 in
theorem skiffref1_Active.calls (k : Nat) (a0 : ByteArray) (r1 : Int) (r2 : Int) (r3 : Int) (r4 : Int) (r5 : Int) (r6 : Int) (w : World) (h : skiffref1_Active.f k a0 = some (r1, r2, r3, r4, r5, r6)) :
  Calls Try.prog 10 #[.string a0] w fun e w' => e = .returned (.tuple #[.agg #[.int .i64 r1, .int .i64 r2, .int .i64 r3, .int .i64 r4, .int .i64 r5], .int .i64 r6]) ∧ Below w.heap.size w w' := by
 have hu25 := Try.underlying25
 have hu23 := Try.underlying23
 have HB := Aside0.mk (Below.refl w.heap.size w)
 have H : ((skiffref1_Scan.f k a0).bind fun bt224 => (if bt224.2 = 0 then (skiffref1_Active.l0 k a0 bt224.1 (-1) 0) else (some (0, 0, 0, 0, 0, 700)))) = some (r1, r2, r3, r4, r5, r6) := h
 clear h
 replace H := Option.bind_eq_some_iff.mp H
 obtain ⟨⟨t224, t225⟩, A20, H⟩ := H
 (try dsimp only at H)
 have A2 := Aside0.mk A20
 clear A20
 by_cases c3 : t225 = 0
 rotate_left
 ·rw [if_neg c3] at H
  have c3b0 : (t225 == 0) = false := beq_eq_false_iff_ne.mpr c3
  have c3b1 : (t225 != 0) = true := bne_iff_ne.mpr c3
  simp only [Option.some.injEq, Prod.mk.injEq] at H
  obtain ⟨rfl, rfl, rfl, rfl, rfl, rfl⟩ := H
  go_enter Try.func10, Try.ntmps10
  go_wp2_with (first | ((with_reducible refine gate_dst (N := 2) rfl ?_); refine box_event ?hg (N := 2) ?hd (cs := #[.int .i64 0, .int .i64 0, .int .i64 0, .int .i64 0, .int .i64 0]) (t := 25) ?hr ?_; (case hd => rfl); (case hg => rfl); (case hr => first | (go_simp; done) | (go_simp; rfl)); intro gb223 hg w29 hbox hb; have BK223 := Aside0.mk (hbox); have GW223 := Aside0.mk ((by rw [hg]; exact (below_size q2_) : w.heap.size ≤ gb223)); have GE223 := Aside0.mk ((by rw [hg]; exact (below_size q2_) : w.heap.size ≤ gb223)); replace HB := Aside0.mk (below_step q2_ hb); clear hb hbox hg) | (go_at_call 15; (with_reducible refine (skiffref1_Scan.calls k a0 t224 t225 _ A2.out).mono ?_); rintro e w30 ⟨v226, rfl, ho0, hb⟩; have HO227 := Aside0.mk (Kd.R_lower (Kd.R_newB ho0 (g := gb223) (o := .cells #[.int .i64 0, .int .i64 0, .int .i64 0, .int .i64 0, .int .i64 0] 25 (0, 0)) q22_) (below_size q18_)); replace BK223 := Aside0.mk (blk_below (g := gb223) q22_ hb); replace HB := Aside0.mk (below_step q18_ hb); (try clear hb); (try clear hb2); (try clear hk); (try clear hi); (try clear ho0); obtain ⟨hcz31_0, hcz31_1, hcz31_2, hcz31_3, hcz31_4, hfz31_0, hfz31_1, hfz31_2, hfz31_3, hfz31_4⟩ := cells5_ BK223.out))
  repeat (go_quiet (first | ((with_reducible refine gate_dst (N := 2) rfl ?_); refine box_event ?hg (N := 2) ?hd (cs := #[.int .i64 0, .int .i64 0, .int .i64 0, .int .i64 0, .int .i64 0]) (t := 25) ?hr ?_; (case hd => rfl); (case hg => rfl); (case hr => first | (go_simp; done) | (go_simp; rfl)); intro gb223 hg w29 hbox hb; have BK223 := Aside0.mk (hbox); have GW223 := Aside0.mk ((by rw [hg]; exact (below_size q2_) : w.heap.size ≤ gb223)); have GE223 := Aside0.mk ((by rw [hg]; exact (below_size q2_) : w.heap.size ≤ gb223)); replace HB := Aside0.mk (below_step q2_ hb); clear hb hbox hg) | (go_at_call 15; (with_reducible refine (skiffref1_Scan.calls k a0 t224 t225 _ A2.out).mono ?_); rintro e w30 ⟨v226, rfl, ho0, hb⟩; have HO227 := Aside0.mk (Kd.R_lower (Kd.R_newB ho0 (g := gb223) (o := .cells #[.int .i64 0, .int .i64 0, .int .i64 0, .int .i64 0, .int .i64 0] 25 (0, 0)) q22_) (below_size q18_)); replace BK223 := Aside0.mk (blk_below (g := gb223) q22_ hb); replace HB := Aside0.mk (below_step q18_ hb); (try clear hb); (try clear hb2); (try clear hk); (try clear hi); (try clear ho0); obtain ⟨hcz31_0, hcz31_1, hcz31_2, hcz31_3, hcz31_4, hfz31_0, hfz31_1, hfz31_2, hfz31_3, hfz31_4⟩ := cells5_ BK223.out)); try go_wp2_with (first | ((with_reducible refine gate_dst (N := 2) rfl ?_); refine box_event ?hg (N := 2) ?hd (cs := #[.int .i64 0, .int .i64 0, .int .i64 0, .int .i64 0, .int .i64 0]) (t := 25) ?hr ?_; (case hd => rfl); (case hg => rfl); (case hr => first | (go_simp; done) | (go_simp; rfl)); intro gb223 hg w29 hbox hb; have BK223 := Aside0.mk (hbox); have GW223 := Aside0.mk ((by rw [hg]; exact (below_size q2_) : w.heap.size ≤ gb223)); have GE223 := Aside0.mk ((by rw [hg]; exact (below_size q2_) : w.heap.size ≤ gb223)); replace HB := Aside0.mk (below_step q2_ hb); clear hb hbox hg) | (go_at_call 15; (with_reducible refine (skiffref1_Scan.calls k a0 t224 t225 _ A2.out).mono ?_); rintro e w30 ⟨v226, rfl, ho0, hb⟩; have HO227 := Aside0.mk (Kd.R_lower (Kd.R_newB ho0 (g := gb223) (o := .cells #[.int .i64 0, .int .i64 0, .int .i64 0, .int .i64 0, .int .i64 0] 25 (0, 0)) q22_) (below_size q18_)); replace BK223 := Aside0.mk (blk_below (g := gb223) q22_ hb); replace HB := Aside0.mk (below_step q18_ hb); (try clear hb); (try clear hb2); (try clear hk); (try clear hi); (try clear ho0); obtain ⟨hcz31_0, hcz31_1, hcz31_2, hcz31_3, hcz31_4, hfz31_0, hfz31_1, hfz31_2, hfz31_3, hfz31_4⟩ := cells5_ BK223.out)))
  refine bodyPost_ret (results_ct rfl _ _ gb223 25 #[.int .i64 0, .int .i64 0, .int .i64 0, .int .i64 0, .int .i64 0] (0, 0) _ rfl q93_ Try.underlying25 rfl (by kernel_rfl)) rfl ?_
  exact ⟨by first | rfl | (simp [errW_none, errW_some] <;> rfl) | (simp [*, errW_none, errW_some] <;> rfl), by repeat (first | (with_reducible first | exact HB.out | apply below_alloc | apply pw_below_drewN | apply below_drew1 | refine below_set ?_ GE223.out) | exact HB.out)⟩
 rw [if_pos c3] at H
 have c3b0 : (t225 == 0) = true := beq_iff_eq.mpr c3
 have c3b1 : (t225 != 0) = false := bne_eq_false_iff_eq.mpr c3
 clear c3
 have H' := Aside0.mk H
 clear H
 go_enter Try.func10, Try.ntmps10
 go_wp2_with (first | ((with_reducible refine gate_dst (N := 2) rfl ?_); refine box_event ?hg (N := 2) ?hd (cs := #[.int .i64 0, .int .i64 0, .int .i64 0, .int .i64 0, .int .i64 0]) (t := 25) ?hr ?_; (case hd => rfl); (case hg => rfl); (case hr => first | (go_simp; done) | (go_simp; rfl)); intro gb223 hg w4 hbox hb; have BK223 := Aside0.mk (hbox); have GW223 := Aside0.mk ((by rw [hg]; exact (below_size q2_) : w.heap.size ≤ gb223)); have GE223 := Aside0.mk ((by rw [hg]; exact (below_size q2_) : w.heap.size ≤ gb223)); replace HB := Aside0.mk (below_step q2_ hb); clear hb hbox hg) | (go_at_call 15; (with_reducible refine (skiffref1_Scan.calls k a0 t224 t225 _ A2.out).mono ?_); rintro e w5 ⟨v226, rfl, ho0, hb⟩; have HO227 := Aside0.mk (Kd.R_lower (Kd.R_newB ho0 (g := gb223) (o := .cells #[.int .i64 0, .int .i64 0, .int .i64 0, .int .i64 0, .int .i64 0] 25 (0, 0)) q22_) (below_size q18_)); replace BK223 := Aside0.mk (blk_below (g := gb223) q22_ hb); replace HB := Aside0.mk (below_step q18_ hb); (try clear hb); (try clear hb2); (try clear hk); (try clear hi); (try clear ho0)))
 repeat (go_quiet (first | ((with_reducible refine gate_dst (N := 2) rfl ?_); refine box_event ?hg (N := 2) ?hd (cs := #[.int .i64 0, .int .i64 0, .int .i64 0, .int .i64 0, .int .i64 0]) (t := 25) ?hr ?_; (case hd => rfl); (case hg => rfl); (case hr => first | (go_simp; done) | (go_simp; rfl)); intro gb223 hg w4 hbox hb; have BK223 := Aside0.mk (hbox); have GW223 := Aside0.mk ((by rw [hg]; exact (below_size q2_) : w.heap.size ≤ gb223)); have GE223 := Aside0.mk ((by rw [hg]; exact (below_size q2_) : w.heap.size ≤ gb223)); replace HB := Aside0.mk (below_step q2_ hb); clear hb hbox hg) | (go_at_call 15; (with_reducible refine (skiffref1_Scan.calls k a0 t224 t225 _ A2.out).mono ?_); rintro e w5 ⟨v226, rfl, ho0, hb⟩; have HO227 := Aside0.mk (Kd.R_lower (Kd.R_newB ho0 (g := gb223) (o := .cells #[.int .i64 0, .int .i64 0, .int .i64 0, .int .i64 0, .int .i64 0] 25 (0, 0)) q22_) (below_size q18_)); replace BK223 := Aside0.mk (blk_below (g := gb223) q22_ hb); replace HB := Aside0.mk (below_step q18_ hb); (try clear hb); (try clear hb2); (try clear hk); (try clear hi); (try clear ho0))); try go_wp2_with (first | ((with_reducible refine gate_dst (N := 2) rfl ?_); refine box_event ?hg (N := 2) ?hd (cs := #[.int .i64 0, .int .i64 0, .int .i64 0, .int .i64 0, .int .i64 0]) (t := 25) ?hr ?_; (case hd => rfl); (case hg => rfl); (case hr => first | (go_simp; done) | (go_simp; rfl)); intro gb223 hg w4 hbox hb; have BK223 := Aside0.mk (hbox); have GW223 := Aside0.mk ((by rw [hg]; exact (below_size q2_) : w.heap.size ≤ gb223)); have GE223 := Aside0.mk ((by rw [hg]; exact (below_size q2_) : w.heap.size ≤ gb223)); replace HB := Aside0.mk (below_step q2_ hb); clear hb hbox hg) | (go_at_call 15; (with_reducible refine (skiffref1_Scan.calls k a0 t224 t225 _ A2.out).mono ?_); rintro e w5 ⟨v226, rfl, ho0, hb⟩; have HO227 := Aside0.mk (Kd.R_lower (Kd.R_newB ho0 (g := gb223) (o := .cells #[.int .i64 0, .int .i64 0, .int .i64 0, .int .i64 0, .int .i64 0] 25 (0, 0)) q22_) (below_size q18_)); replace BK223 := Aside0.mk (blk_below (g := gb223) q22_ hb); replace HB := Aside0.mk (below_step q18_ hb); (try clear hb); (try clear hb2); (try clear hk); (try clear hi); (try clear ho0))))
 go_loopg [6, 7] k (fun kq v6 v7 w' => ∃ (x6_1 : Int) (x7_1 : Int), v6 = .int .i64 x6_1 ∧ v7 = .int .i64 x7_1 ∧ Aside0 (skiffref1_Active.l0 kq a0 t224 x6_1 x7_1 = some (r1, r2, r3, r4, r5, r6)) ∧ Aside0 (kq ≤ k) ∧ Aside0 (Kd.R k25 25 w' w.heap.size (fun k_ => k_ ≠ gb223) v226 t224) ∧ Aside0 (w'.heap[gb223]? = some (.cells #[.int .i64 0, .int .i64 0, .int .i64 0, .int .i64 0, .int .i64 0] 25 (0, 0))) ∧ Aside0 (Below w.heap.size w w'))
 case atStart => exact ⟨((-1)), (0), q17_, q17_, H', ⟨Nat.le_refl _⟩, ⟨by (with_reducible repeat (first | apply Kd.R_alloc | apply Kd.R_drewN | apply Kd.R_drew)); exact Kd.R_mono HO227.out (fun _ hk => hk.2)⟩, ⟨by (with_reducible repeat (first | refine blk_drewN ?_ _ | refine blk_drew ?_ | refine blk_alloc ?_ _)); exact BK223.out⟩, ⟨by repeat (first | (with_reducible first | exact HB.out | apply below_alloc | apply pw_below_drewN | apply below_drew1 | refine below_set ?_ GE223.out) | exact HB.out)⟩⟩
 case round =>
  clear H'
  try clear c1
  try clear p2
  try clear c3
  try clear c3b0
  try clear c3b1
  obtain ⟨x6_1, x7_1, rfl, rfl, HA, HK1, HO_4, BK223, HB⟩ := hrel
  cases gk with
  | zero => exact absurd HA.out (by simp [skiffref1_Active.l0])
  | succ k1 =>
   have H := HA.out
   clear HA
   simp only [skiffref1_Active.l0] at H
   by_cases c6 : x7_1 < (t224.length : Int)
   rotate_left
   ·rw [if_neg c6] at H
    have c6b0 : decide (x7_1 < (t224.length : Int)) = false := decide_eq_false c6
    clear c6
    by_cases c22 : x6_1 < 0
    ·rw [if_pos c22] at H
     have c22b0 : decide (x6_1 < 0) = true := decide_eq_true c22
     clear c22
     simp only [Option.some.injEq, Prod.mk.injEq] at H
     obtain ⟨rfl, rfl, rfl, rfl, rfl, rfl⟩ := H
     obtain ⟨Ao23, co23, eo23⟩ := Kd.R_slice HO_4.out
     subst eo23
     obtain ⟨hcz24_0, hcz24_1, hcz24_2, hcz24_3, hcz24_4, hfz24_0, hfz24_1, hfz24_2, hfz24_3, hfz24_4⟩ := cells5_ BK223.out
     go_wp2
     repeat (go_quiet (fail); try go_wp2)
     refine bodyPost_ret (results_ct rfl _ _ gb223 25 #[.int .i64 0, .int .i64 0, .int .i64 0, .int .i64 0, .int .i64 0] (0, 0) _ rfl q93_ Try.underlying25 rfl (by kernel_rfl)) rfl ?_
     exact ⟨by first | rfl | (simp [errW_none, errW_some] <;> rfl) | (simp [*, errW_none, errW_some] <;> rfl), by repeat (first | (with_reducible first | exact HB.out | apply below_alloc | apply pw_below_drewN | apply below_drew1 | refine below_set ?_ GE223.out) | exact HB.out)⟩
    rw [if_neg c22] at H
    have c22b0 : decide (x6_1 < 0) = false := decide_eq_false c22
    clear c22
    by_cases c25 : 0 ≤ x6_1
    rotate_left
    ·rw [if_neg c25] at H
     exact absurd H (by simp)
    rw [if_pos c25] at H
    have c25b0 : decide (0 ≤ x6_1) = true := decide_eq_true c25
    clear c25
    by_cases c26 : x6_1 < (t224.length : Int)
    rotate_left
    ·rw [if_neg c26] at H
     exact absurd H (by simp)
    rw [if_pos c26] at H
    have c26b0 : decide (x6_1 < (t224.length : Int)) = true := decide_eq_true c26
    clear c26
    simp only [Option.some.injEq, Prod.mk.injEq] at H
    obtain ⟨rfl, rfl, rfl, rfl, rfl, rfl⟩ := H
    obtain ⟨Ao27, co27, eo27⟩ := Kd.R_slice HO_4.out
    subst eo27
    have p233 : 0 ≤ (x6_1 : Int) := of_decide_eq_true q16_
    have q233 : x6_1 < (t224.length : Int) := of_decide_eq_true q16_
    obtain ⟨ad233, e233, hx233_0, hx233_1, hx233_2, hx233_3, hx233_4⟩ := at_T25 (Kd.R_reads' HO_4.out).2.2 x6_1 p233 q233
    cases e233
    replace p233 := eq_true p233
    replace q233 := eq_true q233
    obtain ⟨hcz28_0, hcz28_1, hcz28_2, hcz28_3, hcz28_4, hfz28_0, hfz28_1, hfz28_2, hfz28_3, hfz28_4⟩ := cells5_ BK223.out
    go_wp2
    repeat (go_quiet (fail); try go_wp2)
    refine bodyPost_ret (results_ct rfl _ _ gb223 25 #[.int .i64 ((rd_T25 t224 x6_1).f0), .int .i64 ((rd_T25 t224 x6_1).f1.f0), .int .i64 ((rd_T25 t224 x6_1).f1.f1), .int .i64 ((rd_T25 t224 x6_1).f1.f2), .int .i64 ((rd_T25 t224 x6_1).f1.f3)] (0, 0) _ rfl q93_ Try.underlying25 rfl (by kernel_rfl)) rfl ?_
    exact ⟨by first | rfl | (simp [errW_none, errW_some] <;> rfl) | (simp [*, errW_none, errW_some] <;> rfl), by repeat (first | (with_reducible first | exact HB.out | apply below_alloc | apply pw_below_drewN | apply below_drew1 | refine below_set ?_ GE223.out) | exact HB.out)⟩
   rw [if_pos c6] at H
   have c6b0 : decide (x7_1 < (t224.length : Int)) = true := decide_eq_true c6
   clear c6
   by_cases c7 : 0 ≤ x7_1
   rotate_left
   ·rw [if_neg c7] at H
    exact absurd H (by simp)
   rw [if_pos c7] at H
   have c7b0 : decide (0 ≤ x7_1) = true := decide_eq_true c7
   clear c7
   replace H := Option.bind_eq_some_iff.mp H
   obtain ⟨⟨t229, t230⟩, A80, H⟩ := H
   (try dsimp only at H)
   have A8 := Aside0.mk A80
   clear A80
   by_cases c9 : t229 = true
   rotate_left
   ·replace c9 := Bool.eq_false_iff.mpr c9
    subst c9
    have H1 : (skiffref1_Active.l0 k1 a0 t224 x6_1 (wrap64 (x7_1 + 1))) = some (r1, r2, r3, r4, r5, r6) := by rw [if_neg (show ¬ (false = true) by decide)] at H; exact H
    clear H
    have H := H1
    clear H1
    have H' := Aside0.mk H
    clear H
    obtain ⟨Ao20, co20, eo20⟩ := Kd.R_slice HO_4.out
    subst eo20
    have p228 : 0 ≤ (x7_1 : Int) := of_decide_eq_true q16_
    have q228 : x7_1 < (t224.length : Int) := of_decide_eq_true q16_
    obtain ⟨ad228, e228, hx228_0, hx228_1, hx228_2, hx228_3, hx228_4⟩ := at_T25 (Kd.R_reads' HO_4.out).2.2 x7_1 p228 q228
    cases e228
    replace p228 := eq_true p228
    replace q228 := eq_true q228
    go_wp2_with (first | (go_at_call 16; (with_reducible refine (skiffref1_Good.calls k1 a0 ((rd_T25 t224 x7_1).f1.f0) ((rd_T25 t224 x7_1).f1.f1) ((rd_T25 t224 x7_1).f1.f2) ((rd_T25 t224 x7_1).f1.f3) false t230 _ A8.out).mono ?_); rintro e w21 ⟨rfl, hb⟩; replace HO_4 := Aside0.mk (Kd.R_below q27_ hb); replace BK223 := Aside0.mk (blk_below (g := gb223) q22_ hb); replace HB := Aside0.mk (below_step q18_ hb); (try clear hb); (try clear hb2); (try clear hk); (try clear hi)))
    repeat (go_quiet (first | (go_at_call 16; (with_reducible refine (skiffref1_Good.calls k1 a0 ((rd_T25 t224 x7_1).f1.f0) ((rd_T25 t224 x7_1).f1.f1) ((rd_T25 t224 x7_1).f1.f2) ((rd_T25 t224 x7_1).f1.f3) false t230 _ A8.out).mono ?_); rintro e w21 ⟨rfl, hb⟩; replace HO_4 := Aside0.mk (Kd.R_below q27_ hb); replace BK223 := Aside0.mk (blk_below (g := gb223) q22_ hb); replace HB := Aside0.mk (below_step q18_ hb); (try clear hb); (try clear hb2); (try clear hk); (try clear hi))); try go_wp2_with (first | (go_at_call 16; (with_reducible refine (skiffref1_Good.calls k1 a0 ((rd_T25 t224 x7_1).f1.f0) ((rd_T25 t224 x7_1).f1.f1) ((rd_T25 t224 x7_1).f1.f2) ((rd_T25 t224 x7_1).f1.f3) false t230 _ A8.out).mono ?_); rintro e w21 ⟨rfl, hb⟩; replace HO_4 := Aside0.mk (Kd.R_below q27_ hb); replace BK223 := Aside0.mk (blk_below (g := gb223) q22_ hb); replace HB := Aside0.mk (below_step q18_ hb); (try clear hb); (try clear hb2); (try clear hk); (try clear hi))))
    go_roundg k1
    case measure => have := HK1.out; omega
    case rel => exact ⟨(x6_1), (wrap64 (x7_1 + 1)), q17_, q17_, H', ⟨by have := HK1.out; omega⟩, ⟨by (with_reducible repeat (first | apply Kd.R_alloc | apply Kd.R_drewN | apply Kd.R_drew)); exact HO_4.out⟩, ⟨by (with_reducible repeat (first | refine blk_drewN ?_ _ | refine blk_drew ?_ | refine blk_alloc ?_ _)); exact BK223.out⟩, ⟨by repeat (first | (with_reducible first | exact HB.out | apply below_alloc | apply pw_below_drewN | apply below_drew1 | refine below_set ?_ GE223.out) | exact HB.out)⟩⟩
   subst c9
   have H1 : (if x6_1 < 0 then (skiffref1_Active.l0 k1 a0 t224 x7_1 (wrap64 (x7_1 + 1))) else (if 0 ≤ x6_1 then (if x6_1 < (t224.length : Int) then (if ((rd_T25 t224 x7_1).f1.f0) ≥ ((rd_T25 t224 x6_1).f1.f0) then (skiffref1_Active.l0 k1 a0 t224 x7_1 (wrap64 (x7_1 + 1))) else (skiffref1_Active.l0 k1 a0 t224 x6_1 (wrap64 (x7_1 + 1)))) else (none)) else (none))) = some (r1, r2, r3, r4, r5, r6) := by rw [if_pos rfl] at H; exact H
   clear H
   have H := H1
   clear H1
   by_cases c10 : x6_1 < 0
   ·rw [if_pos c10] at H
    have c10b0 : decide (x6_1 < 0) = true := decide_eq_true c10
    clear c10
    have H' := Aside0.mk H
    clear H
    obtain ⟨Ao11, co11, eo11⟩ := Kd.R_slice HO_4.out
    subst eo11
    have p228 : 0 ≤ (x7_1 : Int) := of_decide_eq_true q16_
    have q228 : x7_1 < (t224.length : Int) := of_decide_eq_true q16_
    obtain ⟨ad228, e228, hx228_0, hx228_1, hx228_2, hx228_3, hx228_4⟩ := at_T25 (Kd.R_reads' HO_4.out).2.2 x7_1 p228 q228
    cases e228
    replace p228 := eq_true p228
    replace q228 := eq_true q228
    go_wp2_with (first | (go_at_call 16; (with_reducible refine (skiffref1_Good.calls k1 a0 ((rd_T25 t224 x7_1).f1.f0) ((rd_T25 t224 x7_1).f1.f1) ((rd_T25 t224 x7_1).f1.f2) ((rd_T25 t224 x7_1).f1.f3) true t230 _ A8.out).mono ?_); rintro e w12 ⟨rfl, hb⟩; replace HO_4 := Aside0.mk (Kd.R_below q27_ hb); replace BK223 := Aside0.mk (blk_below (g := gb223) q22_ hb); replace HB := Aside0.mk (below_step q18_ hb); (try clear hb); (try clear hb2); (try clear hk); (try clear hi)))
    repeat (go_quiet (first | (go_at_call 16; (with_reducible refine (skiffref1_Good.calls k1 a0 ((rd_T25 t224 x7_1).f1.f0) ((rd_T25 t224 x7_1).f1.f1) ((rd_T25 t224 x7_1).f1.f2) ((rd_T25 t224 x7_1).f1.f3) true t230 _ A8.out).mono ?_); rintro e w12 ⟨rfl, hb⟩; replace HO_4 := Aside0.mk (Kd.R_below q27_ hb); replace BK223 := Aside0.mk (blk_below (g := gb223) q22_ hb); replace HB := Aside0.mk (below_step q18_ hb); (try clear hb); (try clear hb2); (try clear hk); (try clear hi))); try go_wp2_with (first | (go_at_call 16; (with_reducible refine (skiffref1_Good.calls k1 a0 ((rd_T25 t224 x7_1).f1.f0) ((rd_T25 t224 x7_1).f1.f1) ((rd_T25 t224 x7_1).f1.f2) ((rd_T25 t224 x7_1).f1.f3) true t230 _ A8.out).mono ?_); rintro e w12 ⟨rfl, hb⟩; replace HO_4 := Aside0.mk (Kd.R_below q27_ hb); replace BK223 := Aside0.mk (blk_below (g := gb223) q22_ hb); replace HB := Aside0.mk (below_step q18_ hb); (try clear hb); (try clear hb2); (try clear hk); (try clear hi))))
    go_roundg k1
    case measure => have := HK1.out; omega
    case rel => exact ⟨(x7_1), (wrap64 (x7_1 + 1)), q17_, q17_, H', ⟨by have := HK1.out; omega⟩, ⟨by (with_reducible repeat (first | apply Kd.R_alloc | apply Kd.R_drewN | apply Kd.R_drew)); exact HO_4.out⟩, ⟨by (with_reducible repeat (first | refine blk_drewN ?_ _ | refine blk_drew ?_ | refine blk_alloc ?_ _)); exact BK223.out⟩, ⟨by repeat (first | (with_reducible first | exact HB.out | apply below_alloc | apply pw_below_drewN | apply below_drew1 | refine below_set ?_ GE223.out) | exact HB.out)⟩⟩
   rw [if_neg c10] at H
   have c10b0 : decide (x6_1 < 0) = false := decide_eq_false c10
   clear c10
   by_cases c13 : 0 ≤ x6_1
   rotate_left
   ·rw [if_neg c13] at H
    exact absurd H (by simp)
   rw [if_pos c13] at H
   have c13b0 : decide (0 ≤ x6_1) = true := decide_eq_true c13
   clear c13
   by_cases c14 : x6_1 < (t224.length : Int)
   rotate_left
   ·rw [if_neg c14] at H
    exact absurd H (by simp)
   rw [if_pos c14] at H
   have c14b0 : decide (x6_1 < (t224.length : Int)) = true := decide_eq_true c14
   clear c14
   by_cases c15 : ((rd_T25 t224 x7_1).f1.f0) ≥ ((rd_T25 t224 x6_1).f1.f0)
   ·rw [if_pos c15] at H
    have c15b0 : decide (((rd_T25 t224 x6_1).f1.f0) ≤ ((rd_T25 t224 x7_1).f1.f0)) = true := decide_eq_true c15
    clear c15
    have H' := Aside0.mk H
    clear H
    obtain ⟨Ao16, co16, eo16⟩ := Kd.R_slice HO_4.out
    subst eo16
    have p228 : 0 ≤ (x7_1 : Int) := of_decide_eq_true q16_
    have q228 : x7_1 < (t224.length : Int) := of_decide_eq_true q16_
    obtain ⟨ad228, e228, hx228_0, hx228_1, hx228_2, hx228_3, hx228_4⟩ := at_T25 (Kd.R_reads' HO_4.out).2.2 x7_1 p228 q228
    cases e228
    replace p228 := eq_true p228
    replace q228 := eq_true q228
    go_wp2_with (first | (go_at_call 16; (with_reducible refine (skiffref1_Good.calls k1 a0 ((rd_T25 t224 x7_1).f1.f0) ((rd_T25 t224 x7_1).f1.f1) ((rd_T25 t224 x7_1).f1.f2) ((rd_T25 t224 x7_1).f1.f3) true t230 _ A8.out).mono ?_); rintro e w17 ⟨rfl, hb⟩; replace HO_4 := Aside0.mk (Kd.R_below q27_ hb); replace BK223 := Aside0.mk (blk_below (g := gb223) q22_ hb); replace HB := Aside0.mk (below_step q18_ hb); (try clear hb); (try clear hb2); (try clear hk); (try clear hi); have p231 : 0 ≤ (x7_1 : Int) := of_decide_eq_true q16_; have q231 : x7_1 < (t224.length : Int) := of_decide_eq_true q16_; obtain ⟨ad231, e231, hx231_0, hx231_1, hx231_2, hx231_3, hx231_4⟩ := at_T25 (Kd.R_reads' HO_4.out).2.2 x7_1 p231 q231; obtain rfl : ad228 = ad231 := (by injection e231); replace p231 := eq_true p231; replace q231 := eq_true q231; have p232 : 0 ≤ (x6_1 : Int) := of_decide_eq_true q16_; have q232 : x6_1 < (t224.length : Int) := of_decide_eq_true q16_; obtain ⟨ad232, e232, hx232_0, hx232_1, hx232_2, hx232_3, hx232_4⟩ := at_T25 (Kd.R_reads' HO_4.out).2.2 x6_1 p232 q232; obtain rfl : ad228 = ad232 := (by injection e232); replace p232 := eq_true p232; replace q232 := eq_true q232))
    repeat (go_quiet (first | (go_at_call 16; (with_reducible refine (skiffref1_Good.calls k1 a0 ((rd_T25 t224 x7_1).f1.f0) ((rd_T25 t224 x7_1).f1.f1) ((rd_T25 t224 x7_1).f1.f2) ((rd_T25 t224 x7_1).f1.f3) true t230 _ A8.out).mono ?_); rintro e w17 ⟨rfl, hb⟩; replace HO_4 := Aside0.mk (Kd.R_below q27_ hb); replace BK223 := Aside0.mk (blk_below (g := gb223) q22_ hb); replace HB := Aside0.mk (below_step q18_ hb); (try clear hb); (try clear hb2); (try clear hk); (try clear hi); have p231 : 0 ≤ (x7_1 : Int) := of_decide_eq_true q16_; have q231 : x7_1 < (t224.length : Int) := of_decide_eq_true q16_; obtain ⟨ad231, e231, hx231_0, hx231_1, hx231_2, hx231_3, hx231_4⟩ := at_T25 (Kd.R_reads' HO_4.out).2.2 x7_1 p231 q231; obtain rfl : ad228 = ad231 := (by injection e231); replace p231 := eq_true p231; replace q231 := eq_true q231; have p232 : 0 ≤ (x6_1 : Int) := of_decide_eq_true q16_; have q232 : x6_1 < (t224.length : Int) := of_decide_eq_true q16_; obtain ⟨ad232, e232, hx232_0, hx232_1, hx232_2, hx232_3, hx232_4⟩ := at_T25 (Kd.R_reads' HO_4.out).2.2 x6_1 p232 q232; obtain rfl : ad228 = ad232 := (by injection e232); replace p232 := eq_true p232; replace q232 := eq_true q232)); try go_wp2_with (first | (go_at_call 16; (with_reducible refine (skiffref1_Good.calls k1 a0 ((rd_T25 t224 x7_1).f1.f0) ((rd_T25 t224 x7_1).f1.f1) ((rd_T25 t224 x7_1).f1.f2) ((rd_T25 t224 x7_1).f1.f3) true t230 _ A8.out).mono ?_); rintro e w17 ⟨rfl, hb⟩; replace HO_4 := Aside0.mk (Kd.R_below q27_ hb); replace BK223 := Aside0.mk (blk_below (g := gb223) q22_ hb); replace HB := Aside0.mk (below_step q18_ hb); (try clear hb); (try clear hb2); (try clear hk); (try clear hi); have p231 : 0 ≤ (x7_1 : Int) := of_decide_eq_true q16_; have q231 : x7_1 < (t224.length : Int) := of_decide_eq_true q16_; obtain ⟨ad231, e231, hx231_0, hx231_1, hx231_2, hx231_3, hx231_4⟩ := at_T25 (Kd.R_reads' HO_4.out).2.2 x7_1 p231 q231; obtain rfl : ad228 = ad231 := (by injection e231); replace p231 := eq_true p231; replace q231 := eq_true q231; have p232 : 0 ≤ (x6_1 : Int) := of_decide_eq_true q16_; have q232 : x6_1 < (t224.length : Int) := of_decide_eq_true q16_; obtain ⟨ad232, e232, hx232_0, hx232_1, hx232_2, hx232_3, hx232_4⟩ := at_T25 (Kd.R_reads' HO_4.out).2.2 x6_1 p232 q232; obtain rfl : ad228 = ad232 := (by injection e232); replace p232 := eq_true p232; replace q232 := eq_true q232)))
    go_roundg k1
    case measure => have := HK1.out; omega
    case rel => exact ⟨(x7_1), (wrap64 (x7_1 + 1)), q17_, q17_, H', ⟨by have := HK1.out; omega⟩, ⟨by (with_reducible repeat (first | apply Kd.R_alloc | apply Kd.R_drewN | apply Kd.R_drew)); exact HO_4.out⟩, ⟨by (with_reducible repeat (first | refine blk_drewN ?_ _ | refine blk_drew ?_ | refine blk_alloc ?_ _)); exact BK223.out⟩, ⟨by repeat (first | (with_reducible first | exact HB.out | apply below_alloc | apply pw_below_drewN | apply below_drew1 | refine below_set ?_ GE223.out) | exact HB.out)⟩⟩
   rw [if_neg c15] at H
   have c15b0 : decide (((rd_T25 t224 x6_1).f1.f0) ≤ ((rd_T25 t224 x7_1).f1.f0)) = false := decide_eq_false c15
   clear c15
   have H' := Aside0.mk H
   clear H
   obtain ⟨Ao18, co18, eo18⟩ := Kd.R_slice HO_4.out
   subst eo18
   have p228 : 0 ≤ (x7_1 : Int) := of_decide_eq_true q16_
   have q228 : x7_1 < (t224.length : Int) := of_decide_eq_true q16_
   obtain ⟨ad228, e228, hx228_0, hx228_1, hx228_2, hx228_3, hx228_4⟩ := at_T25 (Kd.R_reads' HO_4.out).2.2 x7_1 p228 q228
   cases e228
   replace p228 := eq_true p228
   replace q228 := eq_true q228
   go_wp2_with (first | (go_at_call 16; (with_reducible refine (skiffref1_Good.calls k1 a0 ((rd_T25 t224 x7_1).f1.f0) ((rd_T25 t224 x7_1).f1.f1) ((rd_T25 t224 x7_1).f1.f2) ((rd_T25 t224 x7_1).f1.f3) true t230 _ A8.out).mono ?_); rintro e w19 ⟨rfl, hb⟩; replace HO_4 := Aside0.mk (Kd.R_below q27_ hb); replace BK223 := Aside0.mk (blk_below (g := gb223) q22_ hb); replace HB := Aside0.mk (below_step q18_ hb); (try clear hb); (try clear hb2); (try clear hk); (try clear hi); have p231 : 0 ≤ (x7_1 : Int) := of_decide_eq_true q16_; have q231 : x7_1 < (t224.length : Int) := of_decide_eq_true q16_; obtain ⟨ad231, e231, hx231_0, hx231_1, hx231_2, hx231_3, hx231_4⟩ := at_T25 (Kd.R_reads' HO_4.out).2.2 x7_1 p231 q231; obtain rfl : ad228 = ad231 := (by injection e231); replace p231 := eq_true p231; replace q231 := eq_true q231; have p232 : 0 ≤ (x6_1 : Int) := of_decide_eq_true q16_; have q232 : x6_1 < (t224.length : Int) := of_decide_eq_true q16_; obtain ⟨ad232, e232, hx232_0, hx232_1, hx232_2, hx232_3, hx232_4⟩ := at_T25 (Kd.R_reads' HO_4.out).2.2 x6_1 p232 q232; obtain rfl : ad228 = ad232 := (by injection e232); replace p232 := eq_true p232; replace q232 := eq_true q232))
   repeat (go_quiet (first | (go_at_call 16; (with_reducible refine (skiffref1_Good.calls k1 a0 ((rd_T25 t224 x7_1).f1.f0) ((rd_T25 t224 x7_1).f1.f1) ((rd_T25 t224 x7_1).f1.f2) ((rd_T25 t224 x7_1).f1.f3) true t230 _ A8.out).mono ?_); rintro e w19 ⟨rfl, hb⟩; replace HO_4 := Aside0.mk (Kd.R_below q27_ hb); replace BK223 := Aside0.mk (blk_below (g := gb223) q22_ hb); replace HB := Aside0.mk (below_step q18_ hb); (try clear hb); (try clear hb2); (try clear hk); (try clear hi); have p231 : 0 ≤ (x7_1 : Int) := of_decide_eq_true q16_; have q231 : x7_1 < (t224.length : Int) := of_decide_eq_true q16_; obtain ⟨ad231, e231, hx231_0, hx231_1, hx231_2, hx231_3, hx231_4⟩ := at_T25 (Kd.R_reads' HO_4.out).2.2 x7_1 p231 q231; obtain rfl : ad228 = ad231 := (by injection e231); replace p231 := eq_true p231; replace q231 := eq_true q231; have p232 : 0 ≤ (x6_1 : Int) := of_decide_eq_true q16_; have q232 : x6_1 < (t224.length : Int) := of_decide_eq_true q16_; obtain ⟨ad232, e232, hx232_0, hx232_1, hx232_2, hx232_3, hx232_4⟩ := at_T25 (Kd.R_reads' HO_4.out).2.2 x6_1 p232 q232; obtain rfl : ad228 = ad232 := (by injection e232); replace p232 := eq_true p232; replace q232 := eq_true q232)); try go_wp2_with (first | (go_at_call 16; (with_reducible refine (skiffref1_Good.calls k1 a0 ((rd_T25 t224 x7_1).f1.f0) ((rd_T25 t224 x7_1).f1.f1) ((rd_T25 t224 x7_1).f1.f2) ((rd_T25 t224 x7_1).f1.f3) true t230 _ A8.out).mono ?_); rintro e w19 ⟨rfl, hb⟩; replace HO_4 := Aside0.mk (Kd.R_below q27_ hb); replace BK223 := Aside0.mk (blk_below (g := gb223) q22_ hb); replace HB := Aside0.mk (below_step q18_ hb); (try clear hb); (try clear hb2); (try clear hk); (try clear hi); have p231 : 0 ≤ (x7_1 : Int) := of_decide_eq_true q16_; have q231 : x7_1 < (t224.length : Int) := of_decide_eq_true q16_; obtain ⟨ad231, e231, hx231_0, hx231_1, hx231_2, hx231_3, hx231_4⟩ := at_T25 (Kd.R_reads' HO_4.out).2.2 x7_1 p231 q231; obtain rfl : ad228 = ad231 := (by injection e231); replace p231 := eq_true p231; replace q231 := eq_true q231; have p232 : 0 ≤ (x6_1 : Int) := of_decide_eq_true q16_; have q232 : x6_1 < (t224.length : Int) := of_decide_eq_true q16_; obtain ⟨ad232, e232, hx232_0, hx232_1, hx232_2, hx232_3, hx232_4⟩ := at_T25 (Kd.R_reads' HO_4.out).2.2 x6_1 p232 q232; obtain rfl : ad228 = ad232 := (by injection e232); replace p232 := eq_true p232; replace q232 := eq_true q232)))
   go_roundg k1
   case measure => have := HK1.out; omega
   case rel => exact ⟨(x6_1), (wrap64 (x7_1 + 1)), q17_, q17_, H', ⟨by have := HK1.out; omega⟩, ⟨by (with_reducible repeat (first | apply Kd.R_alloc | apply Kd.R_drewN | apply Kd.R_drew)); exact HO_4.out⟩, ⟨by (with_reducible repeat (first | refine blk_drewN ?_ _ | refine blk_drew ?_ | refine blk_alloc ?_ _)); exact BK223.out⟩, ⟨by repeat (first | (with_reducible first | exact HB.out | apply below_alloc | apply pw_below_drewN | apply below_drew1 | refine below_set ?_ GE223.out) | exact HB.out)⟩⟩
def skiffref16_upTo.f (a0 : Int) (a1 : Int) (a2 : Int) : Option (Bool) := if a0 ≥ a1 then (some (decide (a0 ≤ a2))) else (some false)
set_option maxHeartbeats 8000000 in
set_option maxRecDepth 100000 in
theorem skiffref16_upTo.calls (a0 : Int) (a1 : Int) (a2 : Int) (r : Bool) (w : World) (h : skiffref16_upTo.f a0 a1 a2 = some r) :
  Calls Try.prog 55 #[.int .i64 a0, .int .i64 a1, .int .i64 a2] w fun e w' => e = .returned (.bool r) ∧ Drawn0 w w' := by
 have H : (if a0 ≥ a1 then (some (decide (a0 ≤ a2))) else (some false)) = some r := h
 clear h
 by_cases c4 : a0 ≥ a1
 ·rw [if_pos c4] at H
  have c4b0 : decide (a1 ≤ a0) = true := decide_eq_true c4
  clear c4
  obtain rfl := Option.some.inj H
  go_enter Try.func55, Try.ntmps55
  go_wp2
  go_ret
  exact ⟨by first | rfl | (simp; done) | (simp [*]; done), by repeat (first | exact Drawn0.refl _ | apply Drawn0.step)⟩
 rw [if_neg c4] at H
 have c4b0 : decide (a1 ≤ a0) = false := decide_eq_false c4
 clear c4
 obtain rfl := Option.some.inj H
 go_enter Try.func55, Try.ntmps55
 go_wp2
 go_ret
 exact ⟨by first | rfl | (simp; done) | (simp [*]; done), by repeat (first | exact Drawn0.refl _ | apply Drawn0.step)⟩
def skiffref1_wordAt.f (a0 : Int) : Option (Bool) := (PBase.skiffref1_upTo.f a0 0 764).bind fun t234 => (if t234 = true then (some ((Int.tmod a0 4) == 0)) else (some false))
set_option maxHeartbeats 8000000 in
set_option maxRecDepth 100000 in
theorem skiffref1_wordAt.calls (a0 : Int) (r : Bool) (w : World) (h : skiffref1_wordAt.f a0 = some r) :
  Calls Try.prog 41 #[.int .i64 a0] w fun e w' => e = .returned (.bool r) ∧ Drawn0 w w' := by
 have H : ((PBase.skiffref1_upTo.f a0 0 764).bind fun t234 => (if t234 = true then (some ((Int.tmod a0 4) == 0)) else (some false))) = some r := h
 clear h
 replace H := Option.bind_eq_some_iff.mp H
 obtain ⟨t234, A20, H⟩ := H
 (try dsimp only at H)
 have A2 := Aside0.mk A20
 clear A20
 by_cases c3 : t234 = true
 ·subst c3
  have H1 : (some ((Int.tmod a0 4) == 0)) = some r := by rw [if_pos rfl] at H; exact H
  clear H
  have H := H1
  clear H1
  obtain rfl := Option.some.inj H
  go_enter Try.func41, Try.ntmps41
  go_wp2_with (first | ((with_reducible refine gate_callee (f := 40) rfl ?_); refine goesL_ (some 4) rfl rfl Try.func40 (by kernel_rfl) rfl #[.int .i64 a0, .int .i64 0, .int .i64 764] rfl q1_ ?_; (with_reducible refine (PBase.skiffref1_upTo.calls a0 0 764 true _ A2.out).mono ?_); rintro e w' ⟨rfl, ⟨nd, rfl⟩⟩; refine ⟨_, rfl, ?_⟩))
  go_ret
  exact ⟨by first | rfl | (simp; done) | (simp [*]; done), by repeat (first | exact Drawn0.refl _ | apply Drawn0.step)⟩
 replace c3 := Bool.eq_false_iff.mpr c3
 subst c3
 have H1 : (some false) = some r := by rw [if_neg (show ¬ (false = true) by decide)] at H; exact H
 clear H
 have H := H1
 clear H1
 obtain rfl := Option.some.inj H
 go_enter Try.func41, Try.ntmps41
 go_wp2_with (first | ((with_reducible refine gate_callee (f := 40) rfl ?_); refine goesL_ (some 4) rfl rfl Try.func40 (by kernel_rfl) rfl #[.int .i64 a0, .int .i64 0, .int .i64 764] rfl q1_ ?_; (with_reducible refine (PBase.skiffref1_upTo.calls a0 0 764 false _ A2.out).mono ?_); rintro e w' ⟨rfl, ⟨nd, rfl⟩⟩; refine ⟨_, rfl, ?_⟩))
 go_ret
 exact ⟨by first | rfl | (simp; done) | (simp [*]; done), by repeat (first | exact Drawn0.refl _ | apply Drawn0.step)⟩
def skiffref1_OpMay.f (a0_0 : Bool) (a0_1 : Int) (a0_2 : ByteArray) : Option (Bool) := if a0_0 = true then ((PBase.skiffref1_upTo.f a0_1 0 672).bind fun t236 => (if t236 = true then (if (Int.tmod a0_1 96) = 0 then (some (a0_2.toList == ([] : List UInt8))) else (some false)) else (some false))) else ((skiffref1_wordAt.f a0_1).bind fun t237 => (if t237 = true then (some ((a0_2.size : Int) == 4)) else (some false)))
set_option maxHeartbeats 8000000 in
set_option maxRecDepth 100000 in
theorem skiffref1_OpMay.calls (a0_0 : Bool) (a0_1 : Int) (a0_2 : ByteArray) (r : Bool) (w : World) (h : skiffref1_OpMay.f a0_0 a0_1 a0_2 = some r) :
  Calls Try.prog 84 #[.agg #[.bool a0_0, .int .i64 a0_1, .string a0_2]] w fun e w' => e = .returned (.bool r) ∧ Below w.heap.size w w' := by
 have hu87 := Try.underlying87
 have HB := Aside0.mk (Below.refl w.heap.size w)
 have H : (if a0_0 = true then ((PBase.skiffref1_upTo.f a0_1 0 672).bind fun t236 => (if t236 = true then (if (Int.tmod a0_1 96) = 0 then (some (a0_2.toList == ([] : List UInt8))) else (some false)) else (some false))) else ((skiffref1_wordAt.f a0_1).bind fun t237 => (if t237 = true then (some ((a0_2.size : Int) == 4)) else (some false)))) = some r := h
 clear h
 by_cases c2 : a0_0 = true
 rotate_left
 ·replace c2 := Bool.eq_false_iff.mpr c2
  subst c2
  have H1 : ((skiffref1_wordAt.f a0_1).bind fun t237 => (if t237 = true then (some ((a0_2.size : Int) == 4)) else (some false))) = some r := by rw [if_neg (show ¬ (false = true) by decide)] at H; exact H
  clear H
  have H := H1
  clear H1
  replace H := Option.bind_eq_some_iff.mp H
  obtain ⟨t237, A120, H⟩ := H
  (try dsimp only at H)
  have A12 := Aside0.mk A120
  clear A120
  by_cases c13 : t237 = true
  ·subst c13
   have H1 : (some ((a0_2.size : Int) == 4)) = some r := by rw [if_pos rfl] at H; exact H
   clear H
   have H := H1
   clear H1
   obtain rfl := Option.some.inj H
   go_enter Try.func84, Try.ntmps84
   go_wp2_with (first | ((with_reducible refine gate_dst (N := 1) rfl ?_); (try (refine gate_guard (by rfl) ?_; dsimp only)); refine box_event ?hg (N := 1) ?hd (cs := #[.bool false, .int .i64 a0_1, .string a0_2]) (t := 87) ?hr ?_; (case hd => rfl); (case hg => rfl); (case hr => first | (go_simp; done) | (go_simp; rfl)); intro gb235 hg w14 hbox hb; have BK235 := Aside0.mk (hbox); have GW235 := Aside0.mk ((by rw [hg]; exact (below_size q2_) : w.heap.size ≤ gb235)); have GE235 := Aside0.mk ((by rw [hg]; exact (below_size q2_) : w.heap.size ≤ gb235)); replace HB := Aside0.mk (below_step q2_ hb); clear hb hbox hg; obtain ⟨hcz15_0, hcz15_1, hcz15_2, hfz15_0, hfz15_1, hfz15_2⟩ := cells3_ BK235.out) | ((with_reducible refine gate_callee (f := 41) rfl ?_); refine goesL_ (some 21) rfl rfl Try.func41 (by kernel_rfl) rfl #[.int .i64 a0_1] rfl q1_ ?_; (with_reducible refine (skiffref1_wordAt.calls a0_1 true _ A12.out).mono ?_); rintro e w' ⟨rfl, ⟨nd, rfl⟩⟩; refine ⟨_, rfl, ?_⟩))
   go_ret
   exact ⟨by first | rfl | (simp [errW_none, errW_some] <;> rfl) | (simp [*, errW_none, errW_some] <;> rfl), by repeat (first | (with_reducible first | exact HB.out | apply below_alloc | apply pw_below_drewN | apply below_drew1 | refine below_set ?_ GE235.out) | exact HB.out)⟩
  replace c13 := Bool.eq_false_iff.mpr c13
  subst c13
  have H1 : (some false) = some r := by rw [if_neg (show ¬ (false = true) by decide)] at H; exact H
  clear H
  have H := H1
  clear H1
  obtain rfl := Option.some.inj H
  go_enter Try.func84, Try.ntmps84
  go_wp2_with (first | ((with_reducible refine gate_dst (N := 1) rfl ?_); (try (refine gate_guard (by rfl) ?_; dsimp only)); refine box_event ?hg (N := 1) ?hd (cs := #[.bool false, .int .i64 a0_1, .string a0_2]) (t := 87) ?hr ?_; (case hd => rfl); (case hg => rfl); (case hr => first | (go_simp; done) | (go_simp; rfl)); intro gb235 hg w16 hbox hb; have BK235 := Aside0.mk (hbox); have GW235 := Aside0.mk ((by rw [hg]; exact (below_size q2_) : w.heap.size ≤ gb235)); have GE235 := Aside0.mk ((by rw [hg]; exact (below_size q2_) : w.heap.size ≤ gb235)); replace HB := Aside0.mk (below_step q2_ hb); clear hb hbox hg; obtain ⟨hcz17_0, hcz17_1, hcz17_2, hfz17_0, hfz17_1, hfz17_2⟩ := cells3_ BK235.out) | ((with_reducible refine gate_callee (f := 41) rfl ?_); refine goesL_ (some 21) rfl rfl Try.func41 (by kernel_rfl) rfl #[.int .i64 a0_1] rfl q1_ ?_; (with_reducible refine (skiffref1_wordAt.calls a0_1 false _ A12.out).mono ?_); rintro e w' ⟨rfl, ⟨nd, rfl⟩⟩; refine ⟨_, rfl, ?_⟩))
  go_ret
  exact ⟨by first | rfl | (simp [errW_none, errW_some] <;> rfl) | (simp [*, errW_none, errW_some] <;> rfl), by repeat (first | (with_reducible first | exact HB.out | apply below_alloc | apply pw_below_drewN | apply below_drew1 | refine below_set ?_ GE235.out) | exact HB.out)⟩
 subst c2
 have H1 : ((PBase.skiffref1_upTo.f a0_1 0 672).bind fun t236 => (if t236 = true then (if (Int.tmod a0_1 96) = 0 then (some (a0_2.toList == ([] : List UInt8))) else (some false)) else (some false))) = some r := by rw [if_pos rfl] at H; exact H
 clear H
 have H := H1
 clear H1
 replace H := Option.bind_eq_some_iff.mp H
 obtain ⟨t236, A30, H⟩ := H
 (try dsimp only at H)
 have A3 := Aside0.mk A30
 clear A30
 by_cases c4 : t236 = true
 rotate_left
 ·replace c4 := Bool.eq_false_iff.mpr c4
  subst c4
  have H1 : (some false) = some r := by rw [if_neg (show ¬ (false = true) by decide)] at H; exact H
  clear H
  have H := H1
  clear H1
  obtain rfl := Option.some.inj H
  go_enter Try.func84, Try.ntmps84
  go_wp2_with (first | ((with_reducible refine gate_dst (N := 1) rfl ?_); (try (refine gate_guard (by rfl) ?_; dsimp only)); refine box_event ?hg (N := 1) ?hd (cs := #[.bool true, .int .i64 a0_1, .string a0_2]) (t := 87) ?hr ?_; (case hd => rfl); (case hg => rfl); (case hr => first | (go_simp; done) | (go_simp; rfl)); intro gb235 hg w10 hbox hb; have BK235 := Aside0.mk (hbox); have GW235 := Aside0.mk ((by rw [hg]; exact (below_size q2_) : w.heap.size ≤ gb235)); have GE235 := Aside0.mk ((by rw [hg]; exact (below_size q2_) : w.heap.size ≤ gb235)); replace HB := Aside0.mk (below_step q2_ hb); clear hb hbox hg; obtain ⟨hcz11_0, hcz11_1, hcz11_2, hfz11_0, hfz11_1, hfz11_2⟩ := cells3_ BK235.out) | ((with_reducible refine gate_callee (f := 40) rfl ?_); refine goesL_ (some 7) rfl rfl Try.func40 (by kernel_rfl) rfl #[.int .i64 a0_1, .int .i64 0, .int .i64 672] rfl q1_ ?_; (with_reducible refine (PBase.skiffref1_upTo.calls a0_1 0 672 false _ A3.out).mono ?_); rintro e w' ⟨rfl, ⟨nd, rfl⟩⟩; refine ⟨_, rfl, ?_⟩))
  go_ret
  exact ⟨by first | rfl | (simp [errW_none, errW_some] <;> rfl) | (simp [*, errW_none, errW_some] <;> rfl), by repeat (first | (with_reducible first | exact HB.out | apply below_alloc | apply pw_below_drewN | apply below_drew1 | refine below_set ?_ GE235.out) | exact HB.out)⟩
 subst c4
 have H1 : (if (Int.tmod a0_1 96) = 0 then (some (a0_2.toList == ([] : List UInt8))) else (some false)) = some r := by rw [if_pos rfl] at H; exact H
 clear H
 have H := H1
 clear H1
 by_cases c5 : (Int.tmod a0_1 96) = 0
 rotate_left
 ·rw [if_neg c5] at H
  have c5b0 : ((Int.tmod a0_1 96) == 0) = false := beq_eq_false_iff_ne.mpr c5
  have c5b1 : ((Int.tmod a0_1 96) != 0) = true := bne_iff_ne.mpr c5
  obtain rfl := Option.some.inj H
  go_enter Try.func84, Try.ntmps84
  go_wp2_with (first | ((with_reducible refine gate_dst (N := 1) rfl ?_); (try (refine gate_guard (by rfl) ?_; dsimp only)); refine box_event ?hg (N := 1) ?hd (cs := #[.bool true, .int .i64 a0_1, .string a0_2]) (t := 87) ?hr ?_; (case hd => rfl); (case hg => rfl); (case hr => first | (go_simp; done) | (go_simp; rfl)); intro gb235 hg w8 hbox hb; have BK235 := Aside0.mk (hbox); have GW235 := Aside0.mk ((by rw [hg]; exact (below_size q2_) : w.heap.size ≤ gb235)); have GE235 := Aside0.mk ((by rw [hg]; exact (below_size q2_) : w.heap.size ≤ gb235)); replace HB := Aside0.mk (below_step q2_ hb); clear hb hbox hg; obtain ⟨hcz9_0, hcz9_1, hcz9_2, hfz9_0, hfz9_1, hfz9_2⟩ := cells3_ BK235.out) | ((with_reducible refine gate_callee (f := 40) rfl ?_); refine goesL_ (some 7) rfl rfl Try.func40 (by kernel_rfl) rfl #[.int .i64 a0_1, .int .i64 0, .int .i64 672] rfl q1_ ?_; (with_reducible refine (PBase.skiffref1_upTo.calls a0_1 0 672 true _ A3.out).mono ?_); rintro e w' ⟨rfl, ⟨nd, rfl⟩⟩; refine ⟨_, rfl, ?_⟩))
  go_ret
  exact ⟨by first | rfl | (simp [errW_none, errW_some] <;> rfl) | (simp [*, errW_none, errW_some] <;> rfl), by repeat (first | (with_reducible first | exact HB.out | apply below_alloc | apply pw_below_drewN | apply below_drew1 | refine below_set ?_ GE235.out) | exact HB.out)⟩
 rw [if_pos c5] at H
 have c5b0 : ((Int.tmod a0_1 96) == 0) = true := beq_iff_eq.mpr c5
 have c5b1 : ((Int.tmod a0_1 96) != 0) = false := bne_eq_false_iff_eq.mpr c5
 clear c5
 obtain rfl := Option.some.inj H
 go_enter Try.func84, Try.ntmps84
 go_wp2_with (first | ((with_reducible refine gate_dst (N := 1) rfl ?_); (try (refine gate_guard (by rfl) ?_; dsimp only)); refine box_event ?hg (N := 1) ?hd (cs := #[.bool true, .int .i64 a0_1, .string a0_2]) (t := 87) ?hr ?_; (case hd => rfl); (case hg => rfl); (case hr => first | (go_simp; done) | (go_simp; rfl)); intro gb235 hg w6 hbox hb; have BK235 := Aside0.mk (hbox); have GW235 := Aside0.mk ((by rw [hg]; exact (below_size q2_) : w.heap.size ≤ gb235)); have GE235 := Aside0.mk ((by rw [hg]; exact (below_size q2_) : w.heap.size ≤ gb235)); replace HB := Aside0.mk (below_step q2_ hb); clear hb hbox hg; obtain ⟨hcz7_0, hcz7_1, hcz7_2, hfz7_0, hfz7_1, hfz7_2⟩ := cells3_ BK235.out) | ((with_reducible refine gate_callee (f := 40) rfl ?_); refine goesL_ (some 7) rfl rfl Try.func40 (by kernel_rfl) rfl #[.int .i64 a0_1, .int .i64 0, .int .i64 672] rfl q1_ ?_; (with_reducible refine (PBase.skiffref1_upTo.calls a0_1 0 672 true _ A3.out).mono ?_); rintro e w' ⟨rfl, ⟨nd, rfl⟩⟩; refine ⟨_, rfl, ?_⟩))
 go_ret
 exact ⟨by first | rfl | (simp [errW_none, errW_some] <;> rfl) | (simp [*, errW_none, errW_some] <;> rfl), by repeat (first | (with_reducible first | exact HB.out | apply below_alloc | apply pw_below_drewN | apply below_drew1 | refine below_set ?_ GE235.out) | exact HB.out)⟩
def skiffref1_StateMay.f (a0 : Int) : Option (Bool) := (PBase.skiffref1_upTo.f a0 0 7).bind fun t238 => (some t238)
set_option maxHeartbeats 8000000 in
set_option maxRecDepth 100000 in
theorem skiffref1_StateMay.calls (a0 : Int) (r : Bool) (w : World) (h : skiffref1_StateMay.f a0 = some r) :
  Calls Try.prog 92 #[.int .i64 a0] w fun e w' => e = .returned (.bool r) ∧ Drawn0 w w' := by
 have H : ((PBase.skiffref1_upTo.f a0 0 7).bind fun t238 => (some t238)) = some r := h
 clear h
 replace H := Option.bind_eq_some_iff.mp H
 obtain ⟨t238, A20, H⟩ := H
 replace H : (some t238) = some r := H
 have A2 := Aside0.mk A20
 clear A20
 obtain rfl := Option.some.inj H
 go_enter Try.func92, Try.ntmps92
 go_wp2_with (first | ((with_reducible refine gate_callee (f := 40) rfl ?_); refine goesL_ (some 4) rfl rfl Try.func40 (by kernel_rfl) rfl #[.int .i64 a0, .int .i64 0, .int .i64 7] rfl q1_ ?_; (with_reducible refine (PBase.skiffref1_upTo.calls a0 0 7 t238 _ A2.out).mono ?_); rintro e w' ⟨rfl, ⟨nd, rfl⟩⟩; refine ⟨_, rfl, ?_⟩))
 go_ret
 exact ⟨by first | rfl | (simp; done) | (simp [*]; done), by repeat (first | exact Drawn0.refl _ | apply Drawn0.step)⟩
def skiffref1_StatusMay.f (a0 : Int) : Option (Bool) := (PBase.skiffref1_upTo.f a0 0 6).bind fun t239 => (some t239)
set_option maxHeartbeats 8000000 in
set_option maxRecDepth 100000 in
theorem skiffref1_StatusMay.calls (a0 : Int) (r : Bool) (w : World) (h : skiffref1_StatusMay.f a0 = some r) :
  Calls Try.prog 93 #[.int .i64 a0] w fun e w' => e = .returned (.bool r) ∧ Drawn0 w w' := by
 have H : ((PBase.skiffref1_upTo.f a0 0 6).bind fun t239 => (some t239)) = some r := h
 clear h
 replace H := Option.bind_eq_some_iff.mp H
 obtain ⟨t239, A20, H⟩ := H
 replace H : (some t239) = some r := H
 have A2 := Aside0.mk A20
 clear A20
 obtain rfl := Option.some.inj H
 go_enter Try.func93, Try.ntmps93
 go_wp2_with (first | ((with_reducible refine gate_callee (f := 40) rfl ?_); refine goesL_ (some 4) rfl rfl Try.func40 (by kernel_rfl) rfl #[.int .i64 a0, .int .i64 0, .int .i64 6] rfl q1_ ?_; (with_reducible refine (PBase.skiffref1_upTo.calls a0 0 6 t239 _ A2.out).mono ?_); rintro e w' ⟨rfl, ⟨nd, rfl⟩⟩; refine ⟨_, rfl, ?_⟩))
 go_ret
 exact ⟨by first | rfl | (simp; done) | (simp [*]; done), by repeat (first | exact Drawn0.refl _ | apply Drawn0.step)⟩
def skiffref16_DeviceMay.l0 : Nat → Int → Int → Int → Int → Int → Int → List (S87) → Option (Bool)
 | 0, _, _, _, _, _, _, _ => none
 | k + 1, x3, x241000, x241001, x241002, x241003, x241004, x241005 => if x3 < (x241005.length : Int) then (if 0 ≤ x3 then ((skiffref1_OpMay.f ((rd_T87 x241005 x3).f0) ((rd_T87 x241005 x3).f1) ((rd_T87 x241005 x3).f2)).bind fun t242 => (if t242 = true then (skiffref16_DeviceMay.l0 k (wrap64 (x3 + 1)) x241000 x241001 x241002 x241003 x241004 x241005) else (some false))) else (none)) else ((skiffref1_StateMay.f x241000).bind fun t243 => (if t243 = true then ((skiffref1_StatusMay.f x241001).bind fun t244 => (if t244 = true then ((skiffref16_upTo.f x241002 0 16).bind fun t245 => (if t245 = true then ((skiffref16_upTo.f x241003 0 288).bind fun t246 => (if t246 = true then ((skiffref16_upTo.f x241004 0 1).bind fun t247 => (if t247 = true then (some (decide ((x241005.length : Int) ≤ 768))) else (some false))) else (some false))) else (some false))) else (some false))) else (some false)))
def skiffref16_DeviceMay.f (k : Nat) (a0_0 : Int) (a0_1 : Int) (a0_2 : Int) (a0_3 : Int) (a0_4 : Int) (l0_5 : List (S87)) : Option (Bool) := skiffref16_DeviceMay.l0 k 0 a0_0 a0_1 a0_2 a0_3 a0_4 l0_5
set_option maxHeartbeats 8000000 in
set_option maxRecDepth 100000 in
theorem skiffref16_DeviceMay.calls (k : Nat) (a0_0 : Int) (a0_1 : Int) (a0_2 : Int) (a0_3 : Int) (a0_4 : Int) (A0_5 : Option Addr) (c0_5 : Nat) (l0_5 : List (S87)) (r : Bool) (w : World) (hr0_5 : Kd.C k87 w A0_5 l0_5.length l0_5) (hc0_5 : l0_5.length ≤ c0_5) (h : skiffref16_DeviceMay.f k a0_0 a0_1 a0_2 a0_3 a0_4 l0_5 = some r) :
  Calls Try.prog 80 #[.agg #[.int .i64 a0_0, .int .i64 a0_1, .int .i64 a0_2, .int .i64 a0_3, .int .i64 a0_4, .slice A0_5 l0_5.length c0_5]] w fun e w' => e = .returned (.bool r) ∧ Below w.heap.size w w' := by
 have hu56 := Try.underlying56
 have hu87 := Try.underlying87
 have HR0_5 := Aside0.mk hr0_5
 have HC0_5 := Aside0.mk hc0_5
 clear hr0_5 hc0_5
 have HB := Aside0.mk (Below.refl w.heap.size w)
 have H : (skiffref16_DeviceMay.l0 k 0 a0_0 a0_1 a0_2 a0_3 a0_4 l0_5) = some r := h
 clear h
 have H' := Aside0.mk H
 clear H
 go_enter Try.func80, Try.ntmps80
 go_wp2_with (first | ((with_reducible refine gate_dst (N := 1) rfl ?_); (try (refine gate_guard (by rfl) ?_; dsimp only)); refine box_event ?hg (N := 1) ?hd (cs := #[.int .i64 a0_0, .int .i64 a0_1, .int .i64 a0_2, .int .i64 a0_3, .int .i64 a0_4, .slice A0_5 l0_5.length c0_5]) (t := 56) ?hr ?_; (case hd => rfl); (case hg => rfl); (case hr => first | (go_simp; done) | (go_simp; rfl)); intro gb240 hg w2 hbox hb; have BK240 := Aside0.mk (hbox); have GW240 := Aside0.mk ((by rw [hg]; exact (below_size q2_) : w.heap.size ≤ gb240)); have GE240 := Aside0.mk ((by rw [hg]; exact (below_size q2_) : w.heap.size ≤ gb240)); replace HB := Aside0.mk (below_step q2_ hb); clear hb hbox hg))
 go_loopg [3] k (fun kq v3 w' => ∃ (x3_1 : Int), v3 = .int .i64 x3_1 ∧ Aside0 (skiffref16_DeviceMay.l0 kq x3_1 a0_0 a0_1 a0_2 a0_3 a0_4 l0_5 = some r) ∧ Aside0 (kq ≤ k) ∧ Aside0 (w'.heap[gb240]? = some (.cells #[.int .i64 a0_0, .int .i64 a0_1, .int .i64 a0_2, .int .i64 a0_3, .int .i64 a0_4, (.slice A0_5 l0_5.length c0_5)] 56 (0, 0))) ∧ Aside0 (Below w.heap.size w w'))
 case atStart => exact ⟨(0), q17_, H', ⟨Nat.le_refl _⟩, ⟨by (with_reducible repeat (first | refine blk_drewN ?_ _ | refine blk_drew ?_ | refine blk_alloc ?_ _)); exact BK240.out⟩, ⟨by repeat (first | (with_reducible first | exact HB.out | apply below_alloc | apply pw_below_drewN | apply below_drew1 | refine below_set ?_ GE240.out) | exact HB.out)⟩⟩
 case round =>
  clear H'
  try clear p2
  obtain ⟨x3_1, rfl, HA, HK1, BK240, HB⟩ := hrel
  cases gk with
  | zero => exact absurd HA.out (by simp [skiffref16_DeviceMay.l0])
  | succ k1 =>
   have H := HA.out
   clear HA
   simp only [skiffref16_DeviceMay.l0] at H
   by_cases c3 : x3_1 < (l0_5.length : Int)
   ·rw [if_pos c3] at H
    have c3b0 : decide (x3_1 < (l0_5.length : Int)) = true := decide_eq_true c3
    clear c3
    by_cases c4 : 0 ≤ x3_1
    rotate_left
    ·rw [if_neg c4] at H
     exact absurd H (by simp)
    rw [if_pos c4] at H
    have c4b0 : decide (0 ≤ x3_1) = true := decide_eq_true c4
    clear c4
    replace H := Option.bind_eq_some_iff.mp H
    obtain ⟨t242, A50, H⟩ := H
    (try dsimp only at H)
    have A5 := Aside0.mk A50
    clear A50
    by_cases c6 : t242 = true
    rotate_left
    ·replace c6 := Bool.eq_false_iff.mpr c6
     subst c6
     have H1 : (some false) = some r := by rw [if_neg (show ¬ (false = true) by decide)] at H; exact H
     clear H
     have H := H1
     clear H1
     obtain rfl := Option.some.inj H
     obtain ⟨hcz9_0, hcz9_1, hcz9_2, hcz9_3, hcz9_4, hcz9_5, hfz9_0, hfz9_1, hfz9_2, hfz9_3, hfz9_4, hfz9_5⟩ := cells6_ BK240.out
     have p241 : 0 ≤ (x3_1 : Int) := of_decide_eq_true q16_
     have q241 : x3_1 < (l0_5.length : Int) := of_decide_eq_true q16_
     obtain ⟨ad241, e241, hx241_0, hx241_1, hx241_2⟩ := at_T87 HR0_5.out x3_1 p241 q241
     cases e241
     replace hx241_0 := (HB.out.cell (World.block_lt_of_cell? w _ hx241_0)).trans hx241_0
     replace hx241_1 := (HB.out.cell (World.block_lt_of_cell? w _ hx241_1)).trans hx241_1
     replace hx241_2 := (HB.out.cell (World.block_lt_of_cell? w _ hx241_2)).trans hx241_2
     replace p241 := eq_true p241
     replace q241 := eq_true q241
     go_wp2_with (first | ((with_reducible refine gate_callee (f := 84) rfl ?_); refine goesL_ (some 16) rfl rfl Try.func84 (by kernel_rfl) rfl #[.agg #[.bool ((rd_T87 l0_5 x3_1).f0), .int .i64 ((rd_T87 l0_5 x3_1).f1), .string ((rd_T87 l0_5 x3_1).f2)]] rfl q1_ ?_; (with_reducible refine (skiffref1_OpMay.calls ((rd_T87 l0_5 x3_1).f0) ((rd_T87 l0_5 x3_1).f1) ((rd_T87 l0_5 x3_1).f2) false _ A5.out).mono ?_); rintro e w10 ⟨rfl, hb⟩; refine ⟨_, rfl, ?_⟩; replace BK240 := Aside0.mk (blk_below (g := gb240) (by (with_reducible repeat (first | refine blk_drewN ?_ _ | refine blk_drew ?_ | refine blk_alloc ?_ _)); exact BK240.out) hb); replace HB := Aside0.mk (below_step (by repeat (first | (with_reducible first | exact HB.out | apply below_alloc | apply pw_below_drewN | apply below_drew1 | refine below_set ?_ GE240.out) | exact HB.out)) hb); (try clear hb); (try clear hb2); (try clear hk); (try clear hi)))
     go_ret
     exact ⟨by first | rfl | (simp [errW_none, errW_some] <;> rfl) | (simp [*, errW_none, errW_some] <;> rfl), by repeat (first | (with_reducible first | exact HB.out | apply below_alloc | apply pw_below_drewN | apply below_drew1 | refine below_set ?_ GE240.out) | exact HB.out)⟩
    subst c6
    have H1 : (skiffref16_DeviceMay.l0 k1 (wrap64 (x3_1 + 1)) a0_0 a0_1 a0_2 a0_3 a0_4 l0_5) = some r := by rw [if_pos rfl] at H; exact H
    clear H
    have H := H1
    clear H1
    have H' := Aside0.mk H
    clear H
    obtain ⟨hcz7_0, hcz7_1, hcz7_2, hcz7_3, hcz7_4, hcz7_5, hfz7_0, hfz7_1, hfz7_2, hfz7_3, hfz7_4, hfz7_5⟩ := cells6_ BK240.out
    have p241 : 0 ≤ (x3_1 : Int) := of_decide_eq_true q16_
    have q241 : x3_1 < (l0_5.length : Int) := of_decide_eq_true q16_
    obtain ⟨ad241, e241, hx241_0, hx241_1, hx241_2⟩ := at_T87 HR0_5.out x3_1 p241 q241
    cases e241
    replace hx241_0 := (HB.out.cell (World.block_lt_of_cell? w _ hx241_0)).trans hx241_0
    replace hx241_1 := (HB.out.cell (World.block_lt_of_cell? w _ hx241_1)).trans hx241_1
    replace hx241_2 := (HB.out.cell (World.block_lt_of_cell? w _ hx241_2)).trans hx241_2
    replace p241 := eq_true p241
    replace q241 := eq_true q241
    go_wp2_with (first | ((with_reducible refine gate_callee (f := 84) rfl ?_); refine goesL_ (some 16) rfl rfl Try.func84 (by kernel_rfl) rfl #[.agg #[.bool ((rd_T87 l0_5 x3_1).f0), .int .i64 ((rd_T87 l0_5 x3_1).f1), .string ((rd_T87 l0_5 x3_1).f2)]] rfl q1_ ?_; (with_reducible refine (skiffref1_OpMay.calls ((rd_T87 l0_5 x3_1).f0) ((rd_T87 l0_5 x3_1).f1) ((rd_T87 l0_5 x3_1).f2) true _ A5.out).mono ?_); rintro e w8 ⟨rfl, hb⟩; refine ⟨_, rfl, ?_⟩; replace BK240 := Aside0.mk (blk_below (g := gb240) (by (with_reducible repeat (first | refine blk_drewN ?_ _ | refine blk_drew ?_ | refine blk_alloc ?_ _)); exact BK240.out) hb); replace HB := Aside0.mk (below_step (by repeat (first | (with_reducible first | exact HB.out | apply below_alloc | apply pw_below_drewN | apply below_drew1 | refine below_set ?_ GE240.out) | exact HB.out)) hb); (try clear hb); (try clear hb2); (try clear hk); (try clear hi)))
    go_roundg k1
    case measure => have := HK1.out; omega
    case rel => exact ⟨(wrap64 (x3_1 + 1)), q17_, H', ⟨by have := HK1.out; omega⟩, ⟨by (with_reducible repeat (first | refine blk_drewN ?_ _ | refine blk_drew ?_ | refine blk_alloc ?_ _)); exact BK240.out⟩, ⟨by repeat (first | (with_reducible first | exact HB.out | apply below_alloc | apply pw_below_drewN | apply below_drew1 | refine below_set ?_ GE240.out) | exact HB.out)⟩⟩
   rw [if_neg c3] at H
   have c3b0 : decide (x3_1 < (l0_5.length : Int)) = false := decide_eq_false c3
   clear c3
   replace H := Option.bind_eq_some_iff.mp H
   obtain ⟨t243, A110, H⟩ := H
   (try dsimp only at H)
   have A11 := Aside0.mk A110
   clear A110
   by_cases c12 : t243 = true
   rotate_left
   ·replace c12 := Bool.eq_false_iff.mpr c12
    subst c12
    have H1 : (some false) = some r := by rw [if_neg (show ¬ (false = true) by decide)] at H; exact H
    clear H
    have H := H1
    clear H1
    obtain rfl := Option.some.inj H
    obtain ⟨hcz26_0, hcz26_1, hcz26_2, hcz26_3, hcz26_4, hcz26_5, hfz26_0, hfz26_1, hfz26_2, hfz26_3, hfz26_4, hfz26_5⟩ := cells6_ BK240.out
    go_wp2_with (first | ((with_reducible refine gate_callee (f := 92) rfl ?_); refine goesL_ (some 20) rfl rfl Try.func92 (by kernel_rfl) rfl #[.int .i64 a0_0] rfl q1_ ?_; (with_reducible refine (skiffref1_StateMay.calls a0_0 false _ A11.out).mono ?_); rintro e w' ⟨rfl, ⟨nd, rfl⟩⟩; refine ⟨_, rfl, ?_⟩))
    go_ret
    exact ⟨by first | rfl | (simp [errW_none, errW_some] <;> rfl) | (simp [*, errW_none, errW_some] <;> rfl), by repeat (first | (with_reducible first | exact HB.out | apply below_alloc | apply pw_below_drewN | apply below_drew1 | refine below_set ?_ GE240.out) | exact HB.out)⟩
   subst c12
   have H1 : ((skiffref1_StatusMay.f a0_1).bind fun t244 => (if t244 = true then ((skiffref16_upTo.f a0_2 0 16).bind fun t245 => (if t245 = true then ((skiffref16_upTo.f a0_3 0 288).bind fun t246 => (if t246 = true then ((skiffref16_upTo.f a0_4 0 1).bind fun t247 => (if t247 = true then (some (decide ((l0_5.length : Int) ≤ 768))) else (some false))) else (some false))) else (some false))) else (some false))) = some r := by rw [if_pos rfl] at H; exact H
   clear H
   have H := H1
   clear H1
   replace H := Option.bind_eq_some_iff.mp H
   obtain ⟨t244, A130, H⟩ := H
   (try dsimp only at H)
   have A13 := Aside0.mk A130
   clear A130
   by_cases c14 : t244 = true
   rotate_left
   ·replace c14 := Bool.eq_false_iff.mpr c14
    subst c14
    have H1 : (some false) = some r := by rw [if_neg (show ¬ (false = true) by decide)] at H; exact H
    clear H
    have H := H1
    clear H1
    obtain rfl := Option.some.inj H
    obtain ⟨hcz25_0, hcz25_1, hcz25_2, hcz25_3, hcz25_4, hcz25_5, hfz25_0, hfz25_1, hfz25_2, hfz25_3, hfz25_4, hfz25_5⟩ := cells6_ BK240.out
    go_wp2_with (first | ((with_reducible refine gate_callee (f := 92) rfl ?_); refine goesL_ (some 20) rfl rfl Try.func92 (by kernel_rfl) rfl #[.int .i64 a0_0] rfl q1_ ?_; (with_reducible refine (skiffref1_StateMay.calls a0_0 true _ A11.out).mono ?_); rintro e w' ⟨rfl, ⟨nd, rfl⟩⟩; refine ⟨_, rfl, ?_⟩) | (go_at_call 93; (with_reducible refine (skiffref1_StatusMay.calls a0_1 false _ A13.out).mono ?_); rintro e w' ⟨rfl, ⟨nd, rfl⟩⟩))
    go_ret
    exact ⟨by first | rfl | (simp [errW_none, errW_some] <;> rfl) | (simp [*, errW_none, errW_some] <;> rfl), by repeat (first | (with_reducible first | exact HB.out | apply below_alloc | apply pw_below_drewN | apply below_drew1 | refine below_set ?_ GE240.out) | exact HB.out)⟩
   subst c14
   have H1 : ((skiffref16_upTo.f a0_2 0 16).bind fun t245 => (if t245 = true then ((skiffref16_upTo.f a0_3 0 288).bind fun t246 => (if t246 = true then ((skiffref16_upTo.f a0_4 0 1).bind fun t247 => (if t247 = true then (some (decide ((l0_5.length : Int) ≤ 768))) else (some false))) else (some false))) else (some false))) = some r := by rw [if_pos rfl] at H; exact H
   clear H
   have H := H1
   clear H1
   replace H := Option.bind_eq_some_iff.mp H
   obtain ⟨t245, A150, H⟩ := H
   (try dsimp only at H)
   have A15 := Aside0.mk A150
   clear A150
   by_cases c16 : t245 = true
   rotate_left
   ·replace c16 := Bool.eq_false_iff.mpr c16
    subst c16
    have H1 : (some false) = some r := by rw [if_neg (show ¬ (false = true) by decide)] at H; exact H
    clear H
    have H := H1
    clear H1
    obtain rfl := Option.some.inj H
    obtain ⟨hcz24_0, hcz24_1, hcz24_2, hcz24_3, hcz24_4, hcz24_5, hfz24_0, hfz24_1, hfz24_2, hfz24_3, hfz24_4, hfz24_5⟩ := cells6_ BK240.out
    go_wp2_with (first | ((with_reducible refine gate_callee (f := 92) rfl ?_); refine goesL_ (some 20) rfl rfl Try.func92 (by kernel_rfl) rfl #[.int .i64 a0_0] rfl q1_ ?_; (with_reducible refine (skiffref1_StateMay.calls a0_0 true _ A11.out).mono ?_); rintro e w' ⟨rfl, ⟨nd, rfl⟩⟩; refine ⟨_, rfl, ?_⟩) | (go_at_call 93; (with_reducible refine (skiffref1_StatusMay.calls a0_1 true _ A13.out).mono ?_); rintro e w' ⟨rfl, ⟨nd, rfl⟩⟩) | (go_at_call 55; (with_reducible refine (skiffref16_upTo.calls a0_2 0 16 false _ A15.out).mono ?_); rintro e w' ⟨rfl, ⟨nd, rfl⟩⟩))
    go_ret
    exact ⟨by first | rfl | (simp [errW_none, errW_some] <;> rfl) | (simp [*, errW_none, errW_some] <;> rfl), by repeat (first | (with_reducible first | exact HB.out | apply below_alloc | apply pw_below_drewN | apply below_drew1 | refine below_set ?_ GE240.out) | exact HB.out)⟩
   subst c16
   have H1 : ((skiffref16_upTo.f a0_3 0 288).bind fun t246 => (if t246 = true then ((skiffref16_upTo.f a0_4 0 1).bind fun t247 => (if t247 = true then (some (decide ((l0_5.length : Int) ≤ 768))) else (some false))) else (some false))) = some r := by rw [if_pos rfl] at H; exact H
   clear H
   have H := H1
   clear H1
   replace H := Option.bind_eq_some_iff.mp H
   obtain ⟨t246, A170, H⟩ := H
   (try dsimp only at H)
   have A17 := Aside0.mk A170
   clear A170
   by_cases c18 : t246 = true
   rotate_left
   ·replace c18 := Bool.eq_false_iff.mpr c18
    subst c18
    have H1 : (some false) = some r := by rw [if_neg (show ¬ (false = true) by decide)] at H; exact H
    clear H
    have H := H1
    clear H1
    obtain rfl := Option.some.inj H
    obtain ⟨hcz23_0, hcz23_1, hcz23_2, hcz23_3, hcz23_4, hcz23_5, hfz23_0, hfz23_1, hfz23_2, hfz23_3, hfz23_4, hfz23_5⟩ := cells6_ BK240.out
    go_wp2_with (first | ((with_reducible refine gate_callee (f := 92) rfl ?_); refine goesL_ (some 20) rfl rfl Try.func92 (by kernel_rfl) rfl #[.int .i64 a0_0] rfl q1_ ?_; (with_reducible refine (skiffref1_StateMay.calls a0_0 true _ A11.out).mono ?_); rintro e w' ⟨rfl, ⟨nd, rfl⟩⟩; refine ⟨_, rfl, ?_⟩) | (go_at_call 93; (with_reducible refine (skiffref1_StatusMay.calls a0_1 true _ A13.out).mono ?_); rintro e w' ⟨rfl, ⟨nd, rfl⟩⟩) | (go_at_call 55; (with_reducible refine (skiffref16_upTo.calls a0_2 0 16 true _ A15.out).mono ?_); rintro e w' ⟨rfl, ⟨nd, rfl⟩⟩) | (go_at_call 55; (with_reducible refine (skiffref16_upTo.calls a0_3 0 288 false _ A17.out).mono ?_); rintro e w' ⟨rfl, ⟨nd, rfl⟩⟩))
    go_ret
    exact ⟨by first | rfl | (simp [errW_none, errW_some] <;> rfl) | (simp [*, errW_none, errW_some] <;> rfl), by repeat (first | (with_reducible first | exact HB.out | apply below_alloc | apply pw_below_drewN | apply below_drew1 | refine below_set ?_ GE240.out) | exact HB.out)⟩
   subst c18
   have H1 : ((skiffref16_upTo.f a0_4 0 1).bind fun t247 => (if t247 = true then (some (decide ((l0_5.length : Int) ≤ 768))) else (some false))) = some r := by rw [if_pos rfl] at H; exact H
   clear H
   have H := H1
   clear H1
   replace H := Option.bind_eq_some_iff.mp H
   obtain ⟨t247, A190, H⟩ := H
   (try dsimp only at H)
   have A19 := Aside0.mk A190
   clear A190
   by_cases c20 : t247 = true
   ·subst c20
    have H1 : (some (decide ((l0_5.length : Int) ≤ 768))) = some r := by rw [if_pos rfl] at H; exact H
    clear H
    have H := H1
    clear H1
    obtain rfl := Option.some.inj H
    obtain ⟨hcz21_0, hcz21_1, hcz21_2, hcz21_3, hcz21_4, hcz21_5, hfz21_0, hfz21_1, hfz21_2, hfz21_3, hfz21_4, hfz21_5⟩ := cells6_ BK240.out
    go_wp2_with (first | ((with_reducible refine gate_callee (f := 92) rfl ?_); refine goesL_ (some 20) rfl rfl Try.func92 (by kernel_rfl) rfl #[.int .i64 a0_0] rfl q1_ ?_; (with_reducible refine (skiffref1_StateMay.calls a0_0 true _ A11.out).mono ?_); rintro e w' ⟨rfl, ⟨nd, rfl⟩⟩; refine ⟨_, rfl, ?_⟩) | (go_at_call 93; (with_reducible refine (skiffref1_StatusMay.calls a0_1 true _ A13.out).mono ?_); rintro e w' ⟨rfl, ⟨nd, rfl⟩⟩) | (go_at_call 55; (with_reducible refine (skiffref16_upTo.calls a0_2 0 16 true _ A15.out).mono ?_); rintro e w' ⟨rfl, ⟨nd, rfl⟩⟩) | (go_at_call 55; (with_reducible refine (skiffref16_upTo.calls a0_3 0 288 true _ A17.out).mono ?_); rintro e w' ⟨rfl, ⟨nd, rfl⟩⟩) | (go_at_call 55; (with_reducible refine (skiffref16_upTo.calls a0_4 0 1 true _ A19.out).mono ?_); rintro e w' ⟨rfl, ⟨nd, rfl⟩⟩))
    go_ret
    exact ⟨by first | rfl | (simp [errW_none, errW_some] <;> rfl) | (simp [*, errW_none, errW_some] <;> rfl), by repeat (first | (with_reducible first | exact HB.out | apply below_alloc | apply pw_below_drewN | apply below_drew1 | refine below_set ?_ GE240.out) | exact HB.out)⟩
   replace c20 := Bool.eq_false_iff.mpr c20
   subst c20
   have H1 : (some false) = some r := by rw [if_neg (show ¬ (false = true) by decide)] at H; exact H
   clear H
   have H := H1
   clear H1
   obtain rfl := Option.some.inj H
   obtain ⟨hcz22_0, hcz22_1, hcz22_2, hcz22_3, hcz22_4, hcz22_5, hfz22_0, hfz22_1, hfz22_2, hfz22_3, hfz22_4, hfz22_5⟩ := cells6_ BK240.out
   go_wp2_with (first | ((with_reducible refine gate_callee (f := 92) rfl ?_); refine goesL_ (some 20) rfl rfl Try.func92 (by kernel_rfl) rfl #[.int .i64 a0_0] rfl q1_ ?_; (with_reducible refine (skiffref1_StateMay.calls a0_0 true _ A11.out).mono ?_); rintro e w' ⟨rfl, ⟨nd, rfl⟩⟩; refine ⟨_, rfl, ?_⟩) | (go_at_call 93; (with_reducible refine (skiffref1_StatusMay.calls a0_1 true _ A13.out).mono ?_); rintro e w' ⟨rfl, ⟨nd, rfl⟩⟩) | (go_at_call 55; (with_reducible refine (skiffref16_upTo.calls a0_2 0 16 true _ A15.out).mono ?_); rintro e w' ⟨rfl, ⟨nd, rfl⟩⟩) | (go_at_call 55; (with_reducible refine (skiffref16_upTo.calls a0_3 0 288 true _ A17.out).mono ?_); rintro e w' ⟨rfl, ⟨nd, rfl⟩⟩) | (go_at_call 55; (with_reducible refine (skiffref16_upTo.calls a0_4 0 1 false _ A19.out).mono ?_); rintro e w' ⟨rfl, ⟨nd, rfl⟩⟩))
   go_ret
   exact ⟨by first | rfl | (simp [errW_none, errW_some] <;> rfl) | (simp [*, errW_none, errW_some] <;> rfl), by repeat (first | (with_reducible first | exact HB.out | apply below_alloc | apply pw_below_drewN | apply below_drew1 | refine below_set ?_ GE240.out) | exact HB.out)⟩
def skiffref16_both.f (k : Nat) (a0 : ByteArray) (a1_0 : Int) (a1_1 : Int) (a1_2 : Int) (a1_3 : Int) (a1_4 : Int) (l1_5 : List (S87)) : Option (Bool) := (skiffref1_FlashMay.f a0).bind fun t249 => (if t249 = true then ((skiffref16_DeviceMay.f k a1_0 a1_1 a1_2 a1_3 a1_4 l1_5).bind fun t250 => (some t250)) else (some false))
set_option maxHeartbeats 8000000 in
set_option maxRecDepth 100000 in
theorem skiffref16_both.calls (k : Nat) (a0 : ByteArray) (a1_0 : Int) (a1_1 : Int) (a1_2 : Int) (a1_3 : Int) (a1_4 : Int) (A1_5 : Option Addr) (c1_5 : Nat) (l1_5 : List (S87)) (r : Bool) (w : World) (hr1_5 : Kd.C k87 w A1_5 l1_5.length l1_5) (hc1_5 : l1_5.length ≤ c1_5) (h : skiffref16_both.f k a0 a1_0 a1_1 a1_2 a1_3 a1_4 l1_5 = some r) :
  Calls Try.prog 54 #[.string a0, .agg #[.int .i64 a1_0, .int .i64 a1_1, .int .i64 a1_2, .int .i64 a1_3, .int .i64 a1_4, .slice A1_5 l1_5.length c1_5]] w fun e w' => e = .returned (.bool r) ∧ Below w.heap.size w w' := by
 have hu56 := Try.underlying56
 have HR1_5 := Aside0.mk hr1_5
 have HC1_5 := Aside0.mk hc1_5
 clear hr1_5 hc1_5
 have HB := Aside0.mk (Below.refl w.heap.size w)
 have H : ((skiffref1_FlashMay.f a0).bind fun t249 => (if t249 = true then ((skiffref16_DeviceMay.f k a1_0 a1_1 a1_2 a1_3 a1_4 l1_5).bind fun t250 => (some t250)) else (some false))) = some r := h
 clear h
 replace H := Option.bind_eq_some_iff.mp H
 obtain ⟨t249, A30, H⟩ := H
 (try dsimp only at H)
 have A3 := Aside0.mk A30
 clear A30
 by_cases c4 : t249 = true
 rotate_left
 ·replace c4 := Bool.eq_false_iff.mpr c4
  subst c4
  have H1 : (some false) = some r := by rw [if_neg (show ¬ (false = true) by decide)] at H; exact H
  clear H
  have H := H1
  clear H1
  obtain rfl := Option.some.inj H
  go_enter Try.func54, Try.ntmps54
  go_wp2_with (first | ((with_reducible refine gate_dst (N := 3) rfl ?_); refine box_event ?hg (N := 3) ?hd (cs := #[.int .i64 a1_0, .int .i64 a1_1, .int .i64 a1_2, .int .i64 a1_3, .int .i64 a1_4, .slice A1_5 l1_5.length c1_5]) (t := 56) ?hr ?_; (case hd => rfl); (case hg => rfl); (case hr => first | (go_simp; done) | (go_simp; rfl)); intro gb248 hg w9 hbox hb; have BK248 := Aside0.mk (hbox); have GW248 := Aside0.mk ((by rw [hg]; exact (below_size q2_) : w.heap.size ≤ gb248)); have GE248 := Aside0.mk ((by rw [hg]; exact (below_size q2_) : w.heap.size ≤ gb248)); replace HB := Aside0.mk (below_step q2_ hb); clear hb hbox hg) | ((with_reducible refine gate_callee (f := 34) rfl ?_); refine goesL_ (some 6) rfl rfl Try.func34 (by kernel_rfl) rfl #[.string a0] rfl q1_ ?_; (with_reducible refine (skiffref1_FlashMay.calls a0 false _ A3.out).mono ?_); rintro e w' ⟨rfl, ⟨nd, rfl⟩⟩; refine ⟨_, rfl, ?_⟩))
  go_ret
  exact ⟨by first | rfl | (simp [errW_none, errW_some] <;> rfl) | (simp [*, errW_none, errW_some] <;> rfl), by repeat (first | (with_reducible first | exact HB.out | apply below_alloc | apply pw_below_drewN | apply below_drew1 | refine below_set ?_ GE248.out) | exact HB.out)⟩
 subst c4
 have H1 : ((skiffref16_DeviceMay.f k a1_0 a1_1 a1_2 a1_3 a1_4 l1_5).bind fun t250 => (some t250)) = some r := by rw [if_pos rfl] at H; exact H
 clear H
 have H := H1
 clear H1
 replace H := Option.bind_eq_some_iff.mp H
 obtain ⟨t250, A50, H⟩ := H
 replace H : (some t250) = some r := H
 have A5 := Aside0.mk A50
 clear A50
 obtain rfl := Option.some.inj H
 go_enter Try.func54, Try.ntmps54
 go_wp2_with (first | ((with_reducible refine gate_dst (N := 3) rfl ?_); refine box_event ?hg (N := 3) ?hd (cs := #[.int .i64 a1_0, .int .i64 a1_1, .int .i64 a1_2, .int .i64 a1_3, .int .i64 a1_4, .slice A1_5 l1_5.length c1_5]) (t := 56) ?hr ?_; (case hd => rfl); (case hg => rfl); (case hr => first | (go_simp; done) | (go_simp; rfl)); intro gb248 hg w6 hbox hb; have BK248 := Aside0.mk (hbox); have GW248 := Aside0.mk ((by rw [hg]; exact (below_size q2_) : w.heap.size ≤ gb248)); have GE248 := Aside0.mk ((by rw [hg]; exact (below_size q2_) : w.heap.size ≤ gb248)); replace HB := Aside0.mk (below_step q2_ hb); clear hb hbox hg) | ((with_reducible refine gate_callee (f := 34) rfl ?_); refine goesL_ (some 6) rfl rfl Try.func34 (by kernel_rfl) rfl #[.string a0] rfl q1_ ?_; (with_reducible refine (skiffref1_FlashMay.calls a0 true _ A3.out).mono ?_); rintro e w' ⟨rfl, ⟨nd, rfl⟩⟩; refine ⟨_, rfl, ?_⟩; obtain ⟨hcz7_0, hcz7_1, hcz7_2, hcz7_3, hcz7_4, hcz7_5, hfz7_0, hfz7_1, hfz7_2, hfz7_3, hfz7_4, hfz7_5⟩ := cells6_ BK248.out) | (go_at_call 80; (with_reducible refine (skiffref16_DeviceMay.calls k a1_0 a1_1 a1_2 a1_3 a1_4 _ _ l1_5 t250 _ ?side1 ?side2 A5.out).mono ?_); (case side1 => repeat (first | exact (Kd.C_below HR1_5.out (by repeat (first | (with_reducible first | exact HB.out | apply below_alloc | apply pw_below_drewN | apply below_drew1 | refine below_set ?_ GE248.out) | exact HB.out))) | (with_reducible refine Kd.C_alloc ?_ _) | (with_reducible refine Kd.C_drewN ?_ _) | (with_reducible refine Kd.C_drew ?_))); (case side2 => exact HC1_5.out); rintro e w8 ⟨rfl, hb⟩; replace BK248 := Aside0.mk (blk_below (g := gb248) (by (with_reducible repeat (first | refine blk_drewN ?_ _ | refine blk_drew ?_ | refine blk_alloc ?_ _)); exact BK248.out) hb); replace HB := Aside0.mk (below_step (by repeat (first | (with_reducible first | exact HB.out | apply below_alloc | apply pw_below_drewN | apply below_drew1 | refine below_set ?_ GE248.out) | exact HB.out)) hb); (try clear hb); (try clear hb2); (try clear hk); (try clear hi)))
 go_ret
 exact ⟨by first | rfl | (simp [errW_none, errW_some] <;> rfl) | (simp [*, errW_none, errW_some] <;> rfl), by repeat (first | (with_reducible first | exact HB.out | apply below_alloc | apply pw_below_drewN | apply below_drew1 | refine below_set ?_ GE248.out) | exact HB.out)⟩
def skiffref16_failed.f (a0 : Int) : Option (Int × Int × Int × Int × Int × (List (S87))) := some (7, a0, 0, 0, 0, ([] : List (S87)))
set_option maxHeartbeats 8000000 in
set_option maxRecDepth 100000 in
theorem skiffref16_failed.calls (a0 : Int) (r1 : Int) (r2 : Int) (r3 : Int) (r4 : Int) (r5 : Int) (r6 : List (S87)) (w : World) (h : skiffref16_failed.f a0 = some (r1, r2, r3, r4, r5, r6)) :
  Calls Try.prog 56 #[.int .i64 a0] w fun e w' => ∃ v5_ : Value, e = .returned (.agg #[.int .i64 r1, .int .i64 r2, .int .i64 r3, .int .i64 r4, .int .i64 r5, v5_]) ∧ Kd.R k87 87 w' w.heap.size (fun _ => True) v5_ r6 ∧ Below w.heap.size w w' := by
 have hu56 := Try.underlying56
 have HB := Aside0.mk (Below.refl w.heap.size w)
 have H : (some (7, a0, 0, 0, 0, ([] : List (S87)))) = some (r1, r2, r3, r4, r5, r6) := h
 clear h
 simp only [Option.some.injEq, Prod.mk.injEq] at H
 obtain ⟨rfl, rfl, rfl, rfl, rfl, rfl⟩ := H
 go_enter Try.func56, Try.ntmps56
 go_wp2_with (first | ((with_reducible refine gate_dst (N := 2) rfl ?_); refine box_event ?hg (N := 2) ?hd (cs := #[.int .i64 0, .int .i64 0, .int .i64 0, .int .i64 0, .int .i64 0, .slice none 0 0]) (t := 56) ?hr ?_; (case hd => rfl); (case hg => rfl); (case hr => first | (go_simp; done) | (go_simp; rfl)); intro gb251 hg w2 hbox hb; have BK251 := Aside0.mk (hbox); have GW251 := Aside0.mk ((by rw [hg]; exact (below_size q2_) : w.heap.size ≤ gb251)); have GE251 := Aside0.mk ((by rw [hg]; exact (below_size q2_) : w.heap.size ≤ gb251)); replace HB := Aside0.mk (below_step q2_ hb); clear hb hbox hg; obtain ⟨hcz3_0, hcz3_1, hcz3_2, hcz3_3, hcz3_4, hcz3_5, hfz3_0, hfz3_1, hfz3_2, hfz3_3, hfz3_4, hfz3_5⟩ := cells6_ BK251.out))
 refine bodyPost_ret (results_cell_row rfl _ _ gb251 56 #[.int .i64 7, .int .i64 a0, .int .i64 0, .int .i64 0, .int .i64 0, .slice none 0 0] (0, 0) _ rfl (by (with_reducible repeat (first | refine blk_drewN ?_ _ | refine blk_drew ?_ | refine blk_alloc ?_ _)); refine put6_ (cs := #[.int .i64 0, .int .i64 0, .int .i64 0, .int .i64 0, .int .i64 0, .slice none 0 0]) ?_ rfl; (with_reducible repeat (first | refine blk_drewN ?_ _ | refine blk_drew ?_ | refine blk_alloc ?_ _)); exact BK251.out) Try.underlying56 rfl (by kernel_rfl)) rfl ?_
 exact ⟨_, by first | rfl | (simp [errW_none, errW_some] <;> rfl) | (simp [*, errW_none, errW_some] <;> rfl), by first | exact Kd.R_nil _ _ _ _ _ | exact Kd.N_nil _ _ _ _ _ | exact Kd.V_nil _ _ _ _ _ | exact Kd.Q_nil _ _ _ _ _ | exact Kd.S_nil _ _ _ _ _, by repeat (first | (with_reducible first | exact HB.out | apply below_alloc | apply pw_below_drewN | apply below_drew1 | refine below_set ?_ GE251.out) | exact HB.out)⟩
def skiffref16_NewDevice.f  : Option (Int × Int × Int × Int × Int × (List (S87))) := some (0, 0, 0, 0, 0, ([] : List (S87)))
set_option maxHeartbeats 8000000 in
set_option maxRecDepth 100000 in
theorem skiffref16_NewDevice.calls  (r1 : Int) (r2 : Int) (r3 : Int) (r4 : Int) (r5 : Int) (r6 : List (S87)) (w : World) (h : skiffref16_NewDevice.f  = some (r1, r2, r3, r4, r5, r6)) :
  Calls Try.prog 57 #[] w fun e w' => ∃ v5_ : Value, e = .returned (.agg #[.int .i64 r1, .int .i64 r2, .int .i64 r3, .int .i64 r4, .int .i64 r5, v5_]) ∧ Kd.R k87 87 w' w.heap.size (fun _ => True) v5_ r6 ∧ Below w.heap.size w w' := by
 have hu56 := Try.underlying56
 have HB := Aside0.mk (Below.refl w.heap.size w)
 have H : (some (0, 0, 0, 0, 0, ([] : List (S87)))) = some (r1, r2, r3, r4, r5, r6) := h
 clear h
 simp only [Option.some.injEq, Prod.mk.injEq] at H
 obtain ⟨rfl, rfl, rfl, rfl, rfl, rfl⟩ := H
 go_enter Try.func57, Try.ntmps57
 go_wp2_with (first | ((with_reducible refine gate_dst (N := 0) rfl ?_); refine box_event ?hg (N := 0) ?hd (cs := #[.int .i64 0, .int .i64 0, .int .i64 0, .int .i64 0, .int .i64 0, .slice none 0 0]) (t := 56) ?hr ?_; (case hd => rfl); (case hg => rfl); (case hr => first | (go_simp; done) | (go_simp; rfl)); intro gb252 hg w1 hbox hb; have BK252 := Aside0.mk (hbox); have GW252 := Aside0.mk ((by rw [hg]; exact (below_size q2_) : w.heap.size ≤ gb252)); have GE252 := Aside0.mk ((by rw [hg]; exact (below_size q2_) : w.heap.size ≤ gb252)); replace HB := Aside0.mk (below_step q2_ hb); clear hb hbox hg; obtain ⟨hcz2_0, hcz2_1, hcz2_2, hcz2_3, hcz2_4, hcz2_5, hfz2_0, hfz2_1, hfz2_2, hfz2_3, hfz2_4, hfz2_5⟩ := cells6_ BK252.out))
 refine bodyPost_ret (results_cell_row rfl _ _ gb252 56 #[.int .i64 0, .int .i64 0, .int .i64 0, .int .i64 0, .int .i64 0, .slice none 0 0] (0, 0) _ rfl (by (with_reducible repeat (first | refine blk_drewN ?_ _ | refine blk_drew ?_ | refine blk_alloc ?_ _)); refine put6_ (cs := #[.int .i64 0, .int .i64 0, .int .i64 0, .int .i64 0, .int .i64 0, .slice none 0 0]) ?_ rfl; (with_reducible repeat (first | refine blk_drewN ?_ _ | refine blk_drew ?_ | refine blk_alloc ?_ _)); exact BK252.out) Try.underlying56 rfl (by kernel_rfl)) rfl ?_
 exact ⟨_, by first | rfl | (simp [errW_none, errW_some] <;> rfl) | (simp [*, errW_none, errW_some] <;> rfl), by first | exact Kd.R_nil _ _ _ _ _ | exact Kd.N_nil _ _ _ _ _ | exact Kd.V_nil _ _ _ _ _ | exact Kd.Q_nil _ _ _ _ _ | exact Kd.S_nil _ _ _ _ _, by repeat (first | (with_reducible first | exact HB.out | apply below_alloc | apply pw_below_drewN | apply below_drew1 | refine below_set ?_ GE252.out) | exact HB.out)⟩
def skiffref16_copyDevice.f (a0_0 : Int) (a0_1 : Int) (a0_2 : Int) (a0_3 : Int) (a0_4 : Int) (l0_5 : List (S87)) : Option (Int × Int × Int × Int × Int × (List (S87))) := (some (([] : List (S87)) : List (S87))).bind fun y255 => (if y255.length + l0_5.length < 4398046511104 then (some (a0_0, a0_1, a0_2, a0_3, a0_4, (y255 ++ l0_5))) else (none))
set_option maxHeartbeats 8000000 in
set_option maxRecDepth 100000 in
theorem skiffref16_copyDevice.calls (a0_0 : Int) (a0_1 : Int) (a0_2 : Int) (a0_3 : Int) (a0_4 : Int) (A0_5 : Option Addr) (c0_5 : Nat) (l0_5 : List (S87)) (r1 : Int) (r2 : Int) (r3 : Int) (r4 : Int) (r5 : Int) (r6 : List (S87)) (w : World) (hr0_5 : Kd.C k87 w A0_5 l0_5.length l0_5) (hc0_5 : l0_5.length ≤ c0_5) (h : skiffref16_copyDevice.f a0_0 a0_1 a0_2 a0_3 a0_4 l0_5 = some (r1, r2, r3, r4, r5, r6)) :
  Calls Try.prog 58 #[.agg #[.int .i64 a0_0, .int .i64 a0_1, .int .i64 a0_2, .int .i64 a0_3, .int .i64 a0_4, .slice A0_5 l0_5.length c0_5]] w fun e w' => ∃ v5_ : Value, e = .returned (.agg #[.int .i64 r1, .int .i64 r2, .int .i64 r3, .int .i64 r4, .int .i64 r5, v5_]) ∧ Kd.R k87 87 w' w.heap.size (fun _ => True) v5_ r6 ∧ Below w.heap.size w w' := by
 have hu56 := Try.underlying56
 have HR0_5 := Aside0.mk hr0_5
 have HC0_5 := Aside0.mk hc0_5
 clear hr0_5 hc0_5
 have HB := Aside0.mk (Below.refl w.heap.size w)
 have H : ((some (([] : List (S87)) : List (S87))).bind fun y255 => (if y255.length + l0_5.length < 4398046511104 then (some (a0_0, a0_1, a0_2, a0_3, a0_4, (y255 ++ l0_5))) else (none))) = some (r1, r2, r3, r4, r5, r6) := h
 clear h
 obtain ⟨y255, hy255⟩ : ∃ y_ : List (S87), y_ = (([] : List (S87))) := ⟨_, rfl⟩
 replace H : (if y255.length + l0_5.length < 4398046511104 then (some (a0_0, a0_1, a0_2, a0_3, a0_4, (y255 ++ l0_5))) else (none)) = some (r1, r2, r3, r4, r5, r6) := by first | (rw [hy255]; with_reducible exact H) | (have H2_ := (Option.bind_some _ _).symm.trans H; rw [hy255]; with_reducible exact H2_) | (have H2_ := (Option.bind_some _ _).symm.trans H; with_reducible exact H2_) | with_reducible exact H | (rw [hy255]; exact H) | exact H
 have Ny255 := Aside0.mk hy255
 clear hy255
 by_cases c2 : y255.length + l0_5.length < 4398046511104
 rotate_left
 ·rw [if_neg c2] at H
  exact absurd H (by simp)
 rw [if_pos c2] at H
 have LMc2 := Aside0.mk c2
 clear c2
 obtain ⟨y258, hy258⟩ : ∃ y_ : List (S87), y_ = (y255 ++ l0_5) := ⟨_, rfl⟩
 replace H : (some (a0_0, a0_1, a0_2, a0_3, a0_4, y258)) = some (r1, r2, r3, r4, r5, r6) := by first | (rw [hy258]; with_reducible exact H) | (have H2_ := (Option.bind_some _ _).symm.trans H; rw [hy258]; with_reducible exact H2_) | (have H2_ := (Option.bind_some _ _).symm.trans H; with_reducible exact H2_) | with_reducible exact H | (rw [hy258]; exact H) | exact H
 have Ny258 := Aside0.mk hy258
 clear hy258
 simp only [Option.some.injEq, Prod.mk.injEq] at H
 obtain ⟨rfl, rfl, rfl, rfl, rfl, rfl⟩ := H
 go_enter Try.func58, Try.ntmps58
 go_wp2_with (first | ((with_reducible refine gate_dst (N := 1) rfl ?_); refine box_event ?hg (N := 1) ?hd (cs := #[.int .i64 a0_0, .int .i64 a0_1, .int .i64 a0_2, .int .i64 a0_3, .int .i64 a0_4, .slice A0_5 l0_5.length c0_5]) (t := 56) ?hr ?_; (case hd => rfl); (case hg => rfl); (case hr => first | (go_simp; done) | (go_simp; rfl)); intro gb253 hg w3 hbox hb; have BK253 := Aside0.mk (hbox); have GW253 := Aside0.mk ((by rw [hg]; exact (below_size q2_) : w.heap.size ≤ gb253)); have GE253 := Aside0.mk ((by rw [hg]; exact (below_size q2_) : w.heap.size ≤ gb253)); replace HB := Aside0.mk (below_step q2_ hb); clear hb hbox hg) | ((with_reducible refine gate_dst (N := 2) rfl ?_); refine box_event ?hg (N := 2) ?hd (cs := #[.int .i64 0, .int .i64 0, .int .i64 0, .int .i64 0, .int .i64 0, .slice none 0 0]) (t := 56) ?hr ?_; (case hd => rfl); (case hg => rfl); (case hr => first | (go_simp; done) | (go_simp; rfl)); intro gb254 hg w4 hbox hb; have BK254 := Aside0.mk (hbox); have GW254 := Aside0.mk ((by rw [hg]; exact (below_size q119_) : w.heap.size ≤ gb254)); have GE254 := Aside0.mk ((by rw [hg]; exact (below_size q119_) : w.heap.size ≤ gb254)); have NB253_254 := Aside0.mk (nl_ (g := gb253) hg q110_); have NB254_253 := Aside0.mk (ng_ (g := gb253) hg q110_); replace BK253 := Aside0.mk (blk_below (g := gb253) q110_ hb); replace HB := Aside0.mk (below_step q119_ hb); clear hb hbox hg) | ((with_reducible refine gate_dst (N := 3) rfl ?_); refine Kd.R_lit k87 _ 87 ?hg (N := 3) ?hd (xs := ([] : List (S87))) (inner := []) (ok := fun _ => True) (okp := fun _ => True) ?hr ?hp (fun _ hk => hk) trivial (Below.refl _ _) (Nat.le_refl _) (by simp) ?_; (case hd => rfl); (case hg => rfl); (case hr => first | (go_simp; done) | (go_simp; rfl)); (case hp => exact (Reps.none _ _)); intro v256 w5 ho6 hb hg_ hnew_; clear hg_ hnew_; (first | rw [← Ny255.out] at ho6 | (simp only [Int.reduceToNat] at ho6; rw [← Ny255.out] at ho6)); have HO257 := Aside0.mk (Kd.R_lower ho6 (below_size q97_)); replace BK253 := Aside0.mk (blk_below (g := gb253) q110_ hb); replace BK254 := Aside0.mk (blk_below (g := gb254) (by (with_reducible repeat (first | refine blk_drewN ?_ _ | refine blk_drew ?_ | refine blk_alloc ?_ _)); exact BK254.out) hb); replace HB := Aside0.mk (below_step q97_ hb); clear hb ho6; have hnb7 := NB253_254.out; have hnc7 := NB254_253.out; obtain ⟨hcz8_0, hcz8_1, hcz8_2, hcz8_3, hcz8_4, hcz8_5, hfz8_0, hfz8_1, hfz8_2, hfz8_3, hfz8_4, hfz8_5⟩ := cells6_ BK253.out) | ((with_reducible refine gate_builtin (b := .append) (xs := #[.tmp 3, .tmp 5]) rfl ?_); at_builtin; refine Kd.R_append_rows k87 (w0 := w) w.heap.size rfl (.tmp 3) (.tmp 5) 54 87 (.agg #[(.bool false), (.int .i64 0), (.string ⟨#[]⟩)]) 32 rfl Try.underlying54 info87 rfl (by decide) (by omega) v256 y255 l0_5 _ _ _ (fun _ => True) (fun _ => False) rfl rfl ?aO ?aR (fun _ _ h => h) (fun _ h => h.elim) ?aF ?aB ?aS ?aL ?_; (case aR => repeat (first | exact (Kd.C_below HR0_5.out HB.out) | (with_reducible refine Kd.C_alloc ?_ _) | (with_reducible refine Kd.C_drewN ?_ _) | (with_reducible refine Kd.C_drew ?_))); (case aB => exact q97_); (case aF => exact (fun _ _ => trivial)); (case aO => exact (by (with_reducible repeat (first | apply Kd.R_alloc | apply Kd.R_drewN | apply Kd.R_drew)); exact HO257.out)); (case aS => exact (below_size q97_)); (case aL => have := LMc2.out; omega); intro v259 w9 ho hb hg hat; rw [← Ny258.out] at ho; have HO260 := Aside0.mk (ho); replace BK253 := Aside0.mk (blk_grown (g := gb253) (o := .cells #[.int .i64 a0_0, .int .i64 a0_1, .int .i64 a0_2, .int .i64 a0_3, .int .i64 a0_4, .slice A0_5 l0_5.length c0_5] 56 (0, 0)) q110_ hg (Kd.R_ne HO257.out BK253.out (by decide))); replace BK254 := Aside0.mk (blk_grown (g := gb254) (o := .cells #[.int .i64 0, .int .i64 0, .int .i64 0, .int .i64 0, .int .i64 0, .slice none 0 0] 56 (0, 0)) (by (with_reducible repeat (first | refine blk_drewN ?_ _ | refine blk_drew ?_ | refine blk_alloc ?_ _)); exact BK254.out) hg (Kd.R_ne HO257.out BK254.out (by decide))); replace HB := Aside0.mk (hb); clear HO257; clear ho hb hg hat; obtain ⟨Ao10, co10, eo10⟩ := Kd.R_slice HO260.out; subst eo10; obtain ⟨hcz11_0, hcz11_1, hcz11_2, hcz11_3, hcz11_4, hcz11_5, hfz11_0, hfz11_1, hfz11_2, hfz11_3, hfz11_4, hfz11_5⟩ := cells6_ BK253.out; obtain ⟨hcz12_0, hcz12_1, hcz12_2, hcz12_3, hcz12_4, hcz12_5, hfz12_0, hfz12_1, hfz12_2, hfz12_3, hfz12_4, hfz12_5⟩ := cells6_ BK254.out))
 refine bodyPost_ret (results_cell_row rfl _ _ gb254 56 #[.int .i64 a0_0, .int .i64 a0_1, .int .i64 a0_2, .int .i64 a0_3, .int .i64 a0_4, .slice Ao10 y258.length co10] (0, 0) _ rfl (by (with_reducible repeat (first | refine blk_drewN ?_ _ | refine blk_drew ?_ | refine blk_alloc ?_ _)); refine put6_ (cs := #[.int .i64 0, .int .i64 0, .int .i64 0, .int .i64 0, .int .i64 0, .slice none 0 0]) ?_ rfl; (with_reducible repeat (first | refine blk_drewN ?_ _ | refine blk_drew ?_ | refine blk_alloc ?_ _)); refine blk_far ?_ NB254_253.out _; (with_reducible repeat (first | refine blk_drewN ?_ _ | refine blk_drew ?_ | refine blk_alloc ?_ _)); exact BK254.out) Try.underlying56 rfl (by kernel_rfl)) rfl ?_
 exact ⟨_, by first | rfl | (simp [errW_none, errW_some] <;> rfl) | (simp [*, errW_none, errW_some] <;> rfl), by (with_reducible repeat (first | apply Kd.R_alloc | apply Kd.R_drewN | apply Kd.R_drew)); exact Kd.R_mono (Kd.R_far (p := ⟨gb254, 5, none⟩) (Kd.R_far (p := ⟨gb254, 4, none⟩) (Kd.R_far (p := ⟨gb254, 3, none⟩) (Kd.R_far (p := ⟨gb254, 2, none⟩) (Kd.R_far (p := ⟨gb254, 1, none⟩) (Kd.R_far (p := ⟨gb254, 0, none⟩) (Kd.R_far (p := ⟨gb253, 5, none⟩) (Kd.R_types (Kd.R_types HO260.out BK253.out (by decide)) BK254.out (by decide)) (fun _ hk => hk.1.2) (.slice Ao10 y258.length co10)) (fun _ hk => hk.2) (.int .i64 a0_0)) (fun _ hk => hk.2) (.int .i64 a0_1)) (fun _ hk => hk.2) (.int .i64 a0_2)) (fun _ hk => hk.2) (.int .i64 a0_3)) (fun _ hk => hk.2) (.int .i64 a0_4)) (fun _ hk => hk.2) (.slice Ao10 y258.length co10)) (fun _ hk => trivial), by repeat (first | (with_reducible first | exact HB.out | apply below_alloc | apply pw_below_drewN | apply below_drew1 | refine below_set ?_ GE253.out | refine below_set ?_ GE254.out) | exact HB.out)⟩
mutual
def skiffref16_Upload.j0 : Nat → ByteArray → Int → Int → Bool → Int → Int → Int → Int → Int → List (S87) → Option (Int × Int × Int × Int × Int × (List (S87)) × ByteArray × Int)
 | 0, _, _, _, _, _, _, _, _, _, _ => none
 | k + 1, x0, x2, x3, x41, x262000, x262001, x262002, x262003, x262004, x262005 => if x41 = true then (some (0, 0, 0, 0, 0, ([] : List (S87)), (⟨#[]⟩ : ByteArray), 2000)) else ((skiffref1_Active.f k x0).bind fun bt268 => (if bt268.2.2.2.2.2 = 0 then (if x262000 = 0 then (skiffref16_Upload.j1 k x0 x2 x3 0 x262000 x262001 x262002 x262003 x262004 x262005 bt268.1 bt268.2.1 bt268.2.2.1 bt268.2.2.2.1 bt268.2.2.2.2.1) else (skiffref16_Upload.j1 k x0 x2 x3 x262002 x262000 x262001 x262002 x262003 x262004 x262005 bt268.1 bt268.2.1 bt268.2.2.1 bt268.2.2.2.1 bt268.2.2.2.2.1)) else ((skiffref16_failed.f 2).bind fun bt275 => (some (bt275.1, bt275.2.1, bt275.2.2.1, bt275.2.2.2.1, bt275.2.2.2.2.1, bt275.2.2.2.2.2, (⟨#[]⟩ : ByteArray), 0)))))
def skiffref16_Upload.j1 : Nat → ByteArray → Int → Int → Int → Int → Int → Int → Int → Int → List (S87) → Int → Int → Int → Int → Int → Option (Int × Int × Int × Int × Int × (List (S87)) × ByteArray × Int)
 | 0, _, _, _, _, _, _, _, _, _, _, _, _, _, _, _ => none
 | k + 1, x0, x2, x3, x13, x262000, x262001, x262002, x262003, x262004, x262005, x275000, x275001, x275002, x275003, x275004 => if x2 = x13 then ((skiffref1_ImageOf.f x0 x275001 x275002 x275003 x275004).bind fun bt291 => (if 0 ≤ (mn (bt291.1.size : Int) (wrap64 (32 * x13))) then (if (mn (bt291.1.size : Int) (wrap64 (32 * x13))) ≤ (mn (bt291.1.size : Int) (wrap64 ((mn (bt291.1.size : Int) (wrap64 (32 * x13))) + x3))) then (if (mn (bt291.1.size : Int) (wrap64 ((mn (bt291.1.size : Int) (wrap64 (32 * x13))) + x3))) ≤ (bt291.1.size : Int) then (if ((bt291.1.extract ((mn (bt291.1.size : Int) (wrap64 (32 * x13))) : Int).toNat ((mn (bt291.1.size : Int) (wrap64 ((mn (bt291.1.size : Int) (wrap64 (32 * x13))) + x3))) : Int).toNat).size : Int) < 32 then ((skiffref16_NewDevice.f).bind fun bt293 => (some (bt293.1, bt293.2.1, bt293.2.2.1, bt293.2.2.2.1, bt293.2.2.2.2.1, bt293.2.2.2.2.2, bt291.1.extract ((mn (bt291.1.size : Int) (wrap64 (32 * x13))) : Int).toNat ((mn (bt291.1.size : Int) (wrap64 ((mn (bt291.1.size : Int) (wrap64 (32 * x13))) + x3))) : Int).toNat, 0))) else ((skiffref16_copyDevice.f x262000 x262001 x262002 x262003 x262004 x262005).bind fun bt301 => (some (6, bt301.2.1, mn (wrap64 (x13 + 1)) 16, bt301.2.2.2.1, bt301.2.2.2.2.1, bt301.2.2.2.2.2, bt291.1.extract ((mn (bt291.1.size : Int) (wrap64 (32 * x13))) : Int).toNat ((mn (bt291.1.size : Int) (wrap64 ((mn (bt291.1.size : Int) (wrap64 (32 * x13))) + x3))) : Int).toNat, 0)))) else (none)) else (none)) else (none))) else ((skiffref16_failed.f 4).bind fun bt283 => (some (bt283.1, bt283.2.1, bt283.2.2.1, bt283.2.2.2.1, bt283.2.2.2.2.1, bt283.2.2.2.2.2, (⟨#[]⟩ : ByteArray), 0)))
end
def skiffref16_Upload.f (k : Nat) (a0 : ByteArray) (a1_0 : Int) (a1_1 : Int) (a1_2 : Int) (a1_3 : Int) (a1_4 : Int) (l1_5 : List (S87)) (a2 : Int) (a3 : Int) : Option (Int × Int × Int × Int × Int × (List (S87)) × ByteArray × Int) := (skiffref16_both.f k a0 a1_0 a1_1 a1_2 a1_3 a1_4 l1_5).bind fun t263 => (if t263 = true then (if a1_0 = 0 then ((skiffref16_upTo.f a2 0 65535).bind fun t264 => (if t264 = true then ((skiffref16_upTo.f a3 0 32).bind fun t265 => (skiffref16_Upload.j0 k a0 a2 a3 (!t265) a1_0 a1_1 a1_2 a1_3 a1_4 l1_5)) else (skiffref16_Upload.j0 k a0 a2 a3 true a1_0 a1_1 a1_2 a1_3 a1_4 l1_5))) else (if a1_0 = 6 then ((skiffref16_upTo.f a2 0 65535).bind fun t266 => (if t266 = true then ((skiffref16_upTo.f a3 0 32).bind fun t267 => (skiffref16_Upload.j0 k a0 a2 a3 (!t267) a1_0 a1_1 a1_2 a1_3 a1_4 l1_5)) else (skiffref16_Upload.j0 k a0 a2 a3 true a1_0 a1_1 a1_2 a1_3 a1_4 l1_5))) else (skiffref16_Upload.j0 k a0 a2 a3 true a1_0 a1_1 a1_2 a1_3 a1_4 l1_5))) else (skiffref16_Upload.j0 k a0 a2 a3 true a1_0 a1_1 a1_2 a1_3 a1_4 l1_5))
set_option maxHeartbeats 8000000 in
set_option maxRecDepth 100000 in
theorem skiffref16_Upload.calls (k : Nat) (a0 : ByteArray) (a1_0 : Int) (a1_1 : Int) (a1_2 : Int) (a1_3 : Int) (a1_4 : Int) (A1_5 : Option Addr) (c1_5 : Nat) (l1_5 : List (S87)) (a2 : Int) (a3 : Int) (r1 : Int) (r2 : Int) (r3 : Int) (r4 : Int) (r5 : Int) (r6 : List (S87)) (r7 : ByteArray) (r8 : Int) (w : World) (hr1_5 : Kd.C k87 w A1_5 l1_5.length l1_5) (hc1_5 : l1_5.length ≤ c1_5) (h : skiffref16_Upload.f k a0 a1_0 a1_1 a1_2 a1_3 a1_4 l1_5 a2 a3 = some (r1, r2, r3, r4, r5, r6, r7, r8)) :
  Calls Try.prog 25 #[.string a0, .agg #[.int .i64 a1_0, .int .i64 a1_1, .int .i64 a1_2, .int .i64 a1_3, .int .i64 a1_4, .slice A1_5 l1_5.length c1_5], .int .i64 a2, .int .i64 a3] w fun e w' => ∃ v5_ : Value, e = .returned (.tuple #[.agg #[.int .i64 r1, .int .i64 r2, .int .i64 r3, .int .i64 r4, .int .i64 r5, v5_], .string r7, .int .i64 r8]) ∧ Kd.R k87 87 w' w.heap.size (fun _ => True) v5_ r6 ∧ Below w.heap.size w w' := by
 have hu56 := Try.underlying56
 have hu25 := Try.underlying25
 have hu23 := Try.underlying23
 have HR1_5 := Aside0.mk hr1_5
 have HC1_5 := Aside0.mk hc1_5
 clear hr1_5 hc1_5
 have HB := Aside0.mk (Below.refl w.heap.size w)
 have H : ((skiffref16_both.f k a0 a1_0 a1_1 a1_2 a1_3 a1_4 l1_5).bind fun t263 => (if t263 = true then (if a1_0 = 0 then ((skiffref16_upTo.f a2 0 65535).bind fun t264 => (if t264 = true then ((skiffref16_upTo.f a3 0 32).bind fun t265 => (skiffref16_Upload.j0 k a0 a2 a3 (!t265) a1_0 a1_1 a1_2 a1_3 a1_4 l1_5)) else (skiffref16_Upload.j0 k a0 a2 a3 true a1_0 a1_1 a1_2 a1_3 a1_4 l1_5))) else (if a1_0 = 6 then ((skiffref16_upTo.f a2 0 65535).bind fun t266 => (if t266 = true then ((skiffref16_upTo.f a3 0 32).bind fun t267 => (skiffref16_Upload.j0 k a0 a2 a3 (!t267) a1_0 a1_1 a1_2 a1_3 a1_4 l1_5)) else (skiffref16_Upload.j0 k a0 a2 a3 true a1_0 a1_1 a1_2 a1_3 a1_4 l1_5))) else (skiffref16_Upload.j0 k a0 a2 a3 true a1_0 a1_1 a1_2 a1_3 a1_4 l1_5))) else (skiffref16_Upload.j0 k a0 a2 a3 true a1_0 a1_1 a1_2 a1_3 a1_4 l1_5))) = some (r1, r2, r3, r4, r5, r6, r7, r8) := h
 clear h
 have HC5 := Aside0.mk H
 clear H
 go_enter Try.func25, Try.ntmps25
 go_upto_region 1 with (first | ((with_reducible refine gate_dst (N := 5) rfl ?_); refine box_event ?hg (N := 5) ?hd (cs := #[.int .i64 a1_0, .int .i64 a1_1, .int .i64 a1_2, .int .i64 a1_3, .int .i64 a1_4, .slice A1_5 l1_5.length c1_5]) (t := 56) ?hr ?_; (case hd => rfl); (case hg => rfl); (case hr => first | (go_simp; done) | (go_simp; rfl)); intro gb261 hg w6 hbox hb; have BK261 := Aside0.mk (hbox); have GW261 := Aside0.mk ((by rw [hg]; exact (below_size q2_) : w.heap.size ≤ gb261)); have GE261 := Aside0.mk ((by rw [hg]; exact (below_size q2_) : w.heap.size ≤ gb261)); replace HB := Aside0.mk (below_step q2_ hb); clear hb hbox hg) | ((with_reducible refine gate_dst (N := 8) rfl ?_); refine box_event ?hg (N := 8) ?hd (cs := #[.int .i64 0, .int .i64 0, .int .i64 0, .int .i64 0, .int .i64 0, .slice none 0 0]) (t := 56) ?hr ?_; (case hd => rfl); (case hg => rfl); (case hr => first | (go_simp; done) | (go_simp; rfl)); intro gb262 hg w7 hbox hb; have BK262 := Aside0.mk (hbox); have GW262 := Aside0.mk ((by rw [hg]; exact (below_size q118_) : w.heap.size ≤ gb262)); have GE262 := Aside0.mk ((by rw [hg]; exact (below_size q118_) : w.heap.size ≤ gb262)); have NB261_262 := Aside0.mk (nl_ (g := gb261) hg q25_); have NB262_261 := Aside0.mk (ng_ (g := gb261) hg q25_); replace BK261 := Aside0.mk (blk_below (g := gb261) q25_ hb); replace HB := Aside0.mk (below_step q118_ hb); clear hb hbox hg))
 (try simp only [Act.put, sl1_, sl2_, sl3_])
 go_cut [41] (fun v41 wc => ∃ (kq : Nat) (x41_4 : Bool), v41 = .bool x41_4 ∧ Aside0 (skiffref16_Upload.j0 kq a0 a2 a3 x41_4 a1_0 a1_1 a1_2 a1_3 a1_4 l1_5 = some (r1, r2, r3, r4, r5, r6, r7, r8)) ∧ Aside0 (kq ≤ k) ∧ Aside0 (wc.heap[gb261]? = some (.cells #[.int .i64 a1_0, .int .i64 a1_1, .int .i64 a1_2, .int .i64 a1_3, .int .i64 a1_4, (.slice A1_5 l1_5.length c1_5)] 56 (0, 0))) ∧ Aside0 (wc.heap[gb262]? = some (.cells #[.int .i64 0, .int .i64 0, .int .i64 0, .int .i64 0, .int .i64 0, (.slice none 0 0)] 56 (0, 0))) ∧ Aside0 (Below w.heap.size w wc))
 case first =>
  have H := HC5.out
  clear HC5
  replace H := Option.bind_eq_some_iff.mp H
  obtain ⟨t263, A80, H⟩ := H
  (try dsimp only at H)
  have A8 := Aside0.mk A80
  clear A80
  by_cases c9 : t263 = true
  rotate_left
  ·replace c9 := Bool.eq_false_iff.mpr c9
   subst c9
   have H1 : (skiffref16_Upload.j0 k a0 a2 a3 true a1_0 a1_1 a1_2 a1_3 a1_4 l1_5) = some (r1, r2, r3, r4, r5, r6, r7, r8) := by rw [if_neg (show ¬ (false = true) by decide)] at H; exact H
   clear H
   have H := H1
   clear H1
   have H' := Aside0.mk H
   clear H
   have hnb38 := NB261_262.out
   have hnc38 := NB262_261.out
   obtain ⟨hcz39_0, hcz39_1, hcz39_2, hcz39_3, hcz39_4, hcz39_5, hfz39_0, hfz39_1, hfz39_2, hfz39_3, hfz39_4, hfz39_5⟩ := cells6_ BK261.out
   go_wp2_with (first | ((with_reducible refine gate_callee (f := 54) rfl ?_); refine goesL_ (some 20) rfl rfl Try.func54 (by kernel_rfl) rfl #[.string a0, .agg #[.int .i64 a1_0, .int .i64 a1_1, .int .i64 a1_2, .int .i64 a1_3, .int .i64 a1_4, .slice A1_5 l1_5.length c1_5]] rfl q1_ ?_; (with_reducible refine (skiffref16_both.calls k a0 a1_0 a1_1 a1_2 a1_3 a1_4 _ _ l1_5 false _ ?side1 ?side2 A8.out).mono ?_); (case side1 => repeat (first | exact (Kd.C_below HR1_5.out HB.out) | (with_reducible refine Kd.C_alloc ?_ _) | (with_reducible refine Kd.C_drewN ?_ _) | (with_reducible refine Kd.C_drew ?_))); (case side2 => exact HC1_5.out); rintro e w40 ⟨rfl, hb⟩; refine ⟨_, rfl, ?_⟩; replace BK261 := Aside0.mk (blk_below (g := gb261) q25_ hb); replace BK262 := Aside0.mk (blk_below (g := gb262) q29_ hb); replace HB := Aside0.mk (below_step q24_ hb); (try clear hb); (try clear hb2); (try clear hk); (try clear hi)))
   go_meet
   case rel => exact ⟨_, (true), q17_, H', ⟨by first | omega | exact Nat.le_refl _⟩, ⟨by (with_reducible repeat (first | refine blk_drewN ?_ _ | refine blk_drew ?_ | refine blk_alloc ?_ _)); exact BK261.out⟩, ⟨by (with_reducible repeat (first | refine blk_drewN ?_ _ | refine blk_drew ?_ | refine blk_alloc ?_ _)); exact BK262.out⟩, ⟨by repeat (first | (with_reducible first | exact HB.out | apply below_alloc | apply pw_below_drewN | apply below_drew1 | refine below_set ?_ GE261.out | refine below_set ?_ GE262.out) | exact HB.out)⟩⟩
  subst c9
  have H1 : (if a1_0 = 0 then ((skiffref16_upTo.f a2 0 65535).bind fun t264 => (if t264 = true then ((skiffref16_upTo.f a3 0 32).bind fun t265 => (skiffref16_Upload.j0 k a0 a2 a3 (!t265) a1_0 a1_1 a1_2 a1_3 a1_4 l1_5)) else (skiffref16_Upload.j0 k a0 a2 a3 true a1_0 a1_1 a1_2 a1_3 a1_4 l1_5))) else (if a1_0 = 6 then ((skiffref16_upTo.f a2 0 65535).bind fun t266 => (if t266 = true then ((skiffref16_upTo.f a3 0 32).bind fun t267 => (skiffref16_Upload.j0 k a0 a2 a3 (!t267) a1_0 a1_1 a1_2 a1_3 a1_4 l1_5)) else (skiffref16_Upload.j0 k a0 a2 a3 true a1_0 a1_1 a1_2 a1_3 a1_4 l1_5))) else (skiffref16_Upload.j0 k a0 a2 a3 true a1_0 a1_1 a1_2 a1_3 a1_4 l1_5))) = some (r1, r2, r3, r4, r5, r6, r7, r8) := by rw [if_pos rfl] at H; exact H
  clear H
  have H := H1
  clear H1
  by_cases c10 : a1_0 = 0
  ·rw [if_pos c10] at H
   have c10b0 : (a1_0 == 0) = true := beq_iff_eq.mpr c10
   have c10b1 : (a1_0 != 0) = false := bne_eq_false_iff_eq.mpr c10
   clear c10
   (first | rw [c10b0] | (simp only [i64_w, i32_w]; rw [c10b0]) | skip)
   replace H := Option.bind_eq_some_iff.mp H
   obtain ⟨t264, A110, H⟩ := H
   (try dsimp only at H)
   have A11 := Aside0.mk A110
   clear A110
   by_cases c12 : t264 = true
   rotate_left
   ·replace c12 := Bool.eq_false_iff.mpr c12
    subst c12
    have H1 : (skiffref16_Upload.j0 k a0 a2 a3 true a1_0 a1_1 a1_2 a1_3 a1_4 l1_5) = some (r1, r2, r3, r4, r5, r6, r7, r8) := by rw [if_neg (show ¬ (false = true) by decide)] at H; exact H
    clear H
    have H := H1
    clear H1
    have H' := Aside0.mk H
    clear H
    have hnb18 := NB261_262.out
    have hnc18 := NB262_261.out
    obtain ⟨hcz19_0, hcz19_1, hcz19_2, hcz19_3, hcz19_4, hcz19_5, hfz19_0, hfz19_1, hfz19_2, hfz19_3, hfz19_4, hfz19_5⟩ := cells6_ BK261.out
    go_wp2_with (first | ((with_reducible refine gate_callee (f := 54) rfl ?_); refine goesL_ (some 20) rfl rfl Try.func54 (by kernel_rfl) rfl #[.string a0, .agg #[.int .i64 a1_0, .int .i64 a1_1, .int .i64 a1_2, .int .i64 a1_3, .int .i64 a1_4, .slice A1_5 l1_5.length c1_5]] rfl q1_ ?_; (with_reducible refine (skiffref16_both.calls k a0 a1_0 a1_1 a1_2 a1_3 a1_4 _ _ l1_5 true _ ?side1 ?side2 A8.out).mono ?_); (case side1 => repeat (first | exact (Kd.C_below HR1_5.out HB.out) | (with_reducible refine Kd.C_alloc ?_ _) | (with_reducible refine Kd.C_drewN ?_ _) | (with_reducible refine Kd.C_drew ?_))); (case side2 => exact HC1_5.out); rintro e w20 ⟨rfl, hb⟩; refine ⟨_, rfl, ?_⟩; replace BK261 := Aside0.mk (blk_below (g := gb261) q25_ hb); replace BK262 := Aside0.mk (blk_below (g := gb262) q29_ hb); replace HB := Aside0.mk (below_step q24_ hb); (try clear hb); (try clear hb2); (try clear hk); (try clear hi); obtain ⟨hcz21_0, hcz21_1, hcz21_2, hcz21_3, hcz21_4, hcz21_5, hfz21_0, hfz21_1, hfz21_2, hfz21_3, hfz21_4, hfz21_5⟩ := cells6_ BK261.out) | (go_at_call 55; (with_reducible refine (skiffref16_upTo.calls a2 0 65535 false _ A11.out).mono ?_); rintro e w' ⟨rfl, ⟨nd, rfl⟩⟩))
    go_meet
    case rel => exact ⟨_, (true), q17_, H', ⟨by first | omega | exact Nat.le_refl _⟩, ⟨by (with_reducible repeat (first | refine blk_drewN ?_ _ | refine blk_drew ?_ | refine blk_alloc ?_ _)); exact BK261.out⟩, ⟨by (with_reducible repeat (first | refine blk_drewN ?_ _ | refine blk_drew ?_ | refine blk_alloc ?_ _)); exact BK262.out⟩, ⟨by repeat (first | (with_reducible first | exact HB.out | apply below_alloc | apply pw_below_drewN | apply below_drew1 | refine below_set ?_ GE261.out | refine below_set ?_ GE262.out) | exact HB.out)⟩⟩
   subst c12
   have H1 : ((skiffref16_upTo.f a3 0 32).bind fun t265 => (skiffref16_Upload.j0 k a0 a2 a3 (!t265) a1_0 a1_1 a1_2 a1_3 a1_4 l1_5)) = some (r1, r2, r3, r4, r5, r6, r7, r8) := by rw [if_pos rfl] at H; exact H
   clear H
   have H := H1
   clear H1
   replace H := Option.bind_eq_some_iff.mp H
   obtain ⟨t265, A130, H⟩ := H
   (try dsimp only at H)
   have A13 := Aside0.mk A130
   clear A130
   have H' := Aside0.mk H
   clear H
   have hnb14 := NB261_262.out
   have hnc14 := NB262_261.out
   obtain ⟨hcz15_0, hcz15_1, hcz15_2, hcz15_3, hcz15_4, hcz15_5, hfz15_0, hfz15_1, hfz15_2, hfz15_3, hfz15_4, hfz15_5⟩ := cells6_ BK261.out
   go_wp2_with (first | ((with_reducible refine gate_callee (f := 54) rfl ?_); refine goesL_ (some 20) rfl rfl Try.func54 (by kernel_rfl) rfl #[.string a0, .agg #[.int .i64 a1_0, .int .i64 a1_1, .int .i64 a1_2, .int .i64 a1_3, .int .i64 a1_4, .slice A1_5 l1_5.length c1_5]] rfl q1_ ?_; (with_reducible refine (skiffref16_both.calls k a0 a1_0 a1_1 a1_2 a1_3 a1_4 _ _ l1_5 true _ ?side1 ?side2 A8.out).mono ?_); (case side1 => repeat (first | exact (Kd.C_below HR1_5.out HB.out) | (with_reducible refine Kd.C_alloc ?_ _) | (with_reducible refine Kd.C_drewN ?_ _) | (with_reducible refine Kd.C_drew ?_))); (case side2 => exact HC1_5.out); rintro e w16 ⟨rfl, hb⟩; refine ⟨_, rfl, ?_⟩; replace BK261 := Aside0.mk (blk_below (g := gb261) q25_ hb); replace BK262 := Aside0.mk (blk_below (g := gb262) q29_ hb); replace HB := Aside0.mk (below_step q24_ hb); (try clear hb); (try clear hb2); (try clear hk); (try clear hi); obtain ⟨hcz17_0, hcz17_1, hcz17_2, hcz17_3, hcz17_4, hcz17_5, hfz17_0, hfz17_1, hfz17_2, hfz17_3, hfz17_4, hfz17_5⟩ := cells6_ BK261.out) | (go_at_call 55; (with_reducible refine (skiffref16_upTo.calls a2 0 65535 true _ A11.out).mono ?_); rintro e w' ⟨rfl, ⟨nd, rfl⟩⟩) | (go_at_call 55; (with_reducible refine (skiffref16_upTo.calls a3 0 32 t265 _ A13.out).mono ?_); rintro e w' ⟨rfl, ⟨nd, rfl⟩⟩))
   go_meet
   case rel => exact ⟨_, (!t265), q17_, H', ⟨by first | omega | exact Nat.le_refl _⟩, ⟨by (with_reducible repeat (first | refine blk_drewN ?_ _ | refine blk_drew ?_ | refine blk_alloc ?_ _)); exact BK261.out⟩, ⟨by (with_reducible repeat (first | refine blk_drewN ?_ _ | refine blk_drew ?_ | refine blk_alloc ?_ _)); exact BK262.out⟩, ⟨by repeat (first | (with_reducible first | exact HB.out | apply below_alloc | apply pw_below_drewN | apply below_drew1 | refine below_set ?_ GE261.out | refine below_set ?_ GE262.out) | exact HB.out)⟩⟩
  rw [if_neg c10] at H
  have c10b0 : (a1_0 == 0) = false := beq_eq_false_iff_ne.mpr c10
  have c10b1 : (a1_0 != 0) = true := bne_iff_ne.mpr c10
  (first | rw [c10b0] | (simp only [i64_w, i32_w]; rw [c10b0]) | skip)
  by_cases c22 : a1_0 = 6
  rotate_left
  ·rw [if_neg c22] at H
   have c22b0 : (a1_0 == 6) = false := beq_eq_false_iff_ne.mpr c22
   have c22b1 : (a1_0 != 6) = true := bne_iff_ne.mpr c22
   have H' := Aside0.mk H
   clear H
   have hnb34 := NB261_262.out
   have hnc34 := NB262_261.out
   obtain ⟨hcz35_0, hcz35_1, hcz35_2, hcz35_3, hcz35_4, hcz35_5, hfz35_0, hfz35_1, hfz35_2, hfz35_3, hfz35_4, hfz35_5⟩ := cells6_ BK261.out
   go_wp2_with (first | ((with_reducible refine gate_callee (f := 54) rfl ?_); refine goesL_ (some 20) rfl rfl Try.func54 (by kernel_rfl) rfl #[.string a0, .agg #[.int .i64 a1_0, .int .i64 a1_1, .int .i64 a1_2, .int .i64 a1_3, .int .i64 a1_4, .slice A1_5 l1_5.length c1_5]] rfl q1_ ?_; (with_reducible refine (skiffref16_both.calls k a0 a1_0 a1_1 a1_2 a1_3 a1_4 _ _ l1_5 true _ ?side1 ?side2 A8.out).mono ?_); (case side1 => repeat (first | exact (Kd.C_below HR1_5.out HB.out) | (with_reducible refine Kd.C_alloc ?_ _) | (with_reducible refine Kd.C_drewN ?_ _) | (with_reducible refine Kd.C_drew ?_))); (case side2 => exact HC1_5.out); rintro e w36 ⟨rfl, hb⟩; refine ⟨_, rfl, ?_⟩; replace BK261 := Aside0.mk (blk_below (g := gb261) q25_ hb); replace BK262 := Aside0.mk (blk_below (g := gb262) q29_ hb); replace HB := Aside0.mk (below_step q24_ hb); (try clear hb); (try clear hb2); (try clear hk); (try clear hi); obtain ⟨hcz37_0, hcz37_1, hcz37_2, hcz37_3, hcz37_4, hcz37_5, hfz37_0, hfz37_1, hfz37_2, hfz37_3, hfz37_4, hfz37_5⟩ := cells6_ BK261.out))
   go_meet
   case rel => exact ⟨_, (true), q17_, H', ⟨by first | omega | exact Nat.le_refl _⟩, ⟨by (with_reducible repeat (first | refine blk_drewN ?_ _ | refine blk_drew ?_ | refine blk_alloc ?_ _)); exact BK261.out⟩, ⟨by (with_reducible repeat (first | refine blk_drewN ?_ _ | refine blk_drew ?_ | refine blk_alloc ?_ _)); exact BK262.out⟩, ⟨by repeat (first | (with_reducible first | exact HB.out | apply below_alloc | apply pw_below_drewN | apply below_drew1 | refine below_set ?_ GE261.out | refine below_set ?_ GE262.out) | exact HB.out)⟩⟩
  rw [if_pos c22] at H
  have c22b0 : (a1_0 == 6) = true := beq_iff_eq.mpr c22
  have c22b1 : (a1_0 != 6) = false := bne_eq_false_iff_eq.mpr c22
  clear c22
  replace H := Option.bind_eq_some_iff.mp H
  obtain ⟨t266, A230, H⟩ := H
  (try dsimp only at H)
  have A23 := Aside0.mk A230
  clear A230
  by_cases c24 : t266 = true
  rotate_left
  ·replace c24 := Bool.eq_false_iff.mpr c24
   subst c24
   have H1 : (skiffref16_Upload.j0 k a0 a2 a3 true a1_0 a1_1 a1_2 a1_3 a1_4 l1_5) = some (r1, r2, r3, r4, r5, r6, r7, r8) := by rw [if_neg (show ¬ (false = true) by decide)] at H; exact H
   clear H
   have H := H1
   clear H1
   have H' := Aside0.mk H
   clear H
   have hnb30 := NB261_262.out
   have hnc30 := NB262_261.out
   obtain ⟨hcz31_0, hcz31_1, hcz31_2, hcz31_3, hcz31_4, hcz31_5, hfz31_0, hfz31_1, hfz31_2, hfz31_3, hfz31_4, hfz31_5⟩ := cells6_ BK261.out
   go_wp2_with (first | ((with_reducible refine gate_callee (f := 54) rfl ?_); refine goesL_ (some 20) rfl rfl Try.func54 (by kernel_rfl) rfl #[.string a0, .agg #[.int .i64 a1_0, .int .i64 a1_1, .int .i64 a1_2, .int .i64 a1_3, .int .i64 a1_4, .slice A1_5 l1_5.length c1_5]] rfl q1_ ?_; (with_reducible refine (skiffref16_both.calls k a0 a1_0 a1_1 a1_2 a1_3 a1_4 _ _ l1_5 true _ ?side1 ?side2 A8.out).mono ?_); (case side1 => repeat (first | exact (Kd.C_below HR1_5.out HB.out) | (with_reducible refine Kd.C_alloc ?_ _) | (with_reducible refine Kd.C_drewN ?_ _) | (with_reducible refine Kd.C_drew ?_))); (case side2 => exact HC1_5.out); rintro e w32 ⟨rfl, hb⟩; refine ⟨_, rfl, ?_⟩; replace BK261 := Aside0.mk (blk_below (g := gb261) q25_ hb); replace BK262 := Aside0.mk (blk_below (g := gb262) q29_ hb); replace HB := Aside0.mk (below_step q24_ hb); (try clear hb); (try clear hb2); (try clear hk); (try clear hi); obtain ⟨hcz33_0, hcz33_1, hcz33_2, hcz33_3, hcz33_4, hcz33_5, hfz33_0, hfz33_1, hfz33_2, hfz33_3, hfz33_4, hfz33_5⟩ := cells6_ BK261.out) | (go_at_call 55; (with_reducible refine (skiffref16_upTo.calls a2 0 65535 false _ A23.out).mono ?_); rintro e w' ⟨rfl, ⟨nd, rfl⟩⟩))
   go_meet
   case rel => exact ⟨_, (true), q17_, H', ⟨by first | omega | exact Nat.le_refl _⟩, ⟨by (with_reducible repeat (first | refine blk_drewN ?_ _ | refine blk_drew ?_ | refine blk_alloc ?_ _)); exact BK261.out⟩, ⟨by (with_reducible repeat (first | refine blk_drewN ?_ _ | refine blk_drew ?_ | refine blk_alloc ?_ _)); exact BK262.out⟩, ⟨by repeat (first | (with_reducible first | exact HB.out | apply below_alloc | apply pw_below_drewN | apply below_drew1 | refine below_set ?_ GE261.out | refine below_set ?_ GE262.out) | exact HB.out)⟩⟩
  subst c24
  have H1 : ((skiffref16_upTo.f a3 0 32).bind fun t267 => (skiffref16_Upload.j0 k a0 a2 a3 (!t267) a1_0 a1_1 a1_2 a1_3 a1_4 l1_5)) = some (r1, r2, r3, r4, r5, r6, r7, r8) := by rw [if_pos rfl] at H; exact H
  clear H
  have H := H1
  clear H1
  replace H := Option.bind_eq_some_iff.mp H
  obtain ⟨t267, A250, H⟩ := H
  (try dsimp only at H)
  have A25 := Aside0.mk A250
  clear A250
  have H' := Aside0.mk H
  clear H
  have hnb26 := NB261_262.out
  have hnc26 := NB262_261.out
  obtain ⟨hcz27_0, hcz27_1, hcz27_2, hcz27_3, hcz27_4, hcz27_5, hfz27_0, hfz27_1, hfz27_2, hfz27_3, hfz27_4, hfz27_5⟩ := cells6_ BK261.out
  go_wp2_with (first | ((with_reducible refine gate_callee (f := 54) rfl ?_); refine goesL_ (some 20) rfl rfl Try.func54 (by kernel_rfl) rfl #[.string a0, .agg #[.int .i64 a1_0, .int .i64 a1_1, .int .i64 a1_2, .int .i64 a1_3, .int .i64 a1_4, .slice A1_5 l1_5.length c1_5]] rfl q1_ ?_; (with_reducible refine (skiffref16_both.calls k a0 a1_0 a1_1 a1_2 a1_3 a1_4 _ _ l1_5 true _ ?side1 ?side2 A8.out).mono ?_); (case side1 => repeat (first | exact (Kd.C_below HR1_5.out HB.out) | (with_reducible refine Kd.C_alloc ?_ _) | (with_reducible refine Kd.C_drewN ?_ _) | (with_reducible refine Kd.C_drew ?_))); (case side2 => exact HC1_5.out); rintro e w28 ⟨rfl, hb⟩; refine ⟨_, rfl, ?_⟩; replace BK261 := Aside0.mk (blk_below (g := gb261) q25_ hb); replace BK262 := Aside0.mk (blk_below (g := gb262) q29_ hb); replace HB := Aside0.mk (below_step q24_ hb); (try clear hb); (try clear hb2); (try clear hk); (try clear hi); obtain ⟨hcz29_0, hcz29_1, hcz29_2, hcz29_3, hcz29_4, hcz29_5, hfz29_0, hfz29_1, hfz29_2, hfz29_3, hfz29_4, hfz29_5⟩ := cells6_ BK261.out) | (go_at_call 55; (with_reducible refine (skiffref16_upTo.calls a2 0 65535 true _ A23.out).mono ?_); rintro e w' ⟨rfl, ⟨nd, rfl⟩⟩) | (go_at_call 55; (with_reducible refine (skiffref16_upTo.calls a3 0 32 t267 _ A25.out).mono ?_); rintro e w' ⟨rfl, ⟨nd, rfl⟩⟩))
  go_meet
  case rel => exact ⟨_, (!t267), q17_, H', ⟨by first | omega | exact Nat.le_refl _⟩, ⟨by (with_reducible repeat (first | refine blk_drewN ?_ _ | refine blk_drew ?_ | refine blk_alloc ?_ _)); exact BK261.out⟩, ⟨by (with_reducible repeat (first | refine blk_drewN ?_ _ | refine blk_drew ?_ | refine blk_alloc ?_ _)); exact BK262.out⟩, ⟨by repeat (first | (with_reducible first | exact HB.out | apply below_alloc | apply pw_below_drewN | apply below_drew1 | refine below_set ?_ GE261.out | refine below_set ?_ GE262.out) | exact HB.out)⟩⟩
 case rest =>
  clear HC5
  try clear c1
  try clear c2
  try clear p2
  try clear c3
  try clear c5
  try clear c9
  try clear c10
  try clear c10b0
  try clear c10b1
  try clear c12
  try clear c14
  try clear c18
  try clear c22
  try clear c22b0
  try clear c22b1
  try clear c24
  try clear c25
  try clear c26
  try clear hcz15_0
  try clear hcz15_1
  try clear hcz15_2
  try clear hcz15_3
  try clear hcz15_4
  try clear hcz15_5
  try clear hcz17_0
  try clear hcz17_1
  try clear hcz17_2
  try clear hcz17_3
  try clear hcz17_4
  try clear hcz17_5
  try clear hcz19_0
  try clear hcz19_1
  try clear hcz19_2
  try clear hcz19_3
  try clear hcz19_4
  try clear hcz19_5
  try clear hcz21_0
  try clear hcz21_1
  try clear hcz21_2
  try clear hcz21_3
  try clear hcz21_4
  try clear hcz21_5
  try clear hcz27_0
  try clear hcz27_1
  try clear hcz27_2
  try clear hcz27_3
  try clear hcz27_4
  try clear hcz27_5
  try clear hcz29_0
  try clear hcz29_1
  try clear hcz29_2
  try clear hcz29_3
  try clear hcz29_4
  try clear hcz29_5
  try clear hcz31_0
  try clear hcz31_1
  try clear hcz31_2
  try clear hcz31_3
  try clear hcz31_4
  try clear hcz31_5
  try clear hcz33_0
  try clear hcz33_1
  try clear hcz33_2
  try clear hcz33_3
  try clear hcz33_4
  try clear hcz33_5
  try clear hcz35_0
  try clear hcz35_1
  try clear hcz35_2
  try clear hcz35_3
  try clear hcz35_4
  try clear hcz35_5
  try clear hcz37_0
  try clear hcz37_1
  try clear hcz37_2
  try clear hcz37_3
  try clear hcz37_4
  try clear hcz37_5
  try clear hcz39_0
  try clear hcz39_1
  try clear hcz39_2
  try clear hcz39_3
  try clear hcz39_4
  try clear hcz39_5
  try clear hfz15_0
  try clear hfz15_1
  try clear hfz15_2
  try clear hfz15_3
  try clear hfz15_4
  try clear hfz15_5
  try clear hfz17_0
  try clear hfz17_1
  try clear hfz17_2
  try clear hfz17_3
  try clear hfz17_4
  try clear hfz17_5
  try clear hfz19_0
  try clear hfz19_1
  try clear hfz19_2
  try clear hfz19_3
  try clear hfz19_4
  try clear hfz19_5
  try clear hfz21_0
  try clear hfz21_1
  try clear hfz21_2
  try clear hfz21_3
  try clear hfz21_4
  try clear hfz21_5
  try clear hfz27_0
  try clear hfz27_1
  try clear hfz27_2
  try clear hfz27_3
  try clear hfz27_4
  try clear hfz27_5
  try clear hfz29_0
  try clear hfz29_1
  try clear hfz29_2
  try clear hfz29_3
  try clear hfz29_4
  try clear hfz29_5
  try clear hfz31_0
  try clear hfz31_1
  try clear hfz31_2
  try clear hfz31_3
  try clear hfz31_4
  try clear hfz31_5
  try clear hfz33_0
  try clear hfz33_1
  try clear hfz33_2
  try clear hfz33_3
  try clear hfz33_4
  try clear hfz33_5
  try clear hfz35_0
  try clear hfz35_1
  try clear hfz35_2
  try clear hfz35_3
  try clear hfz35_4
  try clear hfz35_5
  try clear hfz37_0
  try clear hfz37_1
  try clear hfz37_2
  try clear hfz37_3
  try clear hfz37_4
  try clear hfz37_5
  try clear hfz39_0
  try clear hfz39_1
  try clear hfz39_2
  try clear hfz39_3
  try clear hfz39_4
  try clear hfz39_5
  obtain ⟨kq, x41_4, rfl, HA, HJ4, BK261, BK262, HB⟩ := hcut
  cases kq with
  | zero => exact absurd HA.out (by simp [skiffref16_Upload.j0])
  | succ kj4 =>
   have H := HA.out
   clear HA
   simp only [skiffref16_Upload.j0] at H
   by_cases c41 : x41_4 = true
   ·subst c41
    have H1 : (some (0, 0, 0, 0, 0, ([] : List (S87)), (⟨#[]⟩ : ByteArray), 2000)) = some (r1, r2, r3, r4, r5, r6, r7, r8) := by rw [if_pos rfl] at H; exact H
    clear H
    have H := H1
    clear H1
    simp only [Option.some.injEq, Prod.mk.injEq] at H
    obtain ⟨rfl, rfl, rfl, rfl, rfl, rfl, rfl, rfl⟩ := H
    have hnb42 := NB262_261.out
    have hnc42 := NB261_262.out
    obtain ⟨hcz43_0, hcz43_1, hcz43_2, hcz43_3, hcz43_4, hcz43_5, hfz43_0, hfz43_1, hfz43_2, hfz43_3, hfz43_4, hfz43_5⟩ := cells6_ BK262.out
    go_wp2
    refine bodyPost_ret (results_ctt rfl _ _ gb262 56 #[.int .i64 0, .int .i64 0, .int .i64 0, .int .i64 0, .int .i64 0, .slice none 0 0] (0, 0) _ rfl q39_ Try.underlying56 rfl (by kernel_rfl)) rfl ?_
    exact ⟨_, by first | rfl | (simp [errW_none, errW_some] <;> rfl) | (simp [*, errW_none, errW_some] <;> rfl), by first | exact Kd.R_nil _ _ _ _ _ | exact Kd.N_nil _ _ _ _ _ | exact Kd.V_nil _ _ _ _ _ | exact Kd.Q_nil _ _ _ _ _ | exact Kd.S_nil _ _ _ _ _, by repeat (first | (with_reducible first | exact HB.out | apply below_alloc | apply pw_below_drewN | apply below_drew1 | refine below_set ?_ GE261.out | refine below_set ?_ GE262.out) | exact HB.out)⟩
   replace c41 := Bool.eq_false_iff.mpr c41
   subst c41
   have H1 : ((skiffref1_Active.f kj4 a0).bind fun bt268 => (if bt268.2.2.2.2.2 = 0 then (if a1_0 = 0 then (skiffref16_Upload.j1 kj4 a0 a2 a3 0 a1_0 a1_1 a1_2 a1_3 a1_4 l1_5 bt268.1 bt268.2.1 bt268.2.2.1 bt268.2.2.2.1 bt268.2.2.2.2.1) else (skiffref16_Upload.j1 kj4 a0 a2 a3 a1_2 a1_0 a1_1 a1_2 a1_3 a1_4 l1_5 bt268.1 bt268.2.1 bt268.2.2.1 bt268.2.2.2.1 bt268.2.2.2.2.1)) else ((skiffref16_failed.f 2).bind fun bt275 => (some (bt275.1, bt275.2.1, bt275.2.2.1, bt275.2.2.2.1, bt275.2.2.2.2.1, bt275.2.2.2.2.2, (⟨#[]⟩ : ByteArray), 0))))) = some (r1, r2, r3, r4, r5, r6, r7, r8) := by rw [if_neg (show ¬ (false = true) by decide)] at H; exact H
   clear H
   have H := H1
   clear H1
   replace H := Option.bind_eq_some_iff.mp H
   obtain ⟨⟨t268, t269, t270, t271, t272, t273⟩, A440, H⟩ := H
   (try dsimp only at H)
   have A44 := Aside0.mk A440
   clear A440
   by_cases c45 : t273 = 0
   rotate_left
   ·rw [if_neg c45] at H
    have c45b0 : (t273 == 0) = false := beq_eq_false_iff_ne.mpr c45
    have c45b1 : (t273 != 0) = true := bne_iff_ne.mpr c45
    replace H := Option.bind_eq_some_iff.mp H
    obtain ⟨⟨t275, t276, t277, t278, t279, t280⟩, A940, H⟩ := H
    (try dsimp only at H)
    have A94 := Aside0.mk A940
    clear A940
    simp only [Option.some.injEq, Prod.mk.injEq] at H
    obtain ⟨rfl, rfl, rfl, rfl, rfl, rfl, rfl, rfl⟩ := H
    go_wp2_with (first | ((with_reducible refine gate_callee (f := 10) rfl ?_); refine goesL_ (some 45) rfl rfl Try.func10 (by kernel_rfl) rfl #[.string a0] rfl q1_ ?_; (with_reducible refine (skiffref1_Active.calls kj4 a0 t268 t269 t270 t271 t272 t273 _ A44.out).mono ?_); rintro e w95 ⟨rfl, hb⟩; refine ⟨_, rfl, ?_⟩; replace BK261 := Aside0.mk (blk_below (g := gb261) q25_ hb); replace BK262 := Aside0.mk (blk_below (g := gb262) q29_ hb); replace HB := Aside0.mk (below_step q24_ hb); (try clear hb); (try clear hb2); (try clear hk); (try clear hi)) | ((with_reducible refine gate_dst (N := 11) rfl ?_); refine box_event ?hg (N := 11) ?hd (cs := #[.int .i64 0, .int .i64 0, .int .i64 0, .int .i64 0, .int .i64 0]) (t := 25) ?hr ?_; (case hd => rfl); (case hg => rfl); (case hr => first | (go_simp; done) | (go_simp; rfl)); intro gb274 hg w96 hbox hb; have BK274 := Aside0.mk (hbox); have GW274 := Aside0.mk ((by rw [hg]; exact (below_size q24_) : w.heap.size ≤ gb274)); have GE274 := Aside0.mk ((by rw [hg]; exact (below_size q24_) : w.heap.size ≤ gb274)); have NB261_274 := Aside0.mk (nl_ (g := gb261) hg q25_); have NB274_261 := Aside0.mk (ng_ (g := gb261) hg q25_); have NB262_274 := Aside0.mk (nl_ (g := gb262) hg q29_); have NB274_262 := Aside0.mk (ng_ (g := gb262) hg q29_); replace BK261 := Aside0.mk (blk_below (g := gb261) q25_ hb); replace BK262 := Aside0.mk (blk_below (g := gb262) q29_ hb); replace HB := Aside0.mk (below_step q24_ hb); clear hb hbox hg; have hnb97 := NB274_261.out; have hnc97 := NB261_274.out; have hnb98 := NB274_262.out; have hnc98 := NB262_274.out; obtain ⟨hcz99_0, hcz99_1, hcz99_2, hcz99_3, hcz99_4, hfz99_0, hfz99_1, hfz99_2, hfz99_3, hfz99_4⟩ := cells5_ BK274.out) | ((with_reducible refine gate_callee (f := 56) rfl ?_); refine goesL_ (some 50) rfl rfl Try.func56 (by kernel_rfl) rfl #[.int .i64 2] rfl q1_ ?_; (with_reducible refine (skiffref16_failed.calls 2 t275 t276 t277 t278 t279 t280 _ A94.out).mono ?_); rintro e w100 ⟨v281, rfl, ho0, hb⟩; refine ⟨_, rfl, ?_⟩; have HO282 := Aside0.mk (Kd.R_lower ho0 (below_size q30_)); replace BK261 := Aside0.mk (blk_below (g := gb261) (o := .cells #[.int .i64 a1_0, .int .i64 a1_1, .int .i64 a1_2, .int .i64 a1_3, .int .i64 a1_4, .slice A1_5 l1_5.length c1_5] 56 (0, 0)) (by (with_reducible repeat (first | refine blk_drewN ?_ _ | refine blk_drew ?_ | refine blk_alloc ?_ _)); (iterate 5 (refine blk_far ?_ NB261_274.out _; (with_reducible repeat (first | refine blk_drewN ?_ _ | refine blk_drew ?_ | refine blk_alloc ?_ _)))); exact BK261.out) hb); replace BK262 := Aside0.mk (blk_below (g := gb262) (o := .cells #[.int .i64 0, .int .i64 0, .int .i64 0, .int .i64 0, .int .i64 0, .slice none 0 0] 56 (0, 0)) (by (with_reducible repeat (first | refine blk_drewN ?_ _ | refine blk_drew ?_ | refine blk_alloc ?_ _)); (iterate 5 (refine blk_far ?_ NB262_274.out _; (with_reducible repeat (first | refine blk_drewN ?_ _ | refine blk_drew ?_ | refine blk_alloc ?_ _)))); exact BK262.out) hb); replace BK274 := Aside0.mk (blk_below (g := gb274) (o := .cells #[.int .i64 t268, .int .i64 t269, .int .i64 t270, .int .i64 t271, .int .i64 t272] 25 (0, 0)) (by (with_reducible repeat (first | refine blk_drewN ?_ _ | refine blk_drew ?_ | refine blk_alloc ?_ _)); refine put5_ (cs := #[.int .i64 0, .int .i64 0, .int .i64 0, .int .i64 0, .int .i64 0]) ?_ rfl; (with_reducible repeat (first | refine blk_drewN ?_ _ | refine blk_drew ?_ | refine blk_alloc ?_ _)); exact BK274.out) hb); replace HB := Aside0.mk (below_step q30_ hb); (try clear hb); (try clear hb2); (try clear hk); (try clear hi); (try clear ho0); have hnb101 := NB262_261.out; have hnc101 := NB261_262.out; obtain ⟨hcz102_0, hcz102_1, hcz102_2, hcz102_3, hcz102_4, hcz102_5, hfz102_0, hfz102_1, hfz102_2, hfz102_3, hfz102_4, hfz102_5⟩ := cells6_ BK262.out; obtain ⟨Ao103, co103, eo103⟩ := Kd.R_slice HO282.out; subst eo103))
    refine bodyPost_ret (results_ctt rfl _ _ gb262 56 #[.int .i64 t275, .int .i64 t276, .int .i64 t277, .int .i64 t278, .int .i64 t279, .slice Ao103 t280.length co103] (0, 0) _ rfl q39_ Try.underlying56 rfl (by kernel_rfl)) rfl ?_
    exact ⟨_, by first | rfl | (simp [errW_none, errW_some] <;> rfl) | (simp [*, errW_none, errW_some] <;> rfl), by (with_reducible repeat (first | apply Kd.R_alloc | apply Kd.R_drewN | apply Kd.R_drew)); exact Kd.R_mono (Kd.R_far (p := ⟨gb262, 5, none⟩) (Kd.R_far (p := ⟨gb262, 4, none⟩) (Kd.R_far (p := ⟨gb262, 3, none⟩) (Kd.R_far (p := ⟨gb262, 2, none⟩) (Kd.R_far (p := ⟨gb262, 1, none⟩) (Kd.R_far (p := ⟨gb262, 0, none⟩) (Kd.R_types HO282.out BK262.out (by decide)) (fun _ hk => hk.2) (.int .i64 t275)) (fun _ hk => hk.2) (.int .i64 t276)) (fun _ hk => hk.2) (.int .i64 t277)) (fun _ hk => hk.2) (.int .i64 t278)) (fun _ hk => hk.2) (.int .i64 t279)) (fun _ hk => hk.2) (.slice Ao103 t280.length co103)) (fun _ hk => trivial), by repeat (first | (with_reducible first | exact HB.out | apply below_alloc | apply pw_below_drewN | apply below_drew1 | refine below_set ?_ GE261.out | refine below_set ?_ GE262.out | refine below_set ?_ GE274.out) | exact HB.out)⟩
   rw [if_pos c45] at H
   have c45b0 : (t273 == 0) = true := beq_iff_eq.mpr c45
   have c45b1 : (t273 != 0) = false := bne_eq_false_iff_eq.mpr c45
   clear c45
   have HC46 := Aside0.mk H
   clear H
   go_upto_if 55 with (first | ((with_reducible refine gate_callee (f := 10) rfl ?_); refine goesL_ (some 45) rfl rfl Try.func10 (by kernel_rfl) rfl #[.string a0] rfl q1_ ?_; (with_reducible refine (skiffref1_Active.calls kj4 a0 t268 t269 t270 t271 t272 t273 _ A44.out).mono ?_); rintro e w47 ⟨rfl, hb⟩; refine ⟨_, rfl, ?_⟩; replace BK261 := Aside0.mk (blk_below (g := gb261) q25_ hb); replace BK262 := Aside0.mk (blk_below (g := gb262) q29_ hb); replace HB := Aside0.mk (below_step q24_ hb); (try clear hb); (try clear hb2); (try clear hk); (try clear hi)) | ((with_reducible refine gate_dst (N := 11) rfl ?_); refine box_event ?hg (N := 11) ?hd (cs := #[.int .i64 0, .int .i64 0, .int .i64 0, .int .i64 0, .int .i64 0]) (t := 25) ?hr ?_; (case hd => rfl); (case hg => rfl); (case hr => first | (go_simp; done) | (go_simp; rfl)); intro gb274 hg w48 hbox hb; have BK274 := Aside0.mk (hbox); have GW274 := Aside0.mk ((by rw [hg]; exact (below_size q24_) : w.heap.size ≤ gb274)); have GE274 := Aside0.mk ((by rw [hg]; exact (below_size q24_) : w.heap.size ≤ gb274)); have NB261_274 := Aside0.mk (nl_ (g := gb261) hg q25_); have NB274_261 := Aside0.mk (ng_ (g := gb261) hg q25_); have NB262_274 := Aside0.mk (nl_ (g := gb262) hg q29_); have NB274_262 := Aside0.mk (ng_ (g := gb262) hg q29_); replace BK261 := Aside0.mk (blk_below (g := gb261) q25_ hb); replace BK262 := Aside0.mk (blk_below (g := gb262) q29_ hb); replace HB := Aside0.mk (below_step q24_ hb); clear hb hbox hg; have hnb49 := NB274_261.out; have hnc49 := NB261_274.out; have hnb50 := NB274_262.out; have hnc50 := NB262_274.out; obtain ⟨hcz51_0, hcz51_1, hcz51_2, hcz51_3, hcz51_4, hfz51_0, hfz51_1, hfz51_2, hfz51_3, hfz51_4⟩ := cells5_ BK274.out; have hnb52 := NB261_262.out; have hnc52 := NB262_261.out; obtain ⟨hcz53_0, hcz53_1, hcz53_2, hcz53_3, hcz53_4, hcz53_5, hfz53_0, hfz53_1, hfz53_2, hfz53_3, hfz53_4, hfz53_5⟩ := cells6_ BK261.out))
   (try simp only [Act.put, sl1_, sl2_, sl3_])
   go_cut [13] (fun v13 wc => ∃ (kq : Nat) (x13_45 : Int), v13 = .int .i64 x13_45 ∧ Aside0 (skiffref16_Upload.j1 kq a0 a2 a3 x13_45 a1_0 a1_1 a1_2 a1_3 a1_4 l1_5 t268 t269 t270 t271 t272 = some (r1, r2, r3, r4, r5, r6, r7, r8)) ∧ Aside0 (kq ≤ kj4) ∧ Aside0 (wc.heap[gb261]? = some (.cells #[.int .i64 a1_0, .int .i64 a1_1, .int .i64 a1_2, .int .i64 a1_3, .int .i64 a1_4, (.slice A1_5 l1_5.length c1_5)] 56 (0, 0))) ∧ Aside0 (wc.heap[gb262]? = some (.cells #[.int .i64 0, .int .i64 0, .int .i64 0, .int .i64 0, .int .i64 0, (.slice none 0 0)] 56 (0, 0))) ∧ Aside0 (wc.heap[gb274]? = some (.cells #[.int .i64 t268, .int .i64 t269, .int .i64 t270, .int .i64 t271, .int .i64 t272] 25 (0, 0))) ∧ Aside0 (Below w.heap.size w wc))
   case first =>
    have H := HC46.out
    clear HC46
    by_cases c54 : a1_0 = 0
    rotate_left
    ·rw [if_neg c54] at H
     have c54b0 : (a1_0 == 0) = false := beq_eq_false_iff_ne.mpr c54
     have c54b1 : (a1_0 != 0) = true := bne_iff_ne.mpr c54
     (first | rw [c54b0] | (simp only [i64_w, i32_w]; rw [c54b0]) | skip)
     have H' := Aside0.mk H
     clear H
     go_wp2
     go_meet
     case rel => exact ⟨_, (a1_2), q17_, H', ⟨by have := HJ4.out; first | omega | exact Nat.le_refl _⟩, ⟨by (with_reducible repeat (first | refine blk_drewN ?_ _ | refine blk_drew ?_ | refine blk_alloc ?_ _)); (iterate 5 (refine blk_far ?_ NB261_274.out _; (with_reducible repeat (first | refine blk_drewN ?_ _ | refine blk_drew ?_ | refine blk_alloc ?_ _)))); exact BK261.out⟩, ⟨by (with_reducible repeat (first | refine blk_drewN ?_ _ | refine blk_drew ?_ | refine blk_alloc ?_ _)); (iterate 5 (refine blk_far ?_ NB262_274.out _; (with_reducible repeat (first | refine blk_drewN ?_ _ | refine blk_drew ?_ | refine blk_alloc ?_ _)))); exact BK262.out⟩, ⟨by (with_reducible repeat (first | refine blk_drewN ?_ _ | refine blk_drew ?_ | refine blk_alloc ?_ _)); refine put5_ (cs := #[.int .i64 0, .int .i64 0, .int .i64 0, .int .i64 0, .int .i64 0]) ?_ rfl; (with_reducible repeat (first | refine blk_drewN ?_ _ | refine blk_drew ?_ | refine blk_alloc ?_ _)); exact BK274.out⟩, ⟨by repeat (first | (with_reducible first | exact HB.out | apply below_alloc | apply pw_below_drewN | apply below_drew1 | refine below_set ?_ GE261.out | refine below_set ?_ GE262.out | refine below_set ?_ GE274.out) | exact HB.out)⟩⟩
    rw [if_pos c54] at H
    have c54b0 : (a1_0 == 0) = true := beq_iff_eq.mpr c54
    have c54b1 : (a1_0 != 0) = false := bne_eq_false_iff_eq.mpr c54
    clear c54
    (first | rw [c54b0] | (simp only [i64_w, i32_w]; rw [c54b0]) | skip)
    have H' := Aside0.mk H
    clear H
    go_wp2
    go_meet
    case rel => exact ⟨_, (0), q17_, H', ⟨by have := HJ4.out; first | omega | exact Nat.le_refl _⟩, ⟨by (with_reducible repeat (first | refine blk_drewN ?_ _ | refine blk_drew ?_ | refine blk_alloc ?_ _)); (iterate 5 (refine blk_far ?_ NB261_274.out _; (with_reducible repeat (first | refine blk_drewN ?_ _ | refine blk_drew ?_ | refine blk_alloc ?_ _)))); exact BK261.out⟩, ⟨by (with_reducible repeat (first | refine blk_drewN ?_ _ | refine blk_drew ?_ | refine blk_alloc ?_ _)); (iterate 5 (refine blk_far ?_ NB262_274.out _; (with_reducible repeat (first | refine blk_drewN ?_ _ | refine blk_drew ?_ | refine blk_alloc ?_ _)))); exact BK262.out⟩, ⟨by (with_reducible repeat (first | refine blk_drewN ?_ _ | refine blk_drew ?_ | refine blk_alloc ?_ _)); refine put5_ (cs := #[.int .i64 0, .int .i64 0, .int .i64 0, .int .i64 0, .int .i64 0]) ?_ rfl; (with_reducible repeat (first | refine blk_drewN ?_ _ | refine blk_drew ?_ | refine blk_alloc ?_ _)); exact BK274.out⟩, ⟨by repeat (first | (with_reducible first | exact HB.out | apply below_alloc | apply pw_below_drewN | apply below_drew1 | refine below_set ?_ GE261.out | refine below_set ?_ GE262.out | refine below_set ?_ GE274.out) | exact HB.out)⟩⟩
   case rest =>
    clear HC46
    try clear c1
    try clear c2
    try clear p2
    try clear c3
    try clear c4
    try clear c5
    try clear c9
    try clear c10
    try clear c10b0
    try clear c10b1
    try clear c12
    try clear c14
    try clear c18
    try clear c22
    try clear c22b0
    try clear c22b1
    try clear c24
    try clear c25
    try clear c26
    try clear c41
    try clear c45
    try clear c45b0
    try clear c45b1
    try clear c54
    try clear c54b0
    try clear c54b1
    try clear hcz15_0
    try clear hcz15_1
    try clear hcz15_2
    try clear hcz15_3
    try clear hcz15_4
    try clear hcz15_5
    try clear hcz17_0
    try clear hcz17_1
    try clear hcz17_2
    try clear hcz17_3
    try clear hcz17_4
    try clear hcz17_5
    try clear hcz19_0
    try clear hcz19_1
    try clear hcz19_2
    try clear hcz19_3
    try clear hcz19_4
    try clear hcz19_5
    try clear hcz21_0
    try clear hcz21_1
    try clear hcz21_2
    try clear hcz21_3
    try clear hcz21_4
    try clear hcz21_5
    try clear hcz27_0
    try clear hcz27_1
    try clear hcz27_2
    try clear hcz27_3
    try clear hcz27_4
    try clear hcz27_5
    try clear hcz29_0
    try clear hcz29_1
    try clear hcz29_2
    try clear hcz29_3
    try clear hcz29_4
    try clear hcz29_5
    try clear hcz31_0
    try clear hcz31_1
    try clear hcz31_2
    try clear hcz31_3
    try clear hcz31_4
    try clear hcz31_5
    try clear hcz33_0
    try clear hcz33_1
    try clear hcz33_2
    try clear hcz33_3
    try clear hcz33_4
    try clear hcz33_5
    try clear hcz35_0
    try clear hcz35_1
    try clear hcz35_2
    try clear hcz35_3
    try clear hcz35_4
    try clear hcz35_5
    try clear hcz37_0
    try clear hcz37_1
    try clear hcz37_2
    try clear hcz37_3
    try clear hcz37_4
    try clear hcz37_5
    try clear hcz39_0
    try clear hcz39_1
    try clear hcz39_2
    try clear hcz39_3
    try clear hcz39_4
    try clear hcz39_5
    try clear hcz43_0
    try clear hcz43_1
    try clear hcz43_2
    try clear hcz43_3
    try clear hcz43_4
    try clear hcz43_5
    try clear hcz51_0
    try clear hcz51_1
    try clear hcz51_2
    try clear hcz51_3
    try clear hcz51_4
    try clear hcz53_0
    try clear hcz53_1
    try clear hcz53_2
    try clear hcz53_3
    try clear hcz53_4
    try clear hcz53_5
    try clear hfz15_0
    try clear hfz15_1
    try clear hfz15_2
    try clear hfz15_3
    try clear hfz15_4
    try clear hfz15_5
    try clear hfz17_0
    try clear hfz17_1
    try clear hfz17_2
    try clear hfz17_3
    try clear hfz17_4
    try clear hfz17_5
    try clear hfz19_0
    try clear hfz19_1
    try clear hfz19_2
    try clear hfz19_3
    try clear hfz19_4
    try clear hfz19_5
    try clear hfz21_0
    try clear hfz21_1
    try clear hfz21_2
    try clear hfz21_3
    try clear hfz21_4
    try clear hfz21_5
    try clear hfz27_0
    try clear hfz27_1
    try clear hfz27_2
    try clear hfz27_3
    try clear hfz27_4
    try clear hfz27_5
    try clear hfz29_0
    try clear hfz29_1
    try clear hfz29_2
    try clear hfz29_3
    try clear hfz29_4
    try clear hfz29_5
    try clear hfz31_0
    try clear hfz31_1
    try clear hfz31_2
    try clear hfz31_3
    try clear hfz31_4
    try clear hfz31_5
    try clear hfz33_0
    try clear hfz33_1
    try clear hfz33_2
    try clear hfz33_3
    try clear hfz33_4
    try clear hfz33_5
    try clear hfz35_0
    try clear hfz35_1
    try clear hfz35_2
    try clear hfz35_3
    try clear hfz35_4
    try clear hfz35_5
    try clear hfz37_0
    try clear hfz37_1
    try clear hfz37_2
    try clear hfz37_3
    try clear hfz37_4
    try clear hfz37_5
    try clear hfz39_0
    try clear hfz39_1
    try clear hfz39_2
    try clear hfz39_3
    try clear hfz39_4
    try clear hfz39_5
    try clear hfz43_0
    try clear hfz43_1
    try clear hfz43_2
    try clear hfz43_3
    try clear hfz43_4
    try clear hfz43_5
    try clear hfz51_0
    try clear hfz51_1
    try clear hfz51_2
    try clear hfz51_3
    try clear hfz51_4
    try clear hfz53_0
    try clear hfz53_1
    try clear hfz53_2
    try clear hfz53_3
    try clear hfz53_4
    try clear hfz53_5
    try clear p2
    obtain ⟨kq, x13_45, rfl, HA, HJ45, BK261, BK262, BK274, HB⟩ := hcut
    cases kq with
    | zero => exact absurd HA.out (by simp [skiffref16_Upload.j1])
    | succ kj45 =>
     have H := HA.out
     clear HA
     simp only [skiffref16_Upload.j1] at H
     by_cases c55 : a2 = x13_45
     rotate_left
     ·rw [if_neg c55] at H
      have c55b0 : (a2 == x13_45) = false := beq_eq_false_iff_ne.mpr c55
      have c55b1 : (a2 != x13_45) = true := bne_iff_ne.mpr c55
      replace H := Option.bind_eq_some_iff.mp H
      obtain ⟨⟨t283, t284, t285, t286, t287, t288⟩, A880, H⟩ := H
      (try dsimp only at H)
      have A88 := Aside0.mk A880
      clear A880
      simp only [Option.some.injEq, Prod.mk.injEq] at H
      obtain ⟨rfl, rfl, rfl, rfl, rfl, rfl, rfl, rfl⟩ := H
      go_wp2_with (first | ((with_reducible refine gate_callee (f := 56) rfl ?_); refine goesL_ (some 59) rfl rfl Try.func56 (by kernel_rfl) rfl #[.int .i64 4] rfl q1_ ?_; (with_reducible refine (skiffref16_failed.calls 4 t283 t284 t285 t286 t287 t288 _ A88.out).mono ?_); rintro e w89 ⟨v289, rfl, ho0, hb⟩; refine ⟨_, rfl, ?_⟩; have HO290 := Aside0.mk (Kd.R_lower ho0 (below_size q30_)); replace BK261 := Aside0.mk (blk_below (g := gb261) q25_ hb); replace BK262 := Aside0.mk (blk_below (g := gb262) q29_ hb); replace BK274 := Aside0.mk (blk_below (g := gb274) q109_ hb); replace HB := Aside0.mk (below_step q30_ hb); (try clear hb); (try clear hb2); (try clear hk); (try clear hi); (try clear ho0); have hnb90 := NB262_261.out; have hnc90 := NB261_262.out; have hnb91 := NB262_274.out; have hnc91 := NB274_262.out; obtain ⟨hcz92_0, hcz92_1, hcz92_2, hcz92_3, hcz92_4, hcz92_5, hfz92_0, hfz92_1, hfz92_2, hfz92_3, hfz92_4, hfz92_5⟩ := cells6_ BK262.out; obtain ⟨Ao93, co93, eo93⟩ := Kd.R_slice HO290.out; subst eo93))
      refine bodyPost_ret (results_ctt rfl _ _ gb262 56 #[.int .i64 t283, .int .i64 t284, .int .i64 t285, .int .i64 t286, .int .i64 t287, .slice Ao93 t288.length co93] (0, 0) _ rfl q39_ Try.underlying56 rfl (by kernel_rfl)) rfl ?_
      exact ⟨_, by first | rfl | (simp [errW_none, errW_some] <;> rfl) | (simp [*, errW_none, errW_some] <;> rfl), by (with_reducible repeat (first | apply Kd.R_alloc | apply Kd.R_drewN | apply Kd.R_drew)); exact Kd.R_mono (Kd.R_far (p := ⟨gb262, 5, none⟩) (Kd.R_far (p := ⟨gb262, 4, none⟩) (Kd.R_far (p := ⟨gb262, 3, none⟩) (Kd.R_far (p := ⟨gb262, 2, none⟩) (Kd.R_far (p := ⟨gb262, 1, none⟩) (Kd.R_far (p := ⟨gb262, 0, none⟩) (Kd.R_types HO290.out BK262.out (by decide)) (fun _ hk => hk.2) (.int .i64 t283)) (fun _ hk => hk.2) (.int .i64 t284)) (fun _ hk => hk.2) (.int .i64 t285)) (fun _ hk => hk.2) (.int .i64 t286)) (fun _ hk => hk.2) (.int .i64 t287)) (fun _ hk => hk.2) (.slice Ao93 t288.length co93)) (fun _ hk => trivial), by repeat (first | (with_reducible first | exact HB.out | apply below_alloc | apply pw_below_drewN | apply below_drew1 | refine below_set ?_ GE261.out | refine below_set ?_ GE262.out | refine below_set ?_ GE274.out) | exact HB.out)⟩
     rw [if_pos c55] at H
     have c55b0 : (a2 == x13_45) = true := beq_iff_eq.mpr c55
     have c55b1 : (a2 != x13_45) = false := bne_eq_false_iff_eq.mpr c55
     clear c55
     replace H := Option.bind_eq_some_iff.mp H
     obtain ⟨⟨t291, t292⟩, A560, H⟩ := H
     (try dsimp only at H)
     have A56 := Aside0.mk A560
     clear A560
     obtain ⟨ji57, hji57⟩ : ∃ j_ : Int, (mn (t291.size : Int) (wrap64 (32 * x13_45))) = j_ := ⟨_, rfl⟩
     replace H : (if 0 ≤ (ji57) then (if (ji57) ≤ (mn (t291.size : Int) (wrap64 ((ji57) + a3))) then (if (mn (t291.size : Int) (wrap64 ((ji57) + a3))) ≤ (t291.size : Int) then (if ((t291.extract ((ji57) : Int).toNat ((mn (t291.size : Int) (wrap64 ((ji57) + a3))) : Int).toNat).size : Int) < 32 then ((skiffref16_NewDevice.f).bind fun bt293 => (some (bt293.1, bt293.2.1, bt293.2.2.1, bt293.2.2.2.1, bt293.2.2.2.2.1, bt293.2.2.2.2.2, t291.extract ((ji57) : Int).toNat ((mn (t291.size : Int) (wrap64 ((ji57) + a3))) : Int).toNat, 0))) else ((skiffref16_copyDevice.f a1_0 a1_1 a1_2 a1_3 a1_4 l1_5).bind fun bt301 => (some (6, bt301.2.1, mn (wrap64 (x13_45 + 1)) 16, bt301.2.2.2.1, bt301.2.2.2.2.1, bt301.2.2.2.2.2, t291.extract ((ji57) : Int).toNat ((mn (t291.size : Int) (wrap64 ((ji57) + a3))) : Int).toNat, 0)))) else (none)) else (none)) else (none)) = some (r1, r2, r3, r4, r5, r6, r7, r8) := by first | (rw [hji57] at H; exact H) | (simp only [hji57] at H ⊢; exact H)
     (try rw [hji57] at A56)
     have hji57_ : (if (wrap64 (32 * x13_45)) < (t291.size : Int) then (wrap64 (32 * x13_45)) else (t291.size : Int)) = ji57 := hji57
     obtain ⟨ji58, hji58⟩ : ∃ j_ : Int, (mn (t291.size : Int) (wrap64 ((ji57) + a3))) = j_ := ⟨_, rfl⟩
     replace H : (if 0 ≤ (ji57) then (if (ji57) ≤ (ji58) then (if (ji58) ≤ (t291.size : Int) then (if ((t291.extract ((ji57) : Int).toNat ((ji58) : Int).toNat).size : Int) < 32 then ((skiffref16_NewDevice.f).bind fun bt293 => (some (bt293.1, bt293.2.1, bt293.2.2.1, bt293.2.2.2.1, bt293.2.2.2.2.1, bt293.2.2.2.2.2, t291.extract ((ji57) : Int).toNat ((ji58) : Int).toNat, 0))) else ((skiffref16_copyDevice.f a1_0 a1_1 a1_2 a1_3 a1_4 l1_5).bind fun bt301 => (some (6, bt301.2.1, mn (wrap64 (x13_45 + 1)) 16, bt301.2.2.2.1, bt301.2.2.2.2.1, bt301.2.2.2.2.2, t291.extract ((ji57) : Int).toNat ((ji58) : Int).toNat, 0)))) else (none)) else (none)) else (none)) = some (r1, r2, r3, r4, r5, r6, r7, r8) := by first | (rw [hji58] at H; exact H) | (simp only [hji58] at H ⊢; exact H)
     (try rw [hji58] at A56)
     have hji58_ : (if (wrap64 ((ji57) + a3)) < (t291.size : Int) then (wrap64 ((ji57) + a3)) else (t291.size : Int)) = ji58 := hji58
     by_cases c59 : 0 ≤ (ji57)
     rotate_left
     ·rw [if_neg c59] at H
      exact absurd H (by simp)
     rw [if_pos c59] at H
     have c59b0 := eq_true c59
     have c59b1 : decide (0 ≤ (ji57)) = true := decide_eq_true c59
     clear c59
     by_cases c60 : (ji57) ≤ (ji58)
     rotate_left
     ·rw [if_neg c60] at H
      exact absurd H (by simp)
     rw [if_pos c60] at H
     have c60b0 := eq_true c60
     have c60b1 : decide ((ji57) ≤ (ji58)) = true := decide_eq_true c60
     clear c60
     by_cases c61 : (ji58) ≤ (t291.size : Int)
     rotate_left
     ·rw [if_neg c61] at H
      exact absurd H (by simp)
     rw [if_pos c61] at H
     have c61b0 := eq_true c61
     have c61b1 : decide ((ji58) ≤ (t291.size : Int)) = true := decide_eq_true c61
     clear c61
     by_cases c62 : ((t291.extract ((ji57) : Int).toNat ((ji58) : Int).toNat).size : Int) < 32
     ·rw [if_pos c62] at H
      have c62b0 : decide (((t291.extract ((ji57) : Int).toNat ((ji58) : Int).toNat).size : Int) < 32) = true := decide_eq_true c62
      have c62b1 : decide ((t291.extract ((ji57) : Int).toNat ((ji58) : Int).toNat).size < 32) = true := decide_eq_true (by omega)
      have c62z : (((ji58.toNat - ji57.toNat : Nat) : Int) < 32) := by
       have h1_ := of_eq_true c61b0; have h2_ := c62; rw [ByteArray.size_extract] at h2_; omega
      have c62b2 : (((ji58.toNat - ji57.toNat : Nat) : Int) < 32) = True := eq_true c62z
      have c62b3 : decide (((ji58.toNat - ji57.toNat : Nat) : Int) < 32) = true := decide_eq_true c62z
      clear c62z
      clear c62
      replace H := Option.bind_eq_some_iff.mp H
      obtain ⟨⟨t293, t294, t295, t296, t297, t298⟩, A630, H⟩ := H
      (try dsimp only at H)
      have A63 := Aside0.mk A630
      clear A630
      simp only [Option.some.injEq, Prod.mk.injEq] at H
      obtain ⟨rfl, rfl, rfl, rfl, rfl, rfl, rfl, rfl⟩ := H
      have hnb64 := NB274_261.out
      have hnc64 := NB261_274.out
      have hnb65 := NB274_262.out
      have hnc65 := NB262_274.out
      obtain ⟨hcz66_0, hcz66_1, hcz66_2, hcz66_3, hcz66_4, hfz66_0, hfz66_1, hfz66_2, hfz66_3, hfz66_4⟩ := cells5_ BK274.out
      go_wp2_with (first | ((with_reducible refine gate_callee (f := 36) rfl ?_); refine goesL_ (some 64) rfl rfl Try.func36 (by kernel_rfl) rfl #[.string a0, .agg #[.int .i64 t269, .int .i64 t270, .int .i64 t271, .int .i64 t272]] rfl q1_ ?_; (with_reducible refine (skiffref1_ImageOf.calls a0 t269 t270 t271 t272 t291 t292 _ A56.out).mono ?_); rintro e w67 ⟨rfl, hb⟩; refine ⟨_, rfl, ?_⟩; replace BK261 := Aside0.mk (blk_below (g := gb261) q25_ hb); replace BK262 := Aside0.mk (blk_below (g := gb262) q29_ hb); replace BK274 := Aside0.mk (blk_below (g := gb274) q109_ hb); replace HB := Aside0.mk (below_step q30_ hb); (try clear hb); (try clear hb2); (try clear hk); (try clear hi)) | ((with_reducible refine gate_callee (f := 57) rfl ?_); refine goesL_ (some 84) rfl rfl Try.func57 (by kernel_rfl) rfl #[] rfl q1_ ?_; (with_reducible refine (skiffref16_NewDevice.calls  t293 t294 t295 t296 t297 t298 _ A63.out).mono ?_); rintro e w68 ⟨v299, rfl, ho0, hb⟩; refine ⟨_, rfl, ?_⟩; have HO300 := Aside0.mk (Kd.R_lower ho0 (below_size q30_)); replace BK261 := Aside0.mk (blk_below (g := gb261) q25_ hb); replace BK262 := Aside0.mk (blk_below (g := gb262) q29_ hb); replace BK274 := Aside0.mk (blk_below (g := gb274) q109_ hb); replace HB := Aside0.mk (below_step q30_ hb); (try clear hb); (try clear hb2); (try clear hk); (try clear hi); (try clear ho0); have hnb69 := NB262_261.out; have hnc69 := NB261_262.out; obtain ⟨hcz70_0, hcz70_1, hcz70_2, hcz70_3, hcz70_4, hcz70_5, hfz70_0, hfz70_1, hfz70_2, hfz70_3, hfz70_4, hfz70_5⟩ := cells6_ BK262.out; obtain ⟨Ao71, co71, eo71⟩ := Kd.R_slice HO300.out; subst eo71))
      refine bodyPost_ret (results_ctt rfl _ _ gb262 56 #[.int .i64 t293, .int .i64 t294, .int .i64 t295, .int .i64 t296, .int .i64 t297, .slice Ao71 t298.length co71] (0, 0) _ rfl q39_ Try.underlying56 rfl (by kernel_rfl)) rfl ?_
      exact ⟨_, by first | rfl | (simp [errW_none, errW_some] <;> rfl) | (simp only [← hji57, ← hji58]; first | rfl | (simp [errW_none, errW_some] <;> rfl)) | (simp [*, errW_none, errW_some] <;> rfl), by (with_reducible repeat (first | apply Kd.R_alloc | apply Kd.R_drewN | apply Kd.R_drew)); exact Kd.R_mono (Kd.R_far (p := ⟨gb262, 5, none⟩) (Kd.R_far (p := ⟨gb262, 4, none⟩) (Kd.R_far (p := ⟨gb262, 3, none⟩) (Kd.R_far (p := ⟨gb262, 2, none⟩) (Kd.R_far (p := ⟨gb262, 1, none⟩) (Kd.R_far (p := ⟨gb262, 0, none⟩) (Kd.R_types HO300.out BK262.out (by decide)) (fun _ hk => hk.2) (.int .i64 t293)) (fun _ hk => hk.2) (.int .i64 t294)) (fun _ hk => hk.2) (.int .i64 t295)) (fun _ hk => hk.2) (.int .i64 t296)) (fun _ hk => hk.2) (.int .i64 t297)) (fun _ hk => hk.2) (.slice Ao71 t298.length co71)) (fun _ hk => trivial), by repeat (first | (with_reducible first | exact HB.out | apply below_alloc | apply pw_below_drewN | apply below_drew1 | refine below_set ?_ GE261.out | refine below_set ?_ GE262.out | refine below_set ?_ GE274.out) | exact HB.out)⟩
     rw [if_neg c62] at H
     have c62b0 : decide (((t291.extract ((ji57) : Int).toNat ((ji58) : Int).toNat).size : Int) < 32) = false := decide_eq_false c62
     have c62b1 : decide ((t291.extract ((ji57) : Int).toNat ((ji58) : Int).toNat).size < 32) = false := decide_eq_false (by omega)
     have c62z : ¬ (((ji58.toNat - ji57.toNat : Nat) : Int) < 32) := by
      have h1_ := of_eq_true c61b0; have h2_ := c62; rw [ByteArray.size_extract] at h2_; omega
     have c62b2 : (((ji58.toNat - ji57.toNat : Nat) : Int) < 32) = False := eq_false c62z
     have c62b3 : decide (((ji58.toNat - ji57.toNat : Nat) : Int) < 32) = false := decide_eq_false c62z
     clear c62z
     clear c62
     replace H := Option.bind_eq_some_iff.mp H
     obtain ⟨⟨t301, t302, t303, t304, t305, t306⟩, A720, H⟩ := H
     (try dsimp only at H)
     have A72 := Aside0.mk A720
     clear A720
     obtain ⟨ji73, hji73⟩ : ∃ j_ : Int, (mn (wrap64 (x13_45 + 1)) 16) = j_ := ⟨_, rfl⟩
     replace H : (some (6, t302, ji73, t304, t305, t306, t291.extract ((ji57) : Int).toNat ((ji58) : Int).toNat, 0)) = some (r1, r2, r3, r4, r5, r6, r7, r8) := by first | (rw [hji73] at H; exact H) | (simp only [hji73] at H ⊢; exact H)
     (try rw [hji73] at A56)
     (try rw [hji73] at A72)
     have hji73_ : (if 16 < (wrap64 (x13_45 + 1)) then 16 else (wrap64 (x13_45 + 1))) = ji73 := hji73
     simp only [Option.some.injEq, Prod.mk.injEq] at H
     obtain ⟨rfl, rfl, rfl, rfl, rfl, rfl, rfl, rfl⟩ := H
     have hnb74 := NB274_261.out
     have hnc74 := NB261_274.out
     have hnb75 := NB274_262.out
     have hnc75 := NB262_274.out
     obtain ⟨hcz76_0, hcz76_1, hcz76_2, hcz76_3, hcz76_4, hfz76_0, hfz76_1, hfz76_2, hfz76_3, hfz76_4⟩ := cells5_ BK274.out
     go_wp2_with (first | ((with_reducible refine gate_callee (f := 36) rfl ?_); refine goesL_ (some 64) rfl rfl Try.func36 (by kernel_rfl) rfl #[.string a0, .agg #[.int .i64 t269, .int .i64 t270, .int .i64 t271, .int .i64 t272]] rfl q1_ ?_; (with_reducible refine (skiffref1_ImageOf.calls a0 t269 t270 t271 t272 t291 t292 _ A56.out).mono ?_); rintro e w77 ⟨rfl, hb⟩; refine ⟨_, rfl, ?_⟩; replace BK261 := Aside0.mk (blk_below (g := gb261) q25_ hb); replace BK262 := Aside0.mk (blk_below (g := gb262) q29_ hb); replace BK274 := Aside0.mk (blk_below (g := gb274) q109_ hb); replace HB := Aside0.mk (below_step q30_ hb); (try clear hb); (try clear hb2); (try clear hk); (try clear hi); have hnb78 := NB261_262.out; have hnc78 := NB262_261.out; obtain ⟨hcz79_0, hcz79_1, hcz79_2, hcz79_3, hcz79_4, hcz79_5, hfz79_0, hfz79_1, hfz79_2, hfz79_3, hfz79_4, hfz79_5⟩ := cells6_ BK261.out) | ((with_reducible refine gate_callee (f := 58) rfl ?_); refine goesL_ (some 87) rfl rfl Try.func58 (by kernel_rfl) rfl #[.agg #[.int .i64 a1_0, .int .i64 a1_1, .int .i64 a1_2, .int .i64 a1_3, .int .i64 a1_4, .slice A1_5 l1_5.length c1_5]] rfl q1_ ?_; (with_reducible refine (skiffref16_copyDevice.calls a1_0 a1_1 a1_2 a1_3 a1_4 _ _ l1_5 t301 t302 t303 t304 t305 t306 _ ?side1 ?side2 A72.out).mono ?_); (case side1 => repeat (first | exact (Kd.C_below HR1_5.out HB.out) | (with_reducible refine Kd.C_alloc ?_ _) | (with_reducible refine Kd.C_drewN ?_ _) | (with_reducible refine Kd.C_drew ?_))); (case side2 => exact HC1_5.out); rintro e w80 ⟨v307, rfl, ho0, hb⟩; refine ⟨_, rfl, ?_⟩; have HO308 := Aside0.mk (Kd.R_lower ho0 (below_size q30_)); replace BK261 := Aside0.mk (blk_below (g := gb261) q25_ hb); replace BK262 := Aside0.mk (blk_below (g := gb262) q29_ hb); replace BK274 := Aside0.mk (blk_below (g := gb274) q109_ hb); replace HB := Aside0.mk (below_step q30_ hb); (try clear hb); (try clear hb2); (try clear hk); (try clear hi); (try clear ho0); obtain ⟨Ao86, co86, eo86⟩ := Kd.R_slice HO308.out; subst eo86; have hcx_0 : w80.cell? ⟨gb262, 0, none⟩ = some (.int .i64 0) := (blk_cell BK262.out 0).trans rfl; have hcx_1 : w80.cell? ⟨gb262, 1, none⟩ = some (.int .i64 0) := (blk_cell BK262.out 1).trans rfl; have hcx_2 : w80.cell? ⟨gb262, 2, none⟩ = some (.int .i64 0) := (blk_cell BK262.out 2).trans rfl; have hcx_3 : w80.cell? ⟨gb262, 3, none⟩ = some (.int .i64 0) := (blk_cell BK262.out 3).trans rfl; have hcx_4 : w80.cell? ⟨gb262, 4, none⟩ = some (.int .i64 0) := (blk_cell BK262.out 4).trans rfl; have hcx_5 : w80.cell? ⟨gb262, 5, none⟩ = some (.slice none 0 0) := (blk_cell BK262.out 5).trans rfl; have hfx_0 := blk_frozen BK262.out 0; have hfx_1 := blk_frozen BK262.out 1; have hfx_2 := blk_frozen BK262.out 2; have hfx_3 := blk_frozen BK262.out 3; have hfx_4 := blk_frozen BK262.out 4; have hfx_5 := blk_frozen BK262.out 5; have hltx : gb262 < w80.heap.size := blk_lt BK262.out; have hnex : gb262 ≠ w80.heap.size := Nat.ne_of_lt hltx; have hnfx : w80.heap.size ≠ gb262 := Nat.ne_of_gt hltx))
     refine bodyPost_ret (results_ctt rfl _ _ gb262 56 #[.int .i64 6, .int .i64 t302, .int .i64 ji73, .int .i64 t304, .int .i64 t305, .slice Ao86 t306.length co86] (0, 0) _ rfl q39_ Try.underlying56 rfl (by kernel_rfl)) rfl ?_
     exact ⟨_, by first | rfl | (simp [errW_none, errW_some] <;> rfl) | (simp only [← hji57, ← hji58, ← hji73]; first | rfl | (simp [errW_none, errW_some] <;> rfl)) | (simp [*, errW_none, errW_some] <;> rfl), by (with_reducible repeat (first | apply Kd.R_alloc | apply Kd.R_drewN | apply Kd.R_drew)); refine Kd.R_mono (ok := fun k => True ∧ k ≠ gb262) ?_ (fun _ hk => trivial); (with_reducible repeat (first | refine Kd.R_alloc ?_ _ | refine Kd.R_drewN ?_ _ | refine Kd.R_drew ?_ | refine Kd.R_far ?_ (fun _ hk => hk.2) _)); exact Kd.R_types HO308.out BK262.out (by decide), by repeat (first | (with_reducible first | exact HB.out | apply below_alloc | apply pw_below_drewN | apply below_drew1 | refine below_set ?_ GE261.out | refine below_set ?_ GE262.out | refine below_set ?_ GE274.out) | exact HB.out)⟩
end Go.Proofs.Ytjadcjkjpkkmkaa.PAll
namespace Go.Proofs.Ytjadcjkjpkkmkaa.PAll
open Go.RowKit Go.Proofs.YtjadcjkjpkkmkaaW.PrintWords Go.Proofs.YtjadcjkjpkkmkaaW.PrintLast Go.Proofs.YtjadcjkjpkkmkaaW.PrintMore
attribute [local go_sem] max2_int min2_int max_two min_two max_three min_three max_four min_four
set_option linter.unusedVariables false
set_option linter.unusedSimpArgs false
attribute [local go_sem high] eqA87
def skifflaw0_SameOps.l0 : Nat → List (S87) → List (S87) → Int → Option (Bool)
 | 0, _, _, _ => none
 | k + 1, x0, x1, x5 => if x5 < (x0.length : Int) then (if 0 ≤ x5 then (if x5 < (x1.length : Int) then (if (!(((rd_T87 x0 x5).f0) == ((rd_T87 x1 x5).f0)) || (!(((rd_T87 x0 x5).f1) == ((rd_T87 x1 x5).f1)) || (!((((rd_T87 x0 x5).f2).toList) == (((rd_T87 x1 x5).f2).toList))))) = true then (some false) else (skifflaw0_SameOps.l0 k x0 x1 (wrap64 (x5 + 1)))) else (none)) else (none)) else (some true)
def skifflaw0_SameOps.f (k : Nat) (l0 : List (S87)) (l1 : List (S87)) : Option (Bool) := if (l0.length : Int) = (l1.length : Int) then (skifflaw0_SameOps.l0 k l0 l1 0) else (some false)
set_option maxHeartbeats 8000000 in
set_option maxRecDepth 100000 in
theorem skifflaw0_SameOps.calls (k : Nat) (A0 : Option Addr) (c0 : Nat) (l0 : List (S87)) (A1 : Option Addr) (c1 : Nat) (l1 : List (S87)) (r : Bool) (w : World) (hr0 : Kd.C k87 w A0 l0.length l0) (hc0 : l0.length ≤ c0) (hr1 : Kd.C k87 w A1 l1.length l1) (hc1 : l1.length ≤ c1) (h : skifflaw0_SameOps.f k l0 l1 = some r) :
  Calls Try.prog 59 #[.slice A0 l0.length c0, .slice A1 l1.length c1] w fun e w' => e = .returned (.bool r) ∧ Drawn0 w w' := by
 have hu87 := Try.underlying87
 have HR0 := Aside0.mk hr0
 have HC0 := Aside0.mk hc0
 clear hr0 hc0
 have HR1 := Aside0.mk hr1
 have HC1 := Aside0.mk hc1
 clear hr1 hc1
 have H : (if (l0.length : Int) = (l1.length : Int) then (skifflaw0_SameOps.l0 k l0 l1 0) else (some false)) = some r := h
 clear h
 by_cases c3 : (l0.length : Int) = (l1.length : Int)
 rotate_left
 ·rw [if_neg c3] at H
  have c3b0 : ((l0.length : Int) == (l1.length : Int)) = false := beq_eq_false_iff_ne.mpr c3
  have c3b1 : ((l0.length : Int) != (l1.length : Int)) = true := bne_iff_ne.mpr c3
  have c3b2 : (l0.length == l1.length) = false := by first | simpa using c3 | (simp at c3 ⊢; omega)
  obtain rfl := Option.some.inj H
  go_enter Try.func59, Try.ntmps59
  go_wp2
  repeat (go_quiet (fail); try go_wp2)
  go_ret
  exact ⟨by first | rfl | (simp; done) | (simp [*]; done), by repeat (first | exact Drawn0.refl _ | apply Drawn0.step)⟩
 rw [if_pos c3] at H
 have c3b0 : ((l0.length : Int) == (l1.length : Int)) = true := beq_iff_eq.mpr c3
 have c3b1 : ((l0.length : Int) != (l1.length : Int)) = false := bne_eq_false_iff_eq.mpr c3
 have c3b2 : (l0.length == l1.length) = true := by first | simpa using c3 | (simp at c3 ⊢; omega)
 clear c3
 have H' := Aside0.mk H
 clear H
 go_enter Try.func59, Try.ntmps59
 go_wp2
 repeat (go_quiet (fail); try go_wp2)
 go_loopg [5] k (fun kq v5 w' => ∃ (x5_1 : Int), v5 = .int .i64 x5_1 ∧ Aside0 (skifflaw0_SameOps.l0 kq l0 l1 x5_1 = some r) ∧ Aside0 (kq ≤ k) ∧ Drawn0 w w')
 case atStart => exact ⟨(0), q17_, H', ⟨Nat.le_refl _⟩, by repeat (first | exact Drawn0.refl _ | apply Drawn0.step)⟩
 case round =>
  clear H'
  try clear c1
  try clear p2
  try clear c3
  try clear c3b0
  try clear c3b1
  try clear c3b2
  obtain ⟨x5_1, rfl, HA, HK1, ⟨m1, rfl⟩⟩ := hrel
  cases gk with
  | zero => exact absurd HA.out (by simp [skifflaw0_SameOps.l0])
  | succ k1 =>
   have H := HA.out
   clear HA
   simp only [skifflaw0_SameOps.l0] at H
   by_cases c4 : x5_1 < (l0.length : Int)
   rotate_left
   ·rw [if_neg c4] at H
    have c4b0 : decide (x5_1 < (l0.length : Int)) = false := decide_eq_false c4
    clear c4
    obtain rfl := Option.some.inj H
    go_wp2
    repeat (go_quiet (fail); try go_wp2)
    go_ret
    exact ⟨by first | rfl | (simp; done) | (simp [*]; done), by repeat (first | exact Drawn0.refl _ | apply Drawn0.step)⟩
   rw [if_pos c4] at H
   have c4b0 : decide (x5_1 < (l0.length : Int)) = true := decide_eq_true c4
   clear c4
   by_cases c5 : 0 ≤ x5_1
   rotate_left
   ·rw [if_neg c5] at H
    exact absurd H (by simp)
   rw [if_pos c5] at H
   have c5b0 : decide (0 ≤ x5_1) = true := decide_eq_true c5
   clear c5
   by_cases c6 : x5_1 < (l1.length : Int)
   rotate_left
   ·rw [if_neg c6] at H
    exact absurd H (by simp)
   rw [if_pos c6] at H
   have c6b0 : decide (x5_1 < (l1.length : Int)) = true := decide_eq_true c6
   clear c6
   by_cases c7 : (!(((rd_T87 l0 x5_1).f0) == ((rd_T87 l1 x5_1).f0)) || (!(((rd_T87 l0 x5_1).f1) == ((rd_T87 l1 x5_1).f1)) || (!((((rd_T87 l0 x5_1).f2).toList) == (((rd_T87 l1 x5_1).f2).toList))))) = true
   ·rw [if_pos c7] at H
    have c7b0 : (!(((rd_T87 l0 x5_1).f0) == ((rd_T87 l1 x5_1).f0)) || (!(((rd_T87 l0 x5_1).f1) == ((rd_T87 l1 x5_1).f1)) || (!((((rd_T87 l0 x5_1).f2).toList) == (((rd_T87 l1 x5_1).f2).toList))))) = true := c7
    clear c7
    obtain rfl := Option.some.inj H
    have p310 : 0 ≤ (x5_1 : Int) := of_decide_eq_true q16_
    have q310 : x5_1 < (l0.length : Int) := of_decide_eq_true q16_
    obtain ⟨ad310, e310, hx310_0, hx310_1, hx310_2⟩ := at_T87 HR0.out x5_1 p310 q310
    cases e310
    replace p310 := eq_true p310
    replace q310 := eq_true q310
    have p311 : 0 ≤ (x5_1 : Int) := of_decide_eq_true q16_
    have q311 : x5_1 < (l1.length : Int) := of_decide_eq_true q16_
    obtain ⟨ad311, e311, hx311_0, hx311_1, hx311_2⟩ := at_T87 HR1.out x5_1 p311 q311
    cases e311
    replace p311 := eq_true p311
    replace q311 := eq_true q311
    go_wp2
    repeat (go_quiet (fail); try go_wp2)
    go_ret
    exact ⟨by first | rfl | (simp; done) | (simp [*]; done), by repeat (first | exact Drawn0.refl _ | apply Drawn0.step)⟩
   rw [if_neg c7] at H
   have c7b0 : (!(((rd_T87 l0 x5_1).f0) == ((rd_T87 l1 x5_1).f0)) || (!(((rd_T87 l0 x5_1).f1) == ((rd_T87 l1 x5_1).f1)) || (!((((rd_T87 l0 x5_1).f2).toList) == (((rd_T87 l1 x5_1).f2).toList))))) = false := by simpa using c7
   clear c7
   have H' := Aside0.mk H
   clear H
   have p310 : 0 ≤ (x5_1 : Int) := of_decide_eq_true q16_
   have q310 : x5_1 < (l0.length : Int) := of_decide_eq_true q16_
   obtain ⟨ad310, e310, hx310_0, hx310_1, hx310_2⟩ := at_T87 HR0.out x5_1 p310 q310
   cases e310
   replace p310 := eq_true p310
   replace q310 := eq_true q310
   have p311 : 0 ≤ (x5_1 : Int) := of_decide_eq_true q16_
   have q311 : x5_1 < (l1.length : Int) := of_decide_eq_true q16_
   obtain ⟨ad311, e311, hx311_0, hx311_1, hx311_2⟩ := at_T87 HR1.out x5_1 p311 q311
   cases e311
   replace p311 := eq_true p311
   replace q311 := eq_true q311
   go_wp2
   repeat (go_quiet (fail); try go_wp2)
   go_roundg k1
   case measure => have := HK1.out; omega
   case rel => exact ⟨(wrap64 (x5_1 + 1)), q17_, H', ⟨by have := HK1.out; omega⟩, by repeat (first | exact Drawn0.refl _ | apply Drawn0.step)⟩
end Go.Proofs.Ytjadcjkjpkkmkaa.PAll
namespace Go.Proofs.Ytjadcjkjpkkmkaa.PAll
open Go.RowKit Go.Proofs.YtjadcjkjpkkmkaaW.PrintWords Go.Proofs.YtjadcjkjpkkmkaaW.PrintLast Go.Proofs.YtjadcjkjpkkmkaaW.PrintMore
attribute [local go_sem] max2_int min2_int max_two min_two max_three min_three max_four min_four
set_option linter.unusedVariables false
set_option linter.unusedSimpArgs false
def skifflaw0_SameDevice.f (k : Nat) (a0_0 : Int) (a0_1 : Int) (a0_2 : Int) (a0_3 : Int) (a0_4 : Int) (l0_5 : List (S87)) (a1_0 : Int) (a1_1 : Int) (a1_2 : Int) (a1_3 : Int) (a1_4 : Int) (l1_5 : List (S87)) : Option (Bool) := if a0_0 = a1_0 then (if a0_1 = a1_1 then (if a0_2 = a1_2 then (if a0_3 = a1_3 then (if a0_4 = a1_4 then ((skifflaw0_SameOps.f k l0_5 l1_5).bind fun t314 => (some t314)) else (some false)) else (some false)) else (some false)) else (some false)) else (some false)
set_option maxHeartbeats 8000000 in
set_option maxRecDepth 100000 in
theorem skifflaw0_SameDevice.calls (k : Nat) (a0_0 : Int) (a0_1 : Int) (a0_2 : Int) (a0_3 : Int) (a0_4 : Int) (A0_5 : Option Addr) (c0_5 : Nat) (l0_5 : List (S87)) (a1_0 : Int) (a1_1 : Int) (a1_2 : Int) (a1_3 : Int) (a1_4 : Int) (A1_5 : Option Addr) (c1_5 : Nat) (l1_5 : List (S87)) (r : Bool) (w : World) (hr0_5 : Kd.C k87 w A0_5 l0_5.length l0_5) (hc0_5 : l0_5.length ≤ c0_5) (hr1_5 : Kd.C k87 w A1_5 l1_5.length l1_5) (hc1_5 : l1_5.length ≤ c1_5) (h : skifflaw0_SameDevice.f k a0_0 a0_1 a0_2 a0_3 a0_4 l0_5 a1_0 a1_1 a1_2 a1_3 a1_4 l1_5 = some r) :
  Calls Try.prog 26 #[.agg #[.int .i64 a0_0, .int .i64 a0_1, .int .i64 a0_2, .int .i64 a0_3, .int .i64 a0_4, .slice A0_5 l0_5.length c0_5], .agg #[.int .i64 a1_0, .int .i64 a1_1, .int .i64 a1_2, .int .i64 a1_3, .int .i64 a1_4, .slice A1_5 l1_5.length c1_5]] w fun e w' => e = .returned (.bool r) ∧ Below w.heap.size w w' := by
 have hu56 := Try.underlying56
 have HR0_5 := Aside0.mk hr0_5
 have HC0_5 := Aside0.mk hc0_5
 clear hr0_5 hc0_5
 have HR1_5 := Aside0.mk hr1_5
 have HC1_5 := Aside0.mk hc1_5
 clear hr1_5 hc1_5
 have HB := Aside0.mk (Below.refl w.heap.size w)
 have H : (if a0_0 = a1_0 then (if a0_1 = a1_1 then (if a0_2 = a1_2 then (if a0_3 = a1_3 then (if a0_4 = a1_4 then ((skifflaw0_SameOps.f k l0_5 l1_5).bind fun t314 => (some t314)) else (some false)) else (some false)) else (some false)) else (some false)) else (some false)) = some r := h
 clear h
 by_cases c3 : a0_0 = a1_0
 rotate_left
 ·rw [if_neg c3] at H
  have c3b0 : (a0_0 == a1_0) = false := beq_eq_false_iff_ne.mpr c3
  have c3b1 : (a0_0 != a1_0) = true := bne_iff_ne.mpr c3
  obtain rfl := Option.some.inj H
  go_enter Try.func26, Try.ntmps26
  go_wp2_with (first | ((with_reducible refine gate_dst (N := 2) rfl ?_); refine box_event ?hg (N := 2) ?hd (cs := #[.int .i64 a0_0, .int .i64 a0_1, .int .i64 a0_2, .int .i64 a0_3, .int .i64 a0_4, .slice A0_5 l0_5.length c0_5]) (t := 56) ?hr ?_; (case hd => rfl); (case hg => rfl); (case hr => first | (go_simp; done) | (go_simp; rfl)); intro gb312 hg w34 hbox hb; have BK312 := Aside0.mk (hbox); have GW312 := Aside0.mk ((by rw [hg]; exact (below_size q2_) : w.heap.size ≤ gb312)); have GE312 := Aside0.mk ((by rw [hg]; exact (below_size q2_) : w.heap.size ≤ gb312)); replace HB := Aside0.mk (below_step q2_ hb); clear hb hbox hg) | ((with_reducible refine gate_dst (N := 3) rfl ?_); refine box_event ?hg (N := 3) ?hd (cs := #[.int .i64 a1_0, .int .i64 a1_1, .int .i64 a1_2, .int .i64 a1_3, .int .i64 a1_4, .slice A1_5 l1_5.length c1_5]) (t := 56) ?hr ?_; (case hd => rfl); (case hg => rfl); (case hr => first | (go_simp; done) | (go_simp; rfl)); intro gb313 hg w35 hbox hb; have BK313 := Aside0.mk (hbox); have GW313 := Aside0.mk ((by rw [hg]; exact (below_size q21_) : w.heap.size ≤ gb313)); have GE313 := Aside0.mk ((by rw [hg]; exact (below_size q21_) : w.heap.size ≤ gb313)); have NB312_313 := Aside0.mk (nl_ (g := gb312) hg q31_); have NB313_312 := Aside0.mk (ng_ (g := gb312) hg q31_); replace BK312 := Aside0.mk (blk_below (g := gb312) q31_ hb); replace HB := Aside0.mk (below_step q21_ hb); clear hb hbox hg; have hnb36 := NB312_313.out; have hnc36 := NB313_312.out; obtain ⟨hcz37_0, hcz37_1, hcz37_2, hcz37_3, hcz37_4, hcz37_5, hfz37_0, hfz37_1, hfz37_2, hfz37_3, hfz37_4, hfz37_5⟩ := cells6_ BK312.out; obtain ⟨hcz38_0, hcz38_1, hcz38_2, hcz38_3, hcz38_4, hcz38_5, hfz38_0, hfz38_1, hfz38_2, hfz38_3, hfz38_4, hfz38_5⟩ := cells6_ BK313.out))
  go_ret
  exact ⟨by first | rfl | (simp [errW_none, errW_some] <;> rfl) | (simp [*, errW_none, errW_some] <;> rfl), by repeat (first | (with_reducible first | exact HB.out | apply below_alloc | apply pw_below_drewN | apply below_drew1 | refine below_set ?_ GE312.out | refine below_set ?_ GE313.out) | exact HB.out)⟩
 rw [if_pos c3] at H
 have c3b0 : (a0_0 == a1_0) = true := beq_iff_eq.mpr c3
 have c3b1 : (a0_0 != a1_0) = false := bne_eq_false_iff_eq.mpr c3
 clear c3
 by_cases c4 : a0_1 = a1_1
 rotate_left
 ·rw [if_neg c4] at H
  have c4b0 : (a0_1 == a1_1) = false := beq_eq_false_iff_ne.mpr c4
  have c4b1 : (a0_1 != a1_1) = true := bne_iff_ne.mpr c4
  obtain rfl := Option.some.inj H
  go_enter Try.func26, Try.ntmps26
  go_wp2_with (first | ((with_reducible refine gate_dst (N := 2) rfl ?_); refine box_event ?hg (N := 2) ?hd (cs := #[.int .i64 a0_0, .int .i64 a0_1, .int .i64 a0_2, .int .i64 a0_3, .int .i64 a0_4, .slice A0_5 l0_5.length c0_5]) (t := 56) ?hr ?_; (case hd => rfl); (case hg => rfl); (case hr => first | (go_simp; done) | (go_simp; rfl)); intro gb312 hg w29 hbox hb; have BK312 := Aside0.mk (hbox); have GW312 := Aside0.mk ((by rw [hg]; exact (below_size q2_) : w.heap.size ≤ gb312)); have GE312 := Aside0.mk ((by rw [hg]; exact (below_size q2_) : w.heap.size ≤ gb312)); replace HB := Aside0.mk (below_step q2_ hb); clear hb hbox hg) | ((with_reducible refine gate_dst (N := 3) rfl ?_); refine box_event ?hg (N := 3) ?hd (cs := #[.int .i64 a1_0, .int .i64 a1_1, .int .i64 a1_2, .int .i64 a1_3, .int .i64 a1_4, .slice A1_5 l1_5.length c1_5]) (t := 56) ?hr ?_; (case hd => rfl); (case hg => rfl); (case hr => first | (go_simp; done) | (go_simp; rfl)); intro gb313 hg w30 hbox hb; have BK313 := Aside0.mk (hbox); have GW313 := Aside0.mk ((by rw [hg]; exact (below_size q21_) : w.heap.size ≤ gb313)); have GE313 := Aside0.mk ((by rw [hg]; exact (below_size q21_) : w.heap.size ≤ gb313)); have NB312_313 := Aside0.mk (nl_ (g := gb312) hg q31_); have NB313_312 := Aside0.mk (ng_ (g := gb312) hg q31_); replace BK312 := Aside0.mk (blk_below (g := gb312) q31_ hb); replace HB := Aside0.mk (below_step q21_ hb); clear hb hbox hg; have hnb31 := NB312_313.out; have hnc31 := NB313_312.out; obtain ⟨hcz32_0, hcz32_1, hcz32_2, hcz32_3, hcz32_4, hcz32_5, hfz32_0, hfz32_1, hfz32_2, hfz32_3, hfz32_4, hfz32_5⟩ := cells6_ BK312.out; obtain ⟨hcz33_0, hcz33_1, hcz33_2, hcz33_3, hcz33_4, hcz33_5, hfz33_0, hfz33_1, hfz33_2, hfz33_3, hfz33_4, hfz33_5⟩ := cells6_ BK313.out))
  go_ret
  exact ⟨by first | rfl | (simp [errW_none, errW_some] <;> rfl) | (simp [*, errW_none, errW_some] <;> rfl), by repeat (first | (with_reducible first | exact HB.out | apply below_alloc | apply pw_below_drewN | apply below_drew1 | refine below_set ?_ GE312.out | refine below_set ?_ GE313.out) | exact HB.out)⟩
 rw [if_pos c4] at H
 have c4b0 : (a0_1 == a1_1) = true := beq_iff_eq.mpr c4
 have c4b1 : (a0_1 != a1_1) = false := bne_eq_false_iff_eq.mpr c4
 clear c4
 by_cases c5 : a0_2 = a1_2
 rotate_left
 ·rw [if_neg c5] at H
  have c5b0 : (a0_2 == a1_2) = false := beq_eq_false_iff_ne.mpr c5
  have c5b1 : (a0_2 != a1_2) = true := bne_iff_ne.mpr c5
  obtain rfl := Option.some.inj H
  go_enter Try.func26, Try.ntmps26
  go_wp2_with (first | ((with_reducible refine gate_dst (N := 2) rfl ?_); refine box_event ?hg (N := 2) ?hd (cs := #[.int .i64 a0_0, .int .i64 a0_1, .int .i64 a0_2, .int .i64 a0_3, .int .i64 a0_4, .slice A0_5 l0_5.length c0_5]) (t := 56) ?hr ?_; (case hd => rfl); (case hg => rfl); (case hr => first | (go_simp; done) | (go_simp; rfl)); intro gb312 hg w24 hbox hb; have BK312 := Aside0.mk (hbox); have GW312 := Aside0.mk ((by rw [hg]; exact (below_size q2_) : w.heap.size ≤ gb312)); have GE312 := Aside0.mk ((by rw [hg]; exact (below_size q2_) : w.heap.size ≤ gb312)); replace HB := Aside0.mk (below_step q2_ hb); clear hb hbox hg) | ((with_reducible refine gate_dst (N := 3) rfl ?_); refine box_event ?hg (N := 3) ?hd (cs := #[.int .i64 a1_0, .int .i64 a1_1, .int .i64 a1_2, .int .i64 a1_3, .int .i64 a1_4, .slice A1_5 l1_5.length c1_5]) (t := 56) ?hr ?_; (case hd => rfl); (case hg => rfl); (case hr => first | (go_simp; done) | (go_simp; rfl)); intro gb313 hg w25 hbox hb; have BK313 := Aside0.mk (hbox); have GW313 := Aside0.mk ((by rw [hg]; exact (below_size q21_) : w.heap.size ≤ gb313)); have GE313 := Aside0.mk ((by rw [hg]; exact (below_size q21_) : w.heap.size ≤ gb313)); have NB312_313 := Aside0.mk (nl_ (g := gb312) hg q31_); have NB313_312 := Aside0.mk (ng_ (g := gb312) hg q31_); replace BK312 := Aside0.mk (blk_below (g := gb312) q31_ hb); replace HB := Aside0.mk (below_step q21_ hb); clear hb hbox hg; have hnb26 := NB312_313.out; have hnc26 := NB313_312.out; obtain ⟨hcz27_0, hcz27_1, hcz27_2, hcz27_3, hcz27_4, hcz27_5, hfz27_0, hfz27_1, hfz27_2, hfz27_3, hfz27_4, hfz27_5⟩ := cells6_ BK312.out; obtain ⟨hcz28_0, hcz28_1, hcz28_2, hcz28_3, hcz28_4, hcz28_5, hfz28_0, hfz28_1, hfz28_2, hfz28_3, hfz28_4, hfz28_5⟩ := cells6_ BK313.out))
  go_ret
  exact ⟨by first | rfl | (simp [errW_none, errW_some] <;> rfl) | (simp [*, errW_none, errW_some] <;> rfl), by repeat (first | (with_reducible first | exact HB.out | apply below_alloc | apply pw_below_drewN | apply below_drew1 | refine below_set ?_ GE312.out | refine below_set ?_ GE313.out) | exact HB.out)⟩
 rw [if_pos c5] at H
 have c5b0 : (a0_2 == a1_2) = true := beq_iff_eq.mpr c5
 have c5b1 : (a0_2 != a1_2) = false := bne_eq_false_iff_eq.mpr c5
 clear c5
 by_cases c6 : a0_3 = a1_3
 rotate_left
 ·rw [if_neg c6] at H
  have c6b0 : (a0_3 == a1_3) = false := beq_eq_false_iff_ne.mpr c6
  have c6b1 : (a0_3 != a1_3) = true := bne_iff_ne.mpr c6
  obtain rfl := Option.some.inj H
  go_enter Try.func26, Try.ntmps26
  go_wp2_with (first | ((with_reducible refine gate_dst (N := 2) rfl ?_); refine box_event ?hg (N := 2) ?hd (cs := #[.int .i64 a0_0, .int .i64 a0_1, .int .i64 a0_2, .int .i64 a0_3, .int .i64 a0_4, .slice A0_5 l0_5.length c0_5]) (t := 56) ?hr ?_; (case hd => rfl); (case hg => rfl); (case hr => first | (go_simp; done) | (go_simp; rfl)); intro gb312 hg w19 hbox hb; have BK312 := Aside0.mk (hbox); have GW312 := Aside0.mk ((by rw [hg]; exact (below_size q2_) : w.heap.size ≤ gb312)); have GE312 := Aside0.mk ((by rw [hg]; exact (below_size q2_) : w.heap.size ≤ gb312)); replace HB := Aside0.mk (below_step q2_ hb); clear hb hbox hg) | ((with_reducible refine gate_dst (N := 3) rfl ?_); refine box_event ?hg (N := 3) ?hd (cs := #[.int .i64 a1_0, .int .i64 a1_1, .int .i64 a1_2, .int .i64 a1_3, .int .i64 a1_4, .slice A1_5 l1_5.length c1_5]) (t := 56) ?hr ?_; (case hd => rfl); (case hg => rfl); (case hr => first | (go_simp; done) | (go_simp; rfl)); intro gb313 hg w20 hbox hb; have BK313 := Aside0.mk (hbox); have GW313 := Aside0.mk ((by rw [hg]; exact (below_size q21_) : w.heap.size ≤ gb313)); have GE313 := Aside0.mk ((by rw [hg]; exact (below_size q21_) : w.heap.size ≤ gb313)); have NB312_313 := Aside0.mk (nl_ (g := gb312) hg q31_); have NB313_312 := Aside0.mk (ng_ (g := gb312) hg q31_); replace BK312 := Aside0.mk (blk_below (g := gb312) q31_ hb); replace HB := Aside0.mk (below_step q21_ hb); clear hb hbox hg; have hnb21 := NB312_313.out; have hnc21 := NB313_312.out; obtain ⟨hcz22_0, hcz22_1, hcz22_2, hcz22_3, hcz22_4, hcz22_5, hfz22_0, hfz22_1, hfz22_2, hfz22_3, hfz22_4, hfz22_5⟩ := cells6_ BK312.out; obtain ⟨hcz23_0, hcz23_1, hcz23_2, hcz23_3, hcz23_4, hcz23_5, hfz23_0, hfz23_1, hfz23_2, hfz23_3, hfz23_4, hfz23_5⟩ := cells6_ BK313.out))
  go_ret
  exact ⟨by first | rfl | (simp [errW_none, errW_some] <;> rfl) | (simp [*, errW_none, errW_some] <;> rfl), by repeat (first | (with_reducible first | exact HB.out | apply below_alloc | apply pw_below_drewN | apply below_drew1 | refine below_set ?_ GE312.out | refine below_set ?_ GE313.out) | exact HB.out)⟩
 rw [if_pos c6] at H
 have c6b0 : (a0_3 == a1_3) = true := beq_iff_eq.mpr c6
 have c6b1 : (a0_3 != a1_3) = false := bne_eq_false_iff_eq.mpr c6
 clear c6
 by_cases c7 : a0_4 = a1_4
 rotate_left
 ·rw [if_neg c7] at H
  have c7b0 : (a0_4 == a1_4) = false := beq_eq_false_iff_ne.mpr c7
  have c7b1 : (a0_4 != a1_4) = true := bne_iff_ne.mpr c7
  obtain rfl := Option.some.inj H
  go_enter Try.func26, Try.ntmps26
  go_wp2_with (first | ((with_reducible refine gate_dst (N := 2) rfl ?_); refine box_event ?hg (N := 2) ?hd (cs := #[.int .i64 a0_0, .int .i64 a0_1, .int .i64 a0_2, .int .i64 a0_3, .int .i64 a0_4, .slice A0_5 l0_5.length c0_5]) (t := 56) ?hr ?_; (case hd => rfl); (case hg => rfl); (case hr => first | (go_simp; done) | (go_simp; rfl)); intro gb312 hg w14 hbox hb; have BK312 := Aside0.mk (hbox); have GW312 := Aside0.mk ((by rw [hg]; exact (below_size q2_) : w.heap.size ≤ gb312)); have GE312 := Aside0.mk ((by rw [hg]; exact (below_size q2_) : w.heap.size ≤ gb312)); replace HB := Aside0.mk (below_step q2_ hb); clear hb hbox hg) | ((with_reducible refine gate_dst (N := 3) rfl ?_); refine box_event ?hg (N := 3) ?hd (cs := #[.int .i64 a1_0, .int .i64 a1_1, .int .i64 a1_2, .int .i64 a1_3, .int .i64 a1_4, .slice A1_5 l1_5.length c1_5]) (t := 56) ?hr ?_; (case hd => rfl); (case hg => rfl); (case hr => first | (go_simp; done) | (go_simp; rfl)); intro gb313 hg w15 hbox hb; have BK313 := Aside0.mk (hbox); have GW313 := Aside0.mk ((by rw [hg]; exact (below_size q21_) : w.heap.size ≤ gb313)); have GE313 := Aside0.mk ((by rw [hg]; exact (below_size q21_) : w.heap.size ≤ gb313)); have NB312_313 := Aside0.mk (nl_ (g := gb312) hg q31_); have NB313_312 := Aside0.mk (ng_ (g := gb312) hg q31_); replace BK312 := Aside0.mk (blk_below (g := gb312) q31_ hb); replace HB := Aside0.mk (below_step q21_ hb); clear hb hbox hg; have hnb16 := NB312_313.out; have hnc16 := NB313_312.out; obtain ⟨hcz17_0, hcz17_1, hcz17_2, hcz17_3, hcz17_4, hcz17_5, hfz17_0, hfz17_1, hfz17_2, hfz17_3, hfz17_4, hfz17_5⟩ := cells6_ BK312.out; obtain ⟨hcz18_0, hcz18_1, hcz18_2, hcz18_3, hcz18_4, hcz18_5, hfz18_0, hfz18_1, hfz18_2, hfz18_3, hfz18_4, hfz18_5⟩ := cells6_ BK313.out))
  go_ret
  exact ⟨by first | rfl | (simp [errW_none, errW_some] <;> rfl) | (simp [*, errW_none, errW_some] <;> rfl), by repeat (first | (with_reducible first | exact HB.out | apply below_alloc | apply pw_below_drewN | apply below_drew1 | refine below_set ?_ GE312.out | refine below_set ?_ GE313.out) | exact HB.out)⟩
 rw [if_pos c7] at H
 have c7b0 : (a0_4 == a1_4) = true := beq_iff_eq.mpr c7
 have c7b1 : (a0_4 != a1_4) = false := bne_eq_false_iff_eq.mpr c7
 clear c7
 replace H := Option.bind_eq_some_iff.mp H
 obtain ⟨t314, A80, H⟩ := H
 replace H : (some t314) = some r := H
 have A8 := Aside0.mk A80
 clear A80
 obtain rfl := Option.some.inj H
 go_enter Try.func26, Try.ntmps26
 go_wp2_with (first | ((with_reducible refine gate_dst (N := 2) rfl ?_); refine box_event ?hg (N := 2) ?hd (cs := #[.int .i64 a0_0, .int .i64 a0_1, .int .i64 a0_2, .int .i64 a0_3, .int .i64 a0_4, .slice A0_5 l0_5.length c0_5]) (t := 56) ?hr ?_; (case hd => rfl); (case hg => rfl); (case hr => first | (go_simp; done) | (go_simp; rfl)); intro gb312 hg w9 hbox hb; have BK312 := Aside0.mk (hbox); have GW312 := Aside0.mk ((by rw [hg]; exact (below_size q2_) : w.heap.size ≤ gb312)); have GE312 := Aside0.mk ((by rw [hg]; exact (below_size q2_) : w.heap.size ≤ gb312)); replace HB := Aside0.mk (below_step q2_ hb); clear hb hbox hg) | ((with_reducible refine gate_dst (N := 3) rfl ?_); refine box_event ?hg (N := 3) ?hd (cs := #[.int .i64 a1_0, .int .i64 a1_1, .int .i64 a1_2, .int .i64 a1_3, .int .i64 a1_4, .slice A1_5 l1_5.length c1_5]) (t := 56) ?hr ?_; (case hd => rfl); (case hg => rfl); (case hr => first | (go_simp; done) | (go_simp; rfl)); intro gb313 hg w10 hbox hb; have BK313 := Aside0.mk (hbox); have GW313 := Aside0.mk ((by rw [hg]; exact (below_size q21_) : w.heap.size ≤ gb313)); have GE313 := Aside0.mk ((by rw [hg]; exact (below_size q21_) : w.heap.size ≤ gb313)); have NB312_313 := Aside0.mk (nl_ (g := gb312) hg q31_); have NB313_312 := Aside0.mk (ng_ (g := gb312) hg q31_); replace BK312 := Aside0.mk (blk_below (g := gb312) q31_ hb); replace HB := Aside0.mk (below_step q21_ hb); clear hb hbox hg; have hnb11 := NB312_313.out; have hnc11 := NB313_312.out; obtain ⟨hcz12_0, hcz12_1, hcz12_2, hcz12_3, hcz12_4, hcz12_5, hfz12_0, hfz12_1, hfz12_2, hfz12_3, hfz12_4, hfz12_5⟩ := cells6_ BK312.out; obtain ⟨hcz13_0, hcz13_1, hcz13_2, hcz13_3, hcz13_4, hcz13_5, hfz13_0, hfz13_1, hfz13_2, hfz13_3, hfz13_4, hfz13_5⟩ := cells6_ BK313.out) | (go_at_call 59; (with_reducible refine (skifflaw0_SameOps.calls k _ _ l0_5 _ _ l1_5 t314 _ ?side1 ?side2 ?side3 ?side4 A8.out).mono ?_); (case side1 => repeat (first | exact (Kd.C_below HR0_5.out HB.out) | (with_reducible refine Kd.C_alloc ?_ _) | (with_reducible refine Kd.C_drewN ?_ _) | (with_reducible refine Kd.C_drew ?_))); (case side2 => exact HC0_5.out); (case side3 => repeat (first | exact (Kd.C_below HR1_5.out HB.out) | (with_reducible refine Kd.C_alloc ?_ _) | (with_reducible refine Kd.C_drewN ?_ _) | (with_reducible refine Kd.C_drew ?_))); (case side4 => exact HC1_5.out); rintro e w' ⟨rfl, ⟨nd, rfl⟩⟩))
 go_ret
 exact ⟨by first | rfl | (simp [errW_none, errW_some] <;> rfl) | (simp [*, errW_none, errW_some] <;> rfl), by repeat (first | (with_reducible first | exact HB.out | apply below_alloc | apply pw_below_drewN | apply below_drew1 | refine below_set ?_ GE312.out | refine below_set ?_ GE313.out) | exact HB.out)⟩
def skifflaw0_SpoilOps.l0 : Nat → List (S87) → Int → Option ((List (S87)))
 | 0, _, _ => none
 | k + 1, x0, x2 => if x2 < (x0.length : Int) then (if 0 ≤ x2 then (skifflaw0_SpoilOps.l0 k (x0.set (x2 : Int).toNat (⟨(rd_T87 x0 x2).f0, Go.bits .xor .i64 ((rd_T87 x0 x2).f1) 90, (rd_T87 x0 x2).f2⟩ : S87)) (wrap64 (x2 + 1))) else (none)) else (some x0)
def skifflaw0_SpoilOps.f (k : Nat) (l0 : List (S87)) : Option ((List (S87))) := skifflaw0_SpoilOps.l0 k l0 0
set_option maxHeartbeats 8000000 in
set_option maxRecDepth 100000 in
theorem skifflaw0_SpoilOps.calls (k : Nat) (P0_ : Nat → Prop) (u9000_ : Value) (l0 : List (S87)) (r : List (S87)) (w0 w : World) (hB : Below w0.heap.size w0 w) (ho0 : Kd.R k87 87 w w0.heap.size P0_ u9000_ l0) (h : skifflaw0_SpoilOps.f k l0 = some r) :
  Calls Try.prog 60 #[u9000_] w fun e w' => e = .returned (.tuple #[]) ∧ Kd.R k87 87 w' w0.heap.size (fun k_ => (P0_ k_ ∨ w.heap.size ≤ k_)) u9000_ r ∧ Below w0.heap.size w0 w' ∧ Kept w w' (fun k_ => P0_ k_) := by
 have HO0 := Aside0.mk (show Kd.R k87 87 w w0.heap.size (fun k_ => (P0_ k_ ∨ w.heap.size ≤ k_)) u9000_ l0 from Kd.R_mono ho0 (fun k_ hk => (.inl hk)))
 have HK := Aside0.mk (Kept.refl w (fun k_ => P0_ k_))
 have HW0 := Aside0.mk hB.size
 have HB := Aside0.mk hB
 clear hB
 have H : (skifflaw0_SpoilOps.l0 k l0 0) = some r := h
 clear h
 have H' := Aside0.mk H
 clear H
 go_enter Try.func60, Try.ntmps60
 go_wp2
 go_loopg [2] k (fun kq v2 w' => ∃ (x0_1 : List (S87)) (x2_1 : Int), v2 = .int .i64 x2_1 ∧ Aside0 (skifflaw0_SpoilOps.l0 kq x0_1 x2_1 = some r) ∧ Aside0 (kq ≤ k) ∧ Aside0 (Kd.R k87 87 w' w0.heap.size (fun k_ => (P0_ k_ ∨ w.heap.size ≤ k_)) u9000_ x0_1) ∧ Aside0 (Kept w w' (fun k_ => P0_ k_)) ∧ Aside0 (Below w0.heap.size w0 w'))
 case atStart => exact ⟨(l0), (0), q17_, H', ⟨Nat.le_refl _⟩, ⟨by (with_reducible repeat (first | apply Kd.R_alloc | apply Kd.R_drewN | apply Kd.R_drew)); exact HO0.out⟩, ⟨by repeat (first | (with_reducible first | exact HK.out | apply Kept.alloc | apply Kept.drewN | apply Kept.drew) | exact HK.out)⟩, ⟨by repeat (first | (with_reducible first | exact HB.out | apply below_alloc | apply pw_below_drewN | apply below_drew1) | exact HB.out)⟩⟩
 case round =>
  clear H'
  obtain ⟨x0_1, x2_1, rfl, HA, HK1, HO_0, HK, HB⟩ := hrel
  cases gk with
  | zero => exact absurd HA.out (by simp [skifflaw0_SpoilOps.l0])
  | succ k1 =>
   have H := HA.out
   clear HA
   simp only [skifflaw0_SpoilOps.l0] at H
   by_cases c2 : x2_1 < (x0_1.length : Int)
   rotate_left
   ·rw [if_neg c2] at H
    have c2b0 : decide (x2_1 < (x0_1.length : Int)) = false := decide_eq_false c2
    clear c2
    obtain rfl := Option.some.inj H
    obtain ⟨Ao8, co8, eo8⟩ := Kd.R_slice HO_0.out
    subst eo8
    go_wp2
    first | go_end0 | ((try simp only [Exit.inBlock, Exit.then]); refine bodyPost_ret (results_none rfl _ _ _) rfl ?_)
    exact ⟨by first | rfl | (simp [errW_none, errW_some] <;> rfl) | (simp [*, errW_none, errW_some] <;> rfl), by (with_reducible repeat (first | apply Kd.R_alloc | apply Kd.R_drewN | apply Kd.R_drew)); exact HO_0.out, by repeat (first | (with_reducible first | exact HB.out | apply below_alloc | apply pw_below_drewN | apply below_drew1) | exact HB.out), by repeat (first | (with_reducible first | exact HK.out | apply Kept.alloc | apply Kept.drewN | apply Kept.drew) | exact HK.out)⟩
   rw [if_pos c2] at H
   have c2b0 : decide (x2_1 < (x0_1.length : Int)) = true := decide_eq_true c2
   clear c2
   by_cases c3 : 0 ≤ x2_1
   rotate_left
   ·rw [if_neg c3] at H
    exact absurd H (by simp)
   rw [if_pos c3] at H
   have c3b0 : decide (0 ≤ x2_1) = true := decide_eq_true c3
   clear c3
   obtain ⟨y316, hy316⟩ : ∃ y_ : List (S87), y_ = (x0_1.set (x2_1 : Int).toNat (⟨(rd_T87 x0_1 x2_1).f0, Go.bits .xor .i64 ((rd_T87 x0_1 x2_1).f1) 90, (rd_T87 x0_1 x2_1).f2⟩ : S87)) := ⟨_, rfl⟩
   replace H : (skifflaw0_SpoilOps.l0 k1 y316 (wrap64 (x2_1 + 1))) = some r := by first | (rw [hy316]; with_reducible exact H) | (have H2_ := (Option.bind_some _ _).symm.trans H; rw [hy316]; with_reducible exact H2_) | (have H2_ := (Option.bind_some _ _).symm.trans H; with_reducible exact H2_) | with_reducible exact H | (rw [hy316]; exact H) | exact H
   have Ny316 := Aside0.mk hy316
   clear hy316
   have H' := Aside0.mk H
   clear H
   obtain ⟨Ao5, co5, eo5⟩ := Kd.R_slice HO_0.out
   subst eo5
   have p315 : 0 ≤ (x2_1 : Int) := of_decide_eq_true q16_
   have q315 : x2_1 < (x0_1.length : Int) := of_decide_eq_true q16_
   obtain ⟨ad315, e315, hx315_0, hx315_1, hx315_2⟩ := at_T87 (Kd.R_reads' HO_0.out).2.2 x2_1 p315 q315
   cases e315
   replace p315 := eq_true p315
   replace q315 := eq_true q315
   have p4 : 0 ≤ (x2_1 : Int) := of_decide_eq_true q16_
   have q4 : (x2_1 : Int) < ((x0_1.length : Int) : Int) := of_decide_eq_true q16_
   obtain ⟨go4, co4, eo4, gb4, gl4, cl4, HG4⟩ := Kd.R_form HO_0.out (by omega)
   (first | cases eo4 | (injection eo4 with ea_ en_ ec_; (first | subst ea_ | (injection ea_ with ea_; subst ea_)); subst ec_; clear en_))
   have GB4 := Aside0.mk gb4
   have GG4 := Aside0.mk HG4
   clear gb4 gl4 HG4
   have HMgo4 := Aside0.mk (show (P0_ go4 ∨ w.heap.size ≤ go4) from (HO_0.out.1 _ rfl))
   (first | simp only [add_plain] at hx315_0 | skip)
   (first | simp only [add_plain] at hx315_1 | skip)
   (first | simp only [add_plain] at hx315_2 | skip)
   obtain ⟨ce4, hcl4, hM4, hcc4, hfr4⟩ := Kd.R_elem HO_0.out z87 (x2_1 : Int) p4 q4
   obtain rfl := k87_openM hM4
   have hx4_0 : wr.cell? ⟨go4, (x2_1 : Int).toNat * 3, none⟩ = some (.bool ((rd_T87 x0_1 x2_1).f0)) := hcc4 0 _ rfl
   have hx4_1 : wr.cell? ⟨go4, (x2_1 : Int).toNat * 3 + 1, none⟩ = some (.int .i64 ((rd_T87 x0_1 x2_1).f1)) := hcc4 1 _ rfl
   have hx4_2 : wr.cell? ⟨go4, (x2_1 : Int).toNat * 3 + 2, none⟩ = some (.string ((rd_T87 x0_1 x2_1).f2)) := hcc4 2 _ rfl
   have hf4_0 : wr.frozen? ⟨go4, (x2_1 : Int).toNat * 3, none⟩ = false := hfr4 0
   have hf4_1 : wr.frozen? ⟨go4, (x2_1 : Int).toNat * 3 + 1, none⟩ = false := hfr4 1
   have hf4_2 : wr.frozen? ⟨go4, (x2_1 : Int).toNat * 3 + 2, none⟩ = false := hfr4 2
   clear hcl4 hcc4 hfr4 hM4
   replace p4 := eq_true p4
   replace q4 := eq_true q4
   have HX6 := Aside0.mk (show Kd.R k87 87 wr w0.heap.size (fun k_ => (P0_ k_ ∨ w.heap.size ≤ k_)) (.slice (some ⟨go4, 0, none⟩) x0_1.length co5) x0_1 from (by (with_reducible repeat (first | apply Kd.R_alloc | apply Kd.R_drewN | apply Kd.R_drew)); exact HO_0.out))
   obtain ⟨ce6, hcl6, hM6, hcc6, hfr6⟩ := Kd.R_elem HX6.out z87 (x2_1 : Int) (of_decide_eq_true q16_) (by have h_ : (x2_1 : Int) < ((x0_1.length : Int) : Int) := of_decide_eq_true q16_; first | exact h_ | (have e_ := (Kd.R_reads' HO_0.out).1; omega) | simpa using h_)
   obtain rfl := k87_openM hM6
   have HP6 := Kd.R_seg HX6.out (x2_1 : Int) (of_decide_eq_true q16_) (by have h_ : (x2_1 : Int) < ((x0_1.length : Int) : Int) := of_decide_eq_true q16_; first | exact h_ | (have e_ := (Kd.R_reads' HO_0.out).1; omega) | simpa using h_) (seg := [.int .i64 (Go.bits .xor .i64 ((rd_T87 x0_1 x2_1).f1) 90)]) (j := 1) hcl6 hcc6 (show 2 ≤ 3 from by decide) (x' := (⟨(rd_T87 x0_1 x2_1).f0, Go.bits .xor .i64 ((rd_T87 x0_1 x2_1).f1) 90, (rd_T87 x0_1 x2_1).f2⟩ : S87)) (k87_mkM _ _ _ (⟨(rd_T87 x0_1 x2_1).f0, Go.bits .xor .i64 ((rd_T87 x0_1 x2_1).f1) 90, (rd_T87 x0_1 x2_1).f2⟩ : S87) ) (fun _ hk => hk)
   have hx6_1 := hcc6 1 _ rfl
   (try simp only [show (k87).sz = 3 from rfl, Nat.mul_one, Nat.add_zero] at hx6_1)
   have hf6_1 := hfr6 1
   (try simp only [show (k87).sz = 3 from rfl, Nat.mul_one, Nat.add_zero] at hf6_1)
   clear hcl6 hcc6 hfr6 hM6
   go_wp2_with (first | ((with_reducible refine gate_store (t := 3) (p := 18) rfl ?_); refine store_event (t := 3) (p := 18) (v := ?vo_w7) (w1 := (wr.setCell ⟨go4, (x2_1 : Int).toNat * 3 + 1, none⟩ (.int .i64 (Go.bits .xor .i64 ((rd_T87 x0_1 x2_1).f1) 90)))) ?hg ?ho ?hn ?hr ?_; (case ho => rfl); (case hg => rfl); (case hn => rfl); (case hr => first | (go_simp; done) | (go_simp; rfl)); intro w7 hw; have hg : wr.grownBy w7 (some go4) := (by rw [hw]; exact HP6.2); have hp_ : Kd.R k87 87 w7 w0.heap.size (fun k_ => (P0_ k_ ∨ w.heap.size ≤ k_)) (.slice (some ⟨go4, 0, none⟩) x0_1.length co5) y316 := (by rw [hw, Ny316.out]; exact HP6.1); clear HP6; replace HO_0 := Aside0.mk (hp_); replace HK := Aside0.mk (Kept.of_grown (S := (fun k_ => P0_ k_)) hg (by repeat (first | (with_reducible first | exact HK.out | apply Kept.alloc | apply Kept.drewN | apply Kept.drew) | exact HK.out)) (fun k_ e_ => (HO_0.out.1 k_ e_))); replace HB := Aside0.mk ((by rw [hw]; exact below_set (HB.out) GB4.out : Below w0.heap.size w0 w7)); clear hg hw hp_))
   go_roundg k1
   case measure => have := HK1.out; omega
   case rel => exact ⟨(y316), (wrap64 (x2_1 + 1)), q17_, H', ⟨by have := HK1.out; omega⟩, ⟨by (with_reducible repeat (first | apply Kd.R_alloc | apply Kd.R_drewN | apply Kd.R_drew)); exact HO_0.out⟩, ⟨by repeat (first | (with_reducible first | exact HK.out | apply Kept.alloc | apply Kept.drewN | apply Kept.drew) | exact HK.out)⟩, ⟨by repeat (first | (with_reducible first | exact HB.out | apply below_alloc | apply pw_below_drewN | apply below_drew1) | exact HB.out)⟩⟩
def skifflaw0_SpoilDevice.f (k : Nat) (a0_0 : Int) (a0_1 : Int) (a0_2 : Int) (a0_3 : Int) (a0_4 : Int) (l0_5 : List (S87)) : Option ((List (S87))) := (skifflaw0_SpoilOps.f k l0_5).bind fun t318 => (some t318)
set_option maxHeartbeats 8000000 in
set_option maxRecDepth 100000 in
theorem skifflaw0_SpoilDevice.calls (k : Nat) (a0_0 : Int) (a0_1 : Int) (a0_2 : Int) (a0_3 : Int) (a0_4 : Int) (P0_5_ : Nat → Prop) (u9000_ : Value) (l0_5 : List (S87)) (r : List (S87)) (w0 w : World) (hB : Below w0.heap.size w0 w) (ho0_5 : Kd.R k87 87 w w0.heap.size P0_5_ u9000_ l0_5) (h : skifflaw0_SpoilDevice.f k a0_0 a0_1 a0_2 a0_3 a0_4 l0_5 = some r) :
  Calls Try.prog 27 #[.agg #[.int .i64 a0_0, .int .i64 a0_1, .int .i64 a0_2, .int .i64 a0_3, .int .i64 a0_4, u9000_]] w fun e w' => e = .returned (.tuple #[]) ∧ Kd.R k87 87 w' w0.heap.size (fun k_ => (P0_5_ k_ ∨ w.heap.size ≤ k_)) u9000_ r ∧ Below w0.heap.size w0 w' ∧ Kept w w' (fun k_ => P0_5_ k_) := by
 have hu56 := Try.underlying56
 have HO0_5 := Aside0.mk (show Kd.R k87 87 w w0.heap.size (fun k_ => (P0_5_ k_ ∨ w.heap.size ≤ k_)) u9000_ l0_5 from Kd.R_mono ho0_5 (fun k_ hk => (.inl hk)))
 have HK := Aside0.mk (Kept.refl w (fun k_ => P0_5_ k_))
 have HW0 := Aside0.mk hB.size
 have HB := Aside0.mk hB
 clear hB
 have H : ((skifflaw0_SpoilOps.f k l0_5).bind fun t318 => (some t318)) = some r := h
 clear h
 replace H := Option.bind_eq_some_iff.mp H
 obtain ⟨t318, A20, H⟩ := H
 replace H : (some t318) = some r := H
 have A2 := Aside0.mk A20
 clear A20
 obtain rfl := Option.some.inj H
 obtain ⟨Ao3, co3, eo3⟩ := Kd.R_slice HO0_5.out
 subst eo3
 go_enter Try.func27, Try.ntmps27
 go_wp2_with (first | ((with_reducible refine gate_dst (N := 1) rfl ?_); refine box_event ?hg (N := 1) ?hd (cs := #[.int .i64 a0_0, .int .i64 a0_1, .int .i64 a0_2, .int .i64 a0_3, .int .i64 a0_4, .slice Ao3 l0_5.length co3]) (t := 56) ?hr ?_; (case hd => rfl); (case hg => rfl); (case hr => first | (go_simp; done) | (go_simp; rfl)); intro gb317 hg w4 hbox hb; have BK317 := Aside0.mk (hbox); have GW317 := Aside0.mk ((by rw [hg]; exact (by first | exact HK.out.1 | exact (show Kept w _ (fun k_ => P0_5_ k_) from by repeat (first | (with_reducible first | exact HK.out | apply Kept.alloc | apply Kept.drewN | apply Kept.drew) | exact HK.out)).1) : w.heap.size ≤ gb317)); have GE317 := Aside0.mk ((by rw [hg]; exact (below_size q2_) : w0.heap.size ≤ gb317)); replace HO0_5 := Aside0.mk (Kd.R_below (by (with_reducible repeat (first | apply Kd.R_alloc | apply Kd.R_drewN | apply Kd.R_drew)); exact HO0_5.out) hb); replace HK := Aside0.mk (Kept.below (S := (fun k_ => P0_5_ k_)) (by repeat (first | (with_reducible first | exact HK.out | apply Kept.alloc | apply Kept.drewN | apply Kept.drew) | exact HK.out)) hb); replace HB := Aside0.mk (below_step q2_ hb); clear hb hbox hg; obtain ⟨hcz5_0, hcz5_1, hcz5_2, hcz5_3, hcz5_4, hcz5_5, hfz5_0, hfz5_1, hfz5_2, hfz5_3, hfz5_4, hfz5_5⟩ := cells6_ BK317.out) | ((with_reducible refine gate_callee (f := 60) rfl ?_); refine goesL_ (some 4) rfl rfl Try.func60 (by kernel_rfl) rfl #[.slice Ao3 l0_5.length co3] rfl q1_ ?_; (with_reducible refine (skifflaw0_SpoilOps.calls k (fun k_ => some k_ = (.slice Ao3 l0_5.length co3 : Value).ownBlock) (.slice Ao3 l0_5.length co3) l0_5 t318 w0 _ ?side1 ?side2 A2.out).mono ?_); (case side1 => repeat (first | (with_reducible first | exact HB.out | apply below_alloc | apply pw_below_drewN | apply below_drew1 | refine below_set ?_ GE317.out) | exact HB.out)); (case side2 => exact Kd.R_tight rfl HO0_5.out); rintro e w6 ⟨rfl, hy0, hb, hkp⟩; refine ⟨_, rfl, ?_⟩; replace BK317 := Aside0.mk (blk_kept (by (with_reducible repeat (first | refine blk_drewN ?_ _ | refine blk_drew ?_ | refine blk_alloc ?_ _)); exact BK317.out) hkp (fun hs_ => (fun e_ => (Kd.R_ne HO0_5.out BK317.out (by decide)) e_) hs_)); replace HK := Aside0.mk (Kept.then_ (S := (fun k_ => P0_5_ k_)) (by repeat (first | (with_reducible first | exact HK.out | apply Kept.alloc | apply Kept.drewN | apply Kept.drew | refine Kept.setCell ?_ (.inr GW317.out) _) | exact HK.out)) hkp (fun k_ hs_ => (fun e_ => (HO0_5.out.1 k_ e_.symm)) hs_)); replace HO0_5 := Aside0.mk (Kd.R_reok rfl hy0 (fun k_ e_ => HO0_5.out.1 k_ e_)); replace HB := Aside0.mk (hb); (try clear hb); (try clear hkp); (try clear hy0)))
 first | go_end0 | ((try simp only [Exit.inBlock, Exit.then]); refine bodyPost_ret (results_none rfl _ _ _) rfl ?_)
 exact ⟨by first | rfl | (simp [errW_none, errW_some] <;> rfl) | (simp [*, errW_none, errW_some] <;> rfl), by (with_reducible repeat (first | apply Kd.R_alloc | apply Kd.R_drewN | apply Kd.R_drew)); exact HO0_5.out, by repeat (first | (with_reducible first | exact HB.out | apply below_alloc | apply pw_below_drewN | apply below_drew1 | refine below_set ?_ GE317.out) | exact HB.out), by repeat (first | (with_reducible first | exact HK.out | apply Kept.alloc | apply Kept.drewN | apply Kept.drew | refine Kept.setCell ?_ (.inr GW317.out) _) | exact HK.out)⟩
def skiffref1_full.l0 : Nat → Int → List Int → Int → Option (ByteArray)
 | 0, _, _, _ => none
 | k + 1, x0, x3, x4 => if x4 < x0 then (if 0 ≤ x4 then (if x4 < (x3.length : Int) then (skiffref1_full.l0 k x0 (x3.set (x4 : Int).toNat 255) (wrap64 (x4 + 1))) else (none)) else (none)) else (some (strOfNums x3))
def skiffref1_full.f (k : Nat) (a0 : Int) : Option (ByteArray) := if 0 ≤ a0 then (if (a0 : Int).toNat ≤ 281474976710656 then (skiffref1_full.l0 k a0 (List.replicate (a0 : Int).toNat 0) 0) else (none)) else (none)
theorem skiffref1_full.mono_l : ∀ k, (∀ y0 y1 y2, LeO (skiffref1_full.l0 k y0 y1 y2) (skiffref1_full.l0 (k + 1) y0 y1 y2))
 | 0 => fun _ _ _ r h => by simp [skiffref1_full.l0] at h
 | k + 1 => by
  have ih0 := skiffref1_full.mono_l k
  ·intro y0 y1 y2
   unfold skiffref1_full.l0
   repeat' first
   | (with_reducible exact ih0 _ _ _)
   | (with_reducible exact LeO.refl _)
   | (with_reducible exact LeO.none _)
   | (with_reducible refine LeO.ite ?_ ?_)
   | (with_reducible refine LeO.bind ?_ (fun _ => ?_))
   | exact ih0 _ _ _
   | exact LeO.none _
   | refine LeO.ite ?_ ?_
   | refine LeO.bind ?_ (fun _ => ?_)
theorem skiffref1_full.mono : ∀ a0 k, LeO (skiffref1_full.f k a0) (skiffref1_full.f (k + 1) a0) := by
 intro a0 k
 have ih0 := skiffref1_full.mono_l k
 unfold skiffref1_full.f
 repeat' first
   | (with_reducible exact ih0 _ _ _)
   | (with_reducible exact LeO.refl _)
   | (with_reducible exact LeO.none _)
   | (with_reducible refine LeO.ite ?_ ?_)
   | (with_reducible refine LeO.bind ?_ (fun _ => ?_))
   | exact ih0 _ _ _
   | exact LeO.none _
   | refine LeO.ite ?_ ?_
   | refine LeO.bind ?_ (fun _ => ?_)
set_option maxHeartbeats 8000000 in
set_option maxRecDepth 100000 in
theorem skiffref1_full.calls (k : Nat) (a0 : Int) (r : ByteArray) (w : World) (h : skiffref1_full.f k a0 = some r) :
  Calls Try.prog 37 #[.int .i64 a0] w fun e w' => e = .returned (.string r) ∧ Below w.heap.size w w' := by
 have HB := Aside0.mk (Below.refl w.heap.size w)
 have H : (if 0 ≤ a0 then (if (a0 : Int).toNat ≤ 281474976710656 then (skiffref1_full.l0 k a0 (List.replicate (a0 : Int).toNat 0) 0) else (none)) else (none)) = some r := h
 clear h
 by_cases c2 : 0 ≤ a0
 rotate_left
 ·rw [if_neg c2] at H
  exact absurd H (by simp)
 rw [if_pos c2] at H
 have c2b0 := eq_true c2
 have c2b1 : decide (0 ≤ a0) = true := decide_eq_true c2
 clear c2
 by_cases c3 : (a0 : Int).toNat ≤ 281474976710656
 rotate_left
 ·rw [if_neg c3] at H
  exact absurd H (by simp)
 rw [if_pos c3] at H
 have c3b0 := eq_true c3
 have c3b1 : decide ((a0 : Int).toNat ≤ 281474976710656) = true := decide_eq_true c3
 clear c3
 obtain ⟨y319, hy319⟩ : ∃ y_ : List Int, y_ = (List.replicate (a0 : Int).toNat 0) := ⟨_, rfl⟩
 replace H : (skiffref1_full.l0 k a0 y319 0) = some r := by first | (rw [hy319]; with_reducible exact H) | (have H2_ := (Option.bind_some _ _).symm.trans H; rw [hy319]; with_reducible exact H2_) | (have H2_ := (Option.bind_some _ _).symm.trans H; with_reducible exact H2_) | with_reducible exact H | (rw [hy319]; exact H) | exact H
 have Ny319 := Aside0.mk hy319
 clear hy319
 have H' := Aside0.mk H
 clear H
 go_enter Try.func37, Try.ntmps37
 go_wp2_with (first | ((with_reducible refine gate_dst (N := 6) rfl ?_); refine Kd.R_make (Kd.int .u8) _ 5 rfl (N := 6) rfl 80 _ _ rfl a0 rfl rfl Try.underlying80 (.int .u8 0) 1 info5 rfl (by decide) (by omega) 0 (ok := fun _ => True) (okp := fun _ => True) rfl (fun _ hk => hk) trivial (of_decide_eq_true q16_) (Nat.le_trans (Nat.mul_le_mul_right _ (of_decide_eq_true q16_ : a0.toNat ≤ 281474976710656)) (by omega)) (Below.refl _ _) (Nat.le_refl _) ?_; intro v320 w4 ho5 hb hg_ hnew_; clear hg_ hnew_; (first | rw [← Ny319.out] at ho5 | (simp only [Int.reduceToNat] at ho5; rw [← Ny319.out] at ho5)); have HO321 := Aside0.mk (Kd.R_lower ho5 (below_size q2_)); replace HB := Aside0.mk (below_step q2_ hb); clear hb ho5))
 go_loopg [4] k (fun kq v4 w' => ∃ (x3_1 : List Int) (x4_1 : Int), v4 = .int .i64 x4_1 ∧ Aside0 (skiffref1_full.l0 kq a0 x3_1 x4_1 = some r) ∧ Aside0 (kq ≤ k) ∧ Aside0 (Kd.R (Kd.int .u8) 5 w' w.heap.size (fun _ => True) v320 x3_1) ∧ Aside0 (Below w.heap.size w w'))
 case atStart => exact ⟨(y319), (0), q17_, H', ⟨Nat.le_refl _⟩, ⟨by (with_reducible repeat (first | apply Kd.R_alloc | apply Kd.R_drewN | apply Kd.R_drew)); exact HO321.out⟩, ⟨by repeat (first | (with_reducible first | exact HB.out | apply below_alloc | apply pw_below_drewN | apply below_drew1) | exact HB.out)⟩⟩
 case round =>
  clear H'
  try clear c2
  try clear c2b0
  try clear c2b1
  try clear p2
  try clear c3
  try clear c3b0
  try clear c3b1
  obtain ⟨x3_1, x4_1, rfl, HA, HK1, HO_3, HB⟩ := hrel
  cases gk with
  | zero => exact absurd HA.out (by simp [skiffref1_full.l0])
  | succ k1 =>
   have H := HA.out
   clear HA
   simp only [skiffref1_full.l0] at H
   by_cases c6 : x4_1 < a0
   rotate_left
   ·rw [if_neg c6] at H
    have c6b0 : decide (x4_1 < a0) = false := decide_eq_false c6
    clear c6
    obtain rfl := Option.some.inj H
    have hcv12 := own_string (P := Try.prog) Try.underlying80 Try.underlying5 Try.underlying9 (Kd.own_of_R HO_3.out)
    go_wp2
    go_ret
    exact ⟨by first | rfl | (simp [errW_none, errW_some] <;> rfl) | (simp [*, errW_none, errW_some] <;> rfl), by repeat (first | (with_reducible first | exact HB.out | apply below_alloc | apply pw_below_drewN | apply below_drew1) | exact HB.out)⟩
   rw [if_pos c6] at H
   have c6b0 : decide (x4_1 < a0) = true := decide_eq_true c6
   clear c6
   by_cases c7 : 0 ≤ x4_1
   rotate_left
   ·rw [if_neg c7] at H
    exact absurd H (by simp)
   rw [if_pos c7] at H
   have c7b0 : decide (0 ≤ x4_1) = true := decide_eq_true c7
   clear c7
   by_cases c8 : x4_1 < (x3_1.length : Int)
   rotate_left
   ·rw [if_neg c8] at H
    exact absurd H (by simp)
   rw [if_pos c8] at H
   have c8b0 : decide (x4_1 < (x3_1.length : Int)) = true := decide_eq_true c8
   clear c8
   obtain ⟨y322, hy322⟩ : ∃ y_ : List Int, y_ = (x3_1.set (x4_1 : Int).toNat 255) := ⟨_, rfl⟩
   replace H : (skiffref1_full.l0 k1 a0 y322 (wrap64 (x4_1 + 1))) = some r := by first | (rw [hy322]; with_reducible exact H) | (have H2_ := (Option.bind_some _ _).symm.trans H; rw [hy322]; with_reducible exact H2_) | (have H2_ := (Option.bind_some _ _).symm.trans H; with_reducible exact H2_) | with_reducible exact H | (rw [hy322]; exact H) | exact H
   have Ny322 := Aside0.mk hy322
   clear hy322
   have H' := Aside0.mk H
   clear H
   have p9 : 0 ≤ (x4_1 : Int) := of_decide_eq_true q16_
   have q9 : (x4_1 : Int) < ((x3_1.length : Int) : Int) := of_decide_eq_true q16_
   obtain ⟨go9, co9, eo9, gb9, gl9, cl9, HG9⟩ := Kd.R_form HO_3.out (by omega)
   (first | cases eo9 | (injection eo9 with ea_ en_ ec_; (first | subst ea_ | (injection ea_ with ea_; subst ea_)); subst ec_; clear en_))
   have GB9 := Aside0.mk gb9
   have GG9 := Aside0.mk HG9
   clear gb9 gl9 HG9
   obtain ⟨hx9_0, hf9_0⟩ := Kd.R_celln 0 HO_3.out (x4_1 : Int) p9 q9
   replace p9 := eq_true p9
   replace q9 := eq_true q9
   have HP10 := Kd.R_putg HO_3.out (x4_1 : Int) 255
   go_wp2_with (first | ((with_reducible refine gate_store (t := 5) (p := 14) rfl ?_); refine store_event (t := 5) (p := 14) (v := ?vo_w11) (w1 := (wr.setCell ⟨go9, (x4_1 : Int).toNat, none⟩ (.int .u8 255))) ?hg ?ho ?hn ?hr ?_; (case ho => rfl); (case hg => rfl); (case hn => rfl); (case hr => first | (go_simp; done) | (go_simp; rfl)); intro w11 hw; have hg : wr.grownBy w11 (some go9) := (by rw [hw]; exact HP10.2); have hp_ : Kd.R (Kd.int .u8) 5 w11 w.heap.size (fun _ => True) (.slice (some ⟨go9, 0, none⟩) x3_1.length co9) y322 := (by rw [hw, Ny322.out]; exact HP10.1); clear HP10; replace HO_3 := Aside0.mk (hp_); replace HB := Aside0.mk ((by rw [hw]; exact below_set (HB.out) GB9.out : Below w.heap.size w w11)); clear hg hw hp_))
   go_roundg k1
   case measure => have := HK1.out; omega
   case rel => exact ⟨(y322), (wrap64 (x4_1 + 1)), q17_, H', ⟨by have := HK1.out; omega⟩, ⟨by (with_reducible repeat (first | apply Kd.R_alloc | apply Kd.R_drewN | apply Kd.R_drew)); exact HO_3.out⟩, ⟨by repeat (first | (with_reducible first | exact HB.out | apply below_alloc | apply pw_below_drewN | apply below_drew1) | exact HB.out)⟩⟩
def skiffref1_Blank.f (k : Nat)  : Option (ByteArray) := (skiffref1_full.f k 768).bind fun t323 => (some t323)
set_option maxHeartbeats 8000000 in
set_option maxRecDepth 100000 in
theorem skiffref1_Blank.calls (k : Nat)  (r : ByteArray) (w : World) (h : skiffref1_Blank.f k  = some r) :
  Calls Try.prog 17 #[] w fun e w' => e = .returned (.string r) ∧ Below w.heap.size w w' := by
 have HB := Aside0.mk (Below.refl w.heap.size w)
 have H : ((skiffref1_full.f k 768).bind fun t323 => (some t323)) = some r := h
 clear h
 replace H := Option.bind_eq_some_iff.mp H
 obtain ⟨t323, A10, H⟩ := H
 replace H : (some t323) = some r := H
 have A1 := Aside0.mk A10
 clear A10
 obtain rfl := Option.some.inj H
 go_enter Try.func17, Try.ntmps17
 go_wp2_with (first | ((with_reducible refine gate_callee (f := 37) rfl ?_); refine goesL_ (some 1) rfl rfl Try.func37 (by kernel_rfl) rfl #[.int .i64 768] rfl q1_ ?_; (with_reducible refine (skiffref1_full.calls k 768 t323 _ A1.out).mono ?_); rintro e w2 ⟨rfl, hb⟩; refine ⟨_, rfl, ?_⟩; replace HB := Aside0.mk (below_step q2_ hb); (try clear hb); (try clear hb2); (try clear hk); (try clear hi)))
 go_ret
 exact ⟨by first | rfl | (simp [errW_none, errW_some] <;> rfl) | (simp [*, errW_none, errW_some] <;> rfl), by repeat (first | (with_reducible first | exact HB.out | apply below_alloc | apply pw_below_drewN | apply below_drew1) | exact HB.out)⟩
mutual
def skiffref1_Words.j0 : Nat → Int → ByteArray → Bool → Option ((List (S87)) × Int)
 | 0, _, _, _ => none
 | k + 1, x0, x1, x23 => if x23 = true then (some (([] : List (S87)), 300)) else ((skiffref1_full.f k ((4 - ((x1.size : Int) % 4)) % 4)).bind fun t325 => (if x1.size + t325.size ≤ 9223372036854775807 then (skiffref1_Words.l0 k x0 (x1 ++ t325) ([] : List (S87)) 0) else (none)))
def skiffref1_Words.l0 : Nat → Int → ByteArray → List (S87) → Int → Option ((List (S87)) × Int)
 | 0, _, _, _, _ => none
 | k + 1, x0, x6, x7, x8 => if x8 < (x6.size : Int) then (if 0 ≤ x8 then (if x8 ≤ (wrap64 (x8 + 4)) then (if (wrap64 (x8 + 4)) ≤ (x6.size : Int) then (if x7.length < 4398046511104 then (skiffref1_Words.l0 k x0 x6 (x7 ++ [(⟨false, wrap64 (x0 + x8), x6.extract (x8 : Int).toNat ((wrap64 (x8 + 4)) : Int).toNat⟩ : S87)]) (wrap64 (x8 + 4))) else (none)) else (none)) else (none)) else (none)) else (some (x7, 0))
end
def skiffref1_Words.f (k : Nat) (a0 : Int) (a1 : ByteArray) : Option ((List (S87)) × Int) := (PBase.skiffref1_upTo.f a0 0 768).bind fun t324 => (if t324 = true then (if (Int.tmod a0 4) = 0 then (skiffref1_Words.j0 k a0 a1 (decide ((a1.size : Int) > (wrap64 (768 - a0))))) else (skiffref1_Words.j0 k a0 a1 true)) else (skiffref1_Words.j0 k a0 a1 true))
theorem skiffref1_Words.mono_l : ∀ k, (∀ y0 y1 y2, LeO (skiffref1_Words.j0 k y0 y1 y2) (skiffref1_Words.j0 (k + 1) y0 y1 y2)) ∧ (∀ y0 y1 y2 y3, LeO (skiffref1_Words.l0 k y0 y1 y2 y3) (skiffref1_Words.l0 (k + 1) y0 y1 y2 y3))
 | 0 => ⟨fun _ _ _ r h => by simp [skiffref1_Words.j0] at h, fun _ _ _ _ r h => by simp [skiffref1_Words.l0] at h⟩
 | k + 1 => by
  obtain ⟨ih0, ih1⟩ := skiffref1_Words.mono_l k
  refine ⟨?_, ?_⟩
  ·intro y0 y1 y2
   unfold skiffref1_Words.j0
   repeat' first
   | (with_reducible exact ih0 _ _ _)
   | (with_reducible exact ih1 _ _ _ _)
   | (with_reducible exact skiffref1_full.mono _ _)
   | (with_reducible exact LeO.refl _)
   | (with_reducible exact LeO.none _)
   | (with_reducible refine LeO.ite ?_ ?_)
   | (with_reducible refine LeO.bind ?_ (fun _ => ?_))
   | exact ih0 _ _ _
   | exact ih1 _ _ _ _
   | exact skiffref1_full.mono _ _
   | exact LeO.none _
   | refine LeO.ite ?_ ?_
   | refine LeO.bind ?_ (fun _ => ?_)
  ·intro y0 y1 y2 y3
   unfold skiffref1_Words.l0
   repeat' first
   | (with_reducible exact ih0 _ _ _)
   | (with_reducible exact ih1 _ _ _ _)
   | (with_reducible exact skiffref1_full.mono _ _)
   | (with_reducible exact LeO.refl _)
   | (with_reducible exact LeO.none _)
   | (with_reducible refine LeO.ite ?_ ?_)
   | (with_reducible refine LeO.bind ?_ (fun _ => ?_))
   | exact ih0 _ _ _
   | exact ih1 _ _ _ _
   | exact skiffref1_full.mono _ _
   | exact LeO.none _
   | refine LeO.ite ?_ ?_
   | refine LeO.bind ?_ (fun _ => ?_)
set_option maxHeartbeats 8000000 in
set_option maxRecDepth 100000 in
theorem skiffref1_Words.calls (k : Nat) (a0 : Int) (a1 : ByteArray) (r1 : List (S87)) (r2 : Int) (w : World) (h : skiffref1_Words.f k a0 a1 = some (r1, r2)) :
  Calls Try.prog 42 #[.int .i64 a0, .string a1] w fun e w' => ∃ v0_ : Value, e = .returned (.tuple #[v0_, .int .i64 r2]) ∧ Kd.R k87 87 w' w.heap.size (fun _ => True) v0_ r1 ∧ Below w.heap.size w w' := by
 have hu87 := Try.underlying87
 have HB := Aside0.mk (Below.refl w.heap.size w)
 have H : ((PBase.skiffref1_upTo.f a0 0 768).bind fun t324 => (if t324 = true then (if (Int.tmod a0 4) = 0 then (skiffref1_Words.j0 k a0 a1 (decide ((a1.size : Int) > (wrap64 (768 - a0))))) else (skiffref1_Words.j0 k a0 a1 true)) else (skiffref1_Words.j0 k a0 a1 true))) = some (r1, r2) := h
 clear h
 have HC3 := Aside0.mk H
 clear H
 go_enter Try.func42, Try.ntmps42
 go_upto_region 1 with (fail)
 go_cut [23] (fun v23 wc => ∃ (kq : Nat) (x23_2 : Bool), v23 = .bool x23_2 ∧ Aside0 (skiffref1_Words.j0 kq a0 a1 x23_2 = some (r1, r2)) ∧ Aside0 (kq ≤ k) ∧ Aside0 (Below w.heap.size w wc))
 case first =>
  have H := HC3.out
  clear HC3
  replace H := Option.bind_eq_some_iff.mp H
  obtain ⟨t324, A40, H⟩ := H
  (try dsimp only at H)
  have A4 := Aside0.mk A40
  clear A40
  by_cases c5 : t324 = true
  rotate_left
  ·replace c5 := Bool.eq_false_iff.mpr c5
   subst c5
   have H1 : (skiffref1_Words.j0 k a0 a1 true) = some (r1, r2) := by rw [if_neg (show ¬ (false = true) by decide)] at H; exact H
   clear H
   have H := H1
   clear H1
   have H' := Aside0.mk H
   clear H
   go_wp2_with (first | ((with_reducible refine gate_callee (f := 40) rfl ?_); refine goesL_ (some 10) rfl rfl Try.func40 (by kernel_rfl) rfl #[.int .i64 a0, .int .i64 0, .int .i64 768] rfl q1_ ?_; (with_reducible refine (PBase.skiffref1_upTo.calls a0 0 768 false _ A4.out).mono ?_); rintro e w' ⟨rfl, ⟨nd, rfl⟩⟩; refine ⟨_, rfl, ?_⟩))
   go_meet
   case rel => exact ⟨_, (true), q17_, H', ⟨by first | omega | exact Nat.le_refl _⟩, ⟨by repeat (first | (with_reducible first | exact HB.out | apply below_alloc | apply pw_below_drewN | apply below_drew1) | exact HB.out)⟩⟩
  subst c5
  have H1 : (if (Int.tmod a0 4) = 0 then (skiffref1_Words.j0 k a0 a1 (decide ((a1.size : Int) > (wrap64 (768 - a0))))) else (skiffref1_Words.j0 k a0 a1 true)) = some (r1, r2) := by rw [if_pos rfl] at H; exact H
  clear H
  have H := H1
  clear H1
  by_cases c6 : (Int.tmod a0 4) = 0
  rotate_left
  ·rw [if_neg c6] at H
   have c6b0 : ((Int.tmod a0 4) == 0) = false := beq_eq_false_iff_ne.mpr c6
   have c6b1 : ((Int.tmod a0 4) != 0) = true := bne_iff_ne.mpr c6
   (first | rw [c6b0] | (simp only [i64_w, i32_w]; rw [c6b0]) | skip)
   have H' := Aside0.mk H
   clear H
   go_wp2_with (first | ((with_reducible refine gate_callee (f := 40) rfl ?_); refine goesL_ (some 10) rfl rfl Try.func40 (by kernel_rfl) rfl #[.int .i64 a0, .int .i64 0, .int .i64 768] rfl q1_ ?_; (with_reducible refine (PBase.skiffref1_upTo.calls a0 0 768 true _ A4.out).mono ?_); rintro e w' ⟨rfl, ⟨nd, rfl⟩⟩; refine ⟨_, rfl, ?_⟩))
   go_meet
   case rel => exact ⟨_, (true), q17_, H', ⟨by first | omega | exact Nat.le_refl _⟩, ⟨by repeat (first | (with_reducible first | exact HB.out | apply below_alloc | apply pw_below_drewN | apply below_drew1) | exact HB.out)⟩⟩
  rw [if_pos c6] at H
  have c6b0 : ((Int.tmod a0 4) == 0) = true := beq_iff_eq.mpr c6
  have c6b1 : ((Int.tmod a0 4) != 0) = false := bne_eq_false_iff_eq.mpr c6
  clear c6
  (first | rw [c6b0] | (simp only [i64_w, i32_w]; rw [c6b0]) | skip)
  have H' := Aside0.mk H
  clear H
  go_wp2_with (first | ((with_reducible refine gate_callee (f := 40) rfl ?_); refine goesL_ (some 10) rfl rfl Try.func40 (by kernel_rfl) rfl #[.int .i64 a0, .int .i64 0, .int .i64 768] rfl q1_ ?_; (with_reducible refine (PBase.skiffref1_upTo.calls a0 0 768 true _ A4.out).mono ?_); rintro e w' ⟨rfl, ⟨nd, rfl⟩⟩; refine ⟨_, rfl, ?_⟩))
  go_meet
  case rel => exact ⟨_, (decide ((a1.size : Int) > (wrap64 (768 - a0)))), q17_, H', ⟨by first | omega | exact Nat.le_refl _⟩, ⟨by repeat (first | (with_reducible first | exact HB.out | apply below_alloc | apply pw_below_drewN | apply below_drew1) | exact HB.out)⟩⟩
 case rest =>
  clear HC3
  try clear p2
  try clear c4
  try clear c5
  try clear c6
  try clear c6b0
  try clear c6b1
  try clear p6
  obtain ⟨kq, x23_2, rfl, HA, HJ2, HB⟩ := hcut
  cases kq with
  | zero => exact absurd HA.out (by simp [skiffref1_Words.j0])
  | succ kj2 =>
   have H := HA.out
   clear HA
   simp only [skiffref1_Words.j0] at H
   by_cases c7 : x23_2 = true
   ·subst c7
    have H1 : (some (([] : List (S87)), 300)) = some (r1, r2) := by rw [if_pos rfl] at H; exact H
    clear H
    have H := H1
    clear H1
    simp only [Option.some.injEq, Prod.mk.injEq] at H
    obtain ⟨rfl, rfl⟩ := H
    go_wp2
    go_ret2
    exact ⟨_, by first | rfl | (simp [errW_none, errW_some] <;> rfl) | (simp [*, errW_none, errW_some] <;> rfl), by first | exact Kd.R_nil _ _ _ _ _ | exact Kd.N_nil _ _ _ _ _ | exact Kd.V_nil _ _ _ _ _ | exact Kd.Q_nil _ _ _ _ _ | exact Kd.S_nil _ _ _ _ _, by repeat (first | (with_reducible first | exact HB.out | apply below_alloc | apply pw_below_drewN | apply below_drew1) | exact HB.out)⟩
   replace c7 := Bool.eq_false_iff.mpr c7
   subst c7
   have H1 : ((skiffref1_full.f kj2 ((4 - ((a1.size : Int) % 4)) % 4)).bind fun t325 => (if a1.size + t325.size ≤ 9223372036854775807 then (skiffref1_Words.l0 kj2 a0 (a1 ++ t325) ([] : List (S87)) 0) else (none))) = some (r1, r2) := by rw [if_neg (show ¬ (false = true) by decide)] at H; exact H
   clear H
   have H := H1
   clear H1
   replace H := Option.bind_eq_some_iff.mp H
   obtain ⟨t325, A80, H⟩ := H
   (try dsimp only at H)
   have A8 := Aside0.mk A80
   clear A80
   by_cases c9 : a1.size + t325.size ≤ 9223372036854775807
   rotate_left
   ·rw [if_neg c9] at H
    exact absurd H (by simp)
   rw [if_pos c9] at H
   have c9b0 := eq_true c9
   have c9b1 : decide (a1.size + t325.size ≤ 9223372036854775807) = true := decide_eq_true c9
   try have c9b2 : (9223372036854775807 < a1.size + t325.size) = False := eq_false (Nat.not_lt.2 c9)
   have H' := Aside0.mk H
   clear H
   go_wp2_with (first | ((with_reducible refine gate_callee (f := 37) rfl ?_); refine goesL_ (some 30) rfl rfl Try.func37 (by kernel_rfl) rfl #[.int .i64 ((4 - ((a1.size : Int) % 4)) % 4)] rfl q1_ ?_; (with_reducible refine (skiffref1_full.calls kj2 ((4 - ((a1.size : Int) % 4)) % 4) t325 _ A8.out).mono ?_); rintro e w10 ⟨rfl, hb⟩; refine ⟨_, rfl, ?_⟩; replace HB := Aside0.mk (below_step q2_ hb); (try clear hb); (try clear hb2); (try clear hk); (try clear hi)))
   go_loopg [7, 8] kj2 (fun kq v7 v8 w' => ∃ (x7_2 : List (S87)) (x8_2 : Int), v8 = .int .i64 x8_2 ∧ Aside0 (skiffref1_Words.l0 kq a0 (a1 ++ t325) x7_2 x8_2 = some (r1, r2)) ∧ Aside0 (kq ≤ kj2) ∧ Aside0 (Kd.R k87 87 w' w.heap.size (fun _ => True) v7 x7_2) ∧ Aside0 (Below w.heap.size w w'))
   case atStart => exact ⟨(([] : List (S87))), (0), q17_, H', ⟨Nat.le_refl _⟩, ⟨by first | exact Kd.R_nil _ _ _ _ _ | exact Kd.N_nil _ _ _ _ _ | exact Kd.V_nil _ _ _ _ _ | exact Kd.Q_nil _ _ _ _ _ | exact Kd.S_nil _ _ _ _ _⟩, ⟨by repeat (first | (with_reducible first | exact HB.out | apply below_alloc | apply pw_below_drewN | apply below_drew1) | exact HB.out)⟩⟩
   case round =>
    clear H'
    try clear p2
    try clear c3
    try clear c4
    try clear c5
    try clear c6
    try clear c6b0
    try clear c6b1
    try clear p6
    try clear c7
    try clear c9
    try clear c9b0
    try clear c9b1
    try clear c9b2
    try clear p2
    try clear p6
    obtain ⟨x7_2, x8_2, rfl, HA, HK2, HO_7, HB⟩ := hrel
    cases gk with
    | zero => exact absurd HA.out (by simp [skiffref1_Words.l0])
    | succ k2 =>
     have H := HA.out
     clear HA
     simp only [skiffref1_Words.l0] at H
     by_cases c11 : x8_2 < ((a1 ++ t325).size : Int)
     rotate_left
     ·rw [if_neg c11] at H
      have c11b0 : decide (x8_2 < ((a1 ++ t325).size : Int)) = false := decide_eq_false c11
      have c11b0n := c11b0
      try simp only [ByteArray.size_append, Int.natCast_add] at c11b0n
      clear c11
      simp only [Option.some.injEq, Prod.mk.injEq] at H
      obtain ⟨rfl, rfl⟩ := H
      go_wp2
      go_ret2
      exact ⟨_, by first | rfl | (simp [errW_none, errW_some] <;> rfl) | (simp [*, errW_none, errW_some] <;> rfl), by (with_reducible repeat (first | apply Kd.R_alloc | apply Kd.R_drewN | apply Kd.R_drew)); exact HO_7.out, by repeat (first | (with_reducible first | exact HB.out | apply below_alloc | apply pw_below_drewN | apply below_drew1) | exact HB.out)⟩
     rw [if_pos c11] at H
     have c11b0 : decide (x8_2 < ((a1 ++ t325).size : Int)) = true := decide_eq_true c11
     have c11b0n := c11b0
     try simp only [ByteArray.size_append, Int.natCast_add] at c11b0n
     clear c11
     by_cases c12 : 0 ≤ x8_2
     rotate_left
     ·rw [if_neg c12] at H
      exact absurd H (by simp)
     rw [if_pos c12] at H
     have c12b0 := eq_true c12
     have c12b1 : decide (0 ≤ x8_2) = true := decide_eq_true c12
     clear c12
     by_cases c13 : x8_2 ≤ (wrap64 (x8_2 + 4))
     rotate_left
     ·rw [if_neg c13] at H
      exact absurd H (by simp)
     rw [if_pos c13] at H
     have c13b0 := eq_true c13
     have c13b1 : decide (x8_2 ≤ (wrap64 (x8_2 + 4))) = true := decide_eq_true c13
     by_cases c14 : (wrap64 (x8_2 + 4)) ≤ ((a1 ++ t325).size : Int)
     rotate_left
     ·rw [if_neg c14] at H
      exact absurd H (by simp)
     rw [if_pos c14] at H
     have c14b0 := eq_true c14
     have c14b0n := c14b0
     try simp only [ByteArray.size_append, Int.natCast_add] at c14b0n
     have c14b1 : decide ((wrap64 (x8_2 + 4)) ≤ ((a1 ++ t325).size : Int)) = true := decide_eq_true c14
     have c14b1n := c14b1
     try simp only [ByteArray.size_append, Int.natCast_add] at c14b1n
     by_cases c15 : x7_2.length < 4398046511104
     rotate_left
     ·rw [if_neg c15] at H
      exact absurd H (by simp)
     rw [if_pos c15] at H
     have LMc15 := Aside0.mk c15
     clear c15
     obtain ⟨y326, hy326⟩ : ∃ y_ : List (S87), y_ = (x7_2 ++ [(⟨false, wrap64 (a0 + x8_2), (a1 ++ t325).extract (x8_2 : Int).toNat ((wrap64 (x8_2 + 4)) : Int).toNat⟩ : S87)]) := ⟨_, rfl⟩
     replace H : (skiffref1_Words.l0 k2 a0 (a1 ++ t325) y326 (wrap64 (x8_2 + 4))) = some (r1, r2) := by first | (rw [hy326]; with_reducible exact H) | (have H2_ := (Option.bind_some _ _).symm.trans H; rw [hy326]; with_reducible exact H2_) | (have H2_ := (Option.bind_some _ _).symm.trans H; with_reducible exact H2_) | with_reducible exact H | (rw [hy326]; exact H) | exact H
     have Ny326 := Aside0.mk hy326
     clear hy326
     have H' := Aside0.mk H
     clear H
     go_wp2_with (first | ((with_reducible refine gate_builtin (b := .append) (xs := #[.tmp 38, .tmp 48]) rfl ?_); (try (refine gate_guard (by rfl) ?_; dsimp only)); at_builtin; refine Kd.R_append k87 (w0 := w) w.heap.size rfl (.tmp 38) (.tmp 48) 54 87 (.agg #[(.bool false), (.int .i64 0), (.string ⟨#[]⟩)]) 32 rfl Try.underlying54 info87 rfl (by decide) (by omega) u7 x7_2 (⟨false, wrap64 (a0 + x8_2), (a1 ++ t325).extract (x8_2 : Int).toNat ((wrap64 (x8_2 + 4)) : Int).toNat⟩ : S87) [.bool false, .int .i64 (wrap64 (a0 + x8_2)), .string ((a1 ++ t325).extract (x8_2 : Int).toNat ((wrap64 (x8_2 + 4)) : Int).toNat)] (fun _ => True) (fun _ => False) rfl rfl ?aP (fun _ hk => hk.elim) ?aF ?aO ?aB ?aS ?aL ?_; (case aP => exact k87_mkM _ _ _ (⟨false, wrap64 (a0 + x8_2), (a1 ++ t325).extract (x8_2 : Int).toNat ((wrap64 (x8_2 + 4)) : Int).toNat⟩ : S87)); (case aB => exact q2_); (case aF => exact (fun _ _ => trivial)); (case aO => exact (by (with_reducible repeat (first | apply Kd.R_alloc | apply Kd.R_drewN | apply Kd.R_drew)); exact HO_7.out)); (case aS => exact (below_size q2_)); (case aL => have := LMc15.out; omega); intro v327 w16 ho hb hg hat; rw [← Ny326.out] at ho; have HO328 := Aside0.mk (ho); replace HB := Aside0.mk (hb); clear HO_7; clear ho hb hg hat))
     go_roundg k2
     case measure => have := HJ2.out; have := HK2.out; omega
     case rel => exact ⟨(y326), (wrap64 (x8_2 + 4)), q17_, H', ⟨by have := HJ2.out; have := HK2.out; omega⟩, ⟨by (with_reducible repeat (first | apply Kd.R_alloc | apply Kd.R_drewN | apply Kd.R_drew)); exact HO328.out⟩, ⟨by repeat (first | (with_reducible first | exact HB.out | apply below_alloc | apply pw_below_drewN | apply below_drew1) | exact HB.out)⟩⟩
end Go.Proofs.Ytjadcjkjpkkmkaa.PAll
