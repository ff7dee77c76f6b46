import Derived.Test.YtjadcjkjpkkmkaaShU6
namespace Go.Proofs.Ytjadcjkjpkkmkaa.PAll
open Go.RowKit Go.Proofs.YtjadcjkjpkkmkaaW.PrintWords Go.Proofs.YtjadcjkjpkkmkaaW.PrintLast Go.Proofs.YtjadcjkjpkkmkaaW.PrintMore
attribute [local go_sem] max2_int min2_int max_two min_two max_three min_three max_four min_four
set_option linter.unusedVariables false
set_option linter.unusedSimpArgs false
def skifflaw20_Uploads.j0 : Nat → Bool → Int → Int → Int → Int → Int → List (S87) → Int → Int → Int → Int → Int → List (S87) → Int → Int → Int → Int → Int → List (S87) → Option (Bool)
 | 0, _, _, _, _, _, _, _, _, _, _, _, _, _, _, _, _, _, _, _ => none
 | k + 1, x50, x474000, x474001, x474002, x474003, x474004, x474005, x483000, x483001, x483002, x483003, x483004, x483005, x494000, x494001, x494002, x494003, x494004, x494005 => if x50 = true then (none) else ((skifflaw0_SpoilDevice.f k x494000 x494001 x494002 x494003 x494004 x494005).bind fun t507 => ((skifflaw0_SameDevice.f k x483000 x483001 x483002 x483003 x483004 x483005 x474000 x474001 x474002 x474003 x474004 x474005).bind fun t508 => (if t508 = true then ((skifflaw20_awake.f k).bind fun t509 => (some t509)) else (none))))
def skifflaw20_Uploads.f (k : Nat) (a0 : ByteArray) (a1_0 : Int) (a1_1 : Int) (a1_2 : Int) (a1_3 : Int) (a1_4 : Int) (l1_5 : List (S87)) (a2 : Int) (a3 : Int) : Option (Bool) := (skifflaw0_CopyDevice.f a1_0 a1_1 a1_2 a1_3 a1_4 l1_5).bind fun bt474 => ((upload_Give.f k a0 bt474.1 bt474.2.1 bt474.2.2.1 bt474.2.2.2.1 bt474.2.2.2.2.1 bt474.2.2.2.2.2 a2 a3).bind fun bt483 => ((skiffref16_Upload.f k a0 a1_0 a1_1 a1_2 a1_3 a1_4 l1_5 a2 a3).bind fun bt494 => ((skifflaw0_SameDevice.f k bt483.1 bt483.2.1 bt483.2.2.1 bt483.2.2.2.1 bt483.2.2.2.2.1 bt483.2.2.2.2.2.1 bt494.1 bt494.2.1 bt494.2.2.1 bt494.2.2.2.1 bt494.2.2.2.2.1 bt494.2.2.2.2.2.1).bind fun t505 => (if t505 = true then (if bt483.2.2.2.2.2.2.1.toList = bt494.2.2.2.2.2.2.1.toList then ((skifflaw0_Num.f bt483.2.2.2.2.2.2.2).bind fun t506 => (skifflaw20_Uploads.j0 k (t506 != bt494.2.2.2.2.2.2.2) a1_0 a1_1 a1_2 a1_3 a1_4 l1_5 bt474.1 bt474.2.1 bt474.2.2.1 bt474.2.2.2.1 bt474.2.2.2.2.1 bt474.2.2.2.2.2 bt483.1 bt483.2.1 bt483.2.2.1 bt483.2.2.2.1 bt483.2.2.2.2.1 bt483.2.2.2.2.2.1)) else (skifflaw20_Uploads.j0 k true a1_0 a1_1 a1_2 a1_3 a1_4 l1_5 bt474.1 bt474.2.1 bt474.2.2.1 bt474.2.2.2.1 bt474.2.2.2.2.1 bt474.2.2.2.2.2 bt483.1 bt483.2.1 bt483.2.2.1 bt483.2.2.2.1 bt483.2.2.2.2.1 bt483.2.2.2.2.2.1)) else (skifflaw20_Uploads.j0 k true a1_0 a1_1 a1_2 a1_3 a1_4 l1_5 bt474.1 bt474.2.1 bt474.2.2.1 bt474.2.2.2.1 bt474.2.2.2.2.1 bt474.2.2.2.2.2 bt483.1 bt483.2.1 bt483.2.2.1 bt483.2.2.2.1 bt483.2.2.2.2.1 bt483.2.2.2.2.2.1)))))
theorem skifflaw20_Uploads.no (k : Nat) (y0 : Int) (y1 : Int) (y2 : Int) (y3 : Int) (y4 : Int) (y5 : List (S87)) (y6 : Int) (y7 : Int) (y8 : Int) (y9 : Int) (y10 : Int) (y11 : List (S87)) (y12 : Int) (y13 : Int) (y14 : Int) (y15 : Int) (y16 : Int) (y17 : List (S87)) : skifflaw20_Uploads.j0 k true y0 y1 y2 y3 y4 y5 y6 y7 y8 y9 y10 y11 y12 y13 y14 y15 y16 y17 = none := by
 cases k with
 | zero => rfl
 | succ k => rw [skifflaw20_Uploads.j0, if_pos rfl]
set_option maxHeartbeats 8000000 in
set_option maxRecDepth 100000 in
theorem skifflaw20_Uploads.calls (k : Nat) (a0 : ByteArray) (a1_0 : Int) (a1_1 : Int) (a1_2 : Int) (a1_3 : Int) (a1_4 : Int) (A1_5 : Option Addr) (c1_5 : Nat) (l1_5 : List (S87)) (a2 : Int) (a3 : Int) (r : Bool) (w : World) (hr1_5 : Kd.C k87 w A1_5 l1_5.length l1_5) (hc1_5 : l1_5.length ≤ c1_5) (h : skifflaw20_Uploads.f k a0 a1_0 a1_1 a1_2 a1_3 a1_4 l1_5 a2 a3 = some r) :
  Calls Try.prog 8 #[.string a0, .agg #[.int .i64 a1_0, .int .i64 a1_1, .int .i64 a1_2, .int .i64 a1_3, .int .i64 a1_4, .slice A1_5 l1_5.length c1_5], .int .i64 a2, .int .i64 a3] w fun e w' => e = .returned (.bool r) ∧ Below w.heap.size w w' := by
 have hu56 := Try.underlying56
 have HR1_5 := Aside0.mk hr1_5
 have HC1_5 := Aside0.mk hc1_5
 clear hr1_5 hc1_5
 have HB := Aside0.mk (Below.refl w.heap.size w)
 have H : ((skifflaw0_CopyDevice.f a1_0 a1_1 a1_2 a1_3 a1_4 l1_5).bind fun bt474 => ((upload_Give.f k a0 bt474.1 bt474.2.1 bt474.2.2.1 bt474.2.2.2.1 bt474.2.2.2.2.1 bt474.2.2.2.2.2 a2 a3).bind fun bt483 => ((skiffref16_Upload.f k a0 a1_0 a1_1 a1_2 a1_3 a1_4 l1_5 a2 a3).bind fun bt494 => ((skifflaw0_SameDevice.f k bt483.1 bt483.2.1 bt483.2.2.1 bt483.2.2.2.1 bt483.2.2.2.2.1 bt483.2.2.2.2.2.1 bt494.1 bt494.2.1 bt494.2.2.1 bt494.2.2.2.1 bt494.2.2.2.2.1 bt494.2.2.2.2.2.1).bind fun t505 => (if t505 = true then (if bt483.2.2.2.2.2.2.1.toList = bt494.2.2.2.2.2.2.1.toList then ((skifflaw0_Num.f bt483.2.2.2.2.2.2.2).bind fun t506 => (skifflaw20_Uploads.j0 k (t506 != bt494.2.2.2.2.2.2.2) a1_0 a1_1 a1_2 a1_3 a1_4 l1_5 bt474.1 bt474.2.1 bt474.2.2.1 bt474.2.2.2.1 bt474.2.2.2.2.1 bt474.2.2.2.2.2 bt483.1 bt483.2.1 bt483.2.2.1 bt483.2.2.2.1 bt483.2.2.2.2.1 bt483.2.2.2.2.2.1)) else (skifflaw20_Uploads.j0 k true a1_0 a1_1 a1_2 a1_3 a1_4 l1_5 bt474.1 bt474.2.1 bt474.2.2.1 bt474.2.2.2.1 bt474.2.2.2.2.1 bt474.2.2.2.2.2 bt483.1 bt483.2.1 bt483.2.2.1 bt483.2.2.2.1 bt483.2.2.2.2.1 bt483.2.2.2.2.2.1)) else (skifflaw20_Uploads.j0 k true a1_0 a1_1 a1_2 a1_3 a1_4 l1_5 bt474.1 bt474.2.1 bt474.2.2.1 bt474.2.2.2.1 bt474.2.2.2.2.1 bt474.2.2.2.2.2 bt483.1 bt483.2.1 bt483.2.2.1 bt483.2.2.2.1 bt483.2.2.2.2.1 bt483.2.2.2.2.2.1)))))) = some r := h
 clear h
 replace H := Option.bind_eq_some_iff.mp H
 obtain ⟨⟨t474, t475, t476, t477, t478, t479⟩, A50, H⟩ := H
 (try dsimp only at H)
 have A5 := Aside0.mk A50
 clear A50
 replace H := Option.bind_eq_some_iff.mp H
 obtain ⟨⟨t483, t484, t485, t486, t487, t488, t491, t492⟩, A60, H⟩ := H
 (try dsimp only at H)
 have A6 := Aside0.mk A60
 clear A60
 replace H := Option.bind_eq_some_iff.mp H
 obtain ⟨⟨t494, t495, t496, t497, t498, t499, t502, t503⟩, A70, H⟩ := H
 (try dsimp only at H)
 have A7 := Aside0.mk A70
 clear A70
 have HC8 := Aside0.mk H
 clear H
 go_enter Try.func8, Try.ntmps8
 go_upto_region 4 with (first | ((with_reducible refine gate_dst (N := 5) rfl ?_); refine box_event ?hg (N := 5) ?hd (cs := #[.int .i64 a1_0, .int .i64 a1_1, .int .i64 a1_2, .int .i64 a1_3, .int .i64 a1_4, .slice A1_5 l1_5.length c1_5]) (t := 56) ?hr ?_; (case hd => rfl); (case hg => rfl); (case hr => first | (go_simp; done) | (go_simp; rfl)); intro gb473 hg w9 hbox hb; have BK473 := Aside0.mk (hbox); have GW473 := Aside0.mk ((by rw [hg]; exact (below_size q2_) : w.heap.size ≤ gb473)); have GE473 := Aside0.mk ((by rw [hg]; exact (below_size q2_) : w.heap.size ≤ gb473)); replace HB := Aside0.mk (below_step q2_ hb); clear hb hbox hg; obtain ⟨hcz10_0, hcz10_1, hcz10_2, hcz10_3, hcz10_4, hcz10_5, hfz10_0, hfz10_1, hfz10_2, hfz10_3, hfz10_4, hfz10_5⟩ := cells6_ BK473.out) | ((with_reducible refine gate_callee (f := 23) rfl ?_); refine goesL_ (some 17) rfl rfl Try.func23 (by kernel_rfl) rfl #[.agg #[.int .i64 a1_0, .int .i64 a1_1, .int .i64 a1_2, .int .i64 a1_3, .int .i64 a1_4, .slice A1_5 l1_5.length c1_5]] rfl q1_ ?_; (with_reducible refine (skifflaw0_CopyDevice.calls a1_0 a1_1 a1_2 a1_3 a1_4 _ _ l1_5 t474 t475 t476 t477 t478 t479 _ ?side1 ?side2 A5.out).mono ?_); (case side1 => repeat (first | exact (Kd.C_below HR1_5.out HB.out) | (with_reducible refine Kd.C_alloc ?_ _) | (with_reducible refine Kd.C_drewN ?_ _) | (with_reducible refine Kd.C_drew ?_))); (case side2 => exact HC1_5.out); rintro e w11 ⟨v480, rfl, ho0, hb⟩; refine ⟨_, rfl, ?_⟩; have HO481 := Aside0.mk (Kd.R_lower ho0 (below_size q87_)); replace BK473 := Aside0.mk (blk_below (g := gb473) q38_ hb); replace HB := Aside0.mk (below_step q87_ hb); (try clear hb); (try clear hb2); (try clear hk); (try clear hi); (try clear ho0)) | ((with_reducible refine gate_dst (N := 9) rfl ?_); refine box_event ?hg (N := 9) ?hd (cs := #[.int .i64 0, .int .i64 0, .int .i64 0, .int .i64 0, .int .i64 0, .slice none 0 0]) (t := 56) ?hr ?_; (case hd => rfl); (case hg => rfl); (case hr => first | (go_simp; done) | (go_simp; rfl)); intro gb482 hg w12 hbox hb; have BK482 := Aside0.mk (hbox); have GW482 := Aside0.mk ((by rw [hg]; exact (below_size q87_) : w.heap.size ≤ gb482)); have GE482 := Aside0.mk ((by rw [hg]; exact (below_size q87_) : w.heap.size ≤ gb482)); have NB473_482 := Aside0.mk (nl_ (g := gb473) hg q38_); have NB482_473 := Aside0.mk (ng_ (g := gb473) hg q38_); replace HO481 := Aside0.mk (Kd.R_below (by (with_reducible repeat (first | apply Kd.R_alloc | apply Kd.R_drewN | apply Kd.R_drew)); exact HO481.out) hb); replace BK473 := Aside0.mk (blk_below (g := gb473) q38_ hb); replace HB := Aside0.mk (below_step q87_ hb); clear hb hbox hg; have hnb13 := NB482_473.out; have hnc13 := NB473_482.out; obtain ⟨hcz14_0, hcz14_1, hcz14_2, hcz14_3, hcz14_4, hcz14_5, hfz14_0, hfz14_1, hfz14_2, hfz14_3, hfz14_4, hfz14_5⟩ := cells6_ BK482.out; obtain ⟨Ao15, co15, eo15⟩ := Kd.R_slice HO481.out; subst eo15) | ((with_reducible refine gate_callee (f := 24) rfl ?_); refine goesL_ (some 23) rfl rfl Try.func24 (by kernel_rfl) rfl #[.string a0, .agg #[.int .i64 t474, .int .i64 t475, .int .i64 t476, .int .i64 t477, .int .i64 t478, .slice Ao15 t479.length co15], .int .i64 a2, .int .i64 a3] rfl q1_ ?_; (with_reducible refine (upload_Give.calls k a0 t474 t475 t476 t477 t478 _ _ t479 a2 a3 t483 t484 t485 t486 t487 t488 t491 t492 _ ?side1 ?side2 A6.out).mono ?_); (case side1 => refine (Kd.R_reads' (e := 87) (base := w.heap.size) (ok := fun k_ => True) (n := t479.length) (c := co15) ?_).2.2; exact q63_); (case side2 => exact (Kd.R_reads' HO481.out).2.1); rintro e w16 ⟨v489, rfl, ho0, hb⟩; refine ⟨_, rfl, ?_⟩; have HO490 := Aside0.mk (Kd.R_lower (Kd.R_new' ho0 (Kd.R_lt q63_)) (below_size q81_)); replace HO481 := Aside0.mk (Kd.R_elder' q63_ (Kd.R_base ho0) hb); replace BK473 := Aside0.mk (blk_below (g := gb473) (o := .cells #[.int .i64 a1_0, .int .i64 a1_1, .int .i64 a1_2, .int .i64 a1_3, .int .i64 a1_4, .slice A1_5 l1_5.length c1_5] 56 (0, 0)) (by (with_reducible repeat (first | refine blk_drewN ?_ _ | refine blk_drew ?_ | refine blk_alloc ?_ _)); (iterate 6 (refine blk_far ?_ NB473_482.out _; (with_reducible repeat (first | refine blk_drewN ?_ _ | refine blk_drew ?_ | refine blk_alloc ?_ _)))); exact BK473.out) hb); replace BK482 := Aside0.mk (blk_below (g := gb482) (o := .cells #[.int .i64 t474, .int .i64 t475, .int .i64 t476, .int .i64 t477, .int .i64 t478, .slice Ao15 t479.length co15] 56 (0, 0)) (by (with_reducible repeat (first | refine blk_drewN ?_ _ | refine blk_drew ?_ | refine blk_alloc ?_ _)); refine put6_ (cs := #[.int .i64 0, .int .i64 0, .int .i64 0, .int .i64 0, .int .i64 0, .slice none 0 0]) ?_ rfl; (with_reducible repeat (first | refine blk_drewN ?_ _ | refine blk_drew ?_ | refine blk_alloc ?_ _)); exact BK482.out) hb); replace HB := Aside0.mk (below_step q81_ hb); (try clear hb); (try clear hb2); (try clear hk); (try clear hi); (try clear ho0)) | ((with_reducible refine gate_dst (N := 10) rfl ?_); refine box_event ?hg (N := 10) ?hd (cs := #[.int .i64 0, .int .i64 0, .int .i64 0, .int .i64 0, .int .i64 0, .slice none 0 0]) (t := 56) ?hr ?_; (case hd => rfl); (case hg => rfl); (case hr => first | (go_simp; done) | (go_simp; rfl)); intro gb493 hg w17 hbox hb; have BK493 := Aside0.mk (hbox); have GW493 := Aside0.mk ((by rw [hg]; exact (below_size q81_) : w.heap.size ≤ gb493)); have GE493 := Aside0.mk ((by rw [hg]; exact (below_size q81_) : w.heap.size ≤ gb493)); have NB473_493 := Aside0.mk (nl_ (g := gb473) hg q38_); have NB493_473 := Aside0.mk (ng_ (g := gb473) hg q38_); have NB482_493 := Aside0.mk (nl_ (g := gb482) hg q73_); have NB493_482 := Aside0.mk (ng_ (g := gb482) hg q73_); replace HO481 := Aside0.mk (Kd.R_below (by (with_reducible repeat (first | apply Kd.R_alloc | apply Kd.R_drewN | apply Kd.R_drew)); exact HO481.out) hb); replace HO490 := Aside0.mk (Kd.R_below (by (with_reducible repeat (first | apply Kd.R_alloc | apply Kd.R_drewN | apply Kd.R_drew)); exact HO490.out) hb); replace BK473 := Aside0.mk (blk_below (g := gb473) q38_ hb); replace BK482 := Aside0.mk (blk_below (g := gb482) q73_ hb); replace HB := Aside0.mk (below_step q81_ hb); clear hb hbox hg; have hnb18 := NB493_473.out; have hnc18 := NB473_493.out; have hnb19 := NB493_482.out; have hnc19 := NB482_493.out; obtain ⟨hcz20_0, hcz20_1, hcz20_2, hcz20_3, hcz20_4, hcz20_5, hfz20_0, hfz20_1, hfz20_2, hfz20_3, hfz20_4, hfz20_5⟩ := cells6_ BK493.out; obtain ⟨Ao21, co21, eo21⟩ := Kd.R_slice HO490.out; subst eo21; obtain ⟨hcz22_0, hcz22_1, hcz22_2, hcz22_3, hcz22_4, hcz22_5, hfz22_0, hfz22_1, hfz22_2, hfz22_3, hfz22_4, hfz22_5⟩ := cells6_ BK473.out) | ((with_reducible refine gate_callee (f := 25) rfl ?_); refine goesL_ (some 32) rfl rfl Try.func25 (by kernel_rfl) rfl #[.string a0, .agg #[.int .i64 a1_0, .int .i64 a1_1, .int .i64 a1_2, .int .i64 a1_3, .int .i64 a1_4, .slice A1_5 l1_5.length c1_5], .int .i64 a2, .int .i64 a3] rfl q1_ ?_; (with_reducible refine (skiffref16_Upload.calls k a0 a1_0 a1_1 a1_2 a1_3 a1_4 _ _ l1_5 a2 a3 t494 t495 t496 t497 t498 t499 t502 t503 _ ?side1 ?side2 A7.out).mono ?_); (case side1 => exact Kd.C_below HR1_5.out q67_); (case side2 => exact HC1_5.out); rintro e w23 ⟨v500, rfl, ho0, hb⟩; refine ⟨_, rfl, ?_⟩; have HO501 := Aside0.mk (Kd.R_lower (Kd.R_new' (Kd.R_new' ho0 (Kd.R_lt q92_)) (Kd.R_lt q91_)) (below_size q67_)); replace HO481 := Aside0.mk (Kd.R_elder' q92_ (Kd.R_base ho0) hb); replace HO490 := Aside0.mk (Kd.R_elder' q91_ (Kd.R_base ho0) hb); replace BK473 := Aside0.mk (blk_below (g := gb473) (o := .cells #[.int .i64 a1_0, .int .i64 a1_1, .int .i64 a1_2, .int .i64 a1_3, .int .i64 a1_4, .slice A1_5 l1_5.length c1_5] 56 (0, 0)) (by (with_reducible repeat (first | refine blk_drewN ?_ _ | refine blk_drew ?_ | refine blk_alloc ?_ _)); (iterate 6 (refine blk_far ?_ NB473_493.out _; (with_reducible repeat (first | refine blk_drewN ?_ _ | refine blk_drew ?_ | refine blk_alloc ?_ _)))); exact BK473.out) hb); replace BK482 := Aside0.mk (blk_below (g := gb482) (o := .cells #[.int .i64 t474, .int .i64 t475, .int .i64 t476, .int .i64 t477, .int .i64 t478, .slice Ao15 t479.length co15] 56 (0, 0)) (by (with_reducible repeat (first | refine blk_drewN ?_ _ | refine blk_drew ?_ | refine blk_alloc ?_ _)); (iterate 6 (refine blk_far ?_ NB482_493.out _; (with_reducible repeat (first | refine blk_drewN ?_ _ | refine blk_drew ?_ | refine blk_alloc ?_ _)))); exact BK482.out) hb); replace BK493 := Aside0.mk (blk_below (g := gb493) (o := .cells #[.int .i64 t483, .int .i64 t484, .int .i64 t485, .int .i64 t486, .int .i64 t487, .slice Ao21 t488.length co21] 56 (0, 0)) (by (with_reducible repeat (first | refine blk_drewN ?_ _ | refine blk_drew ?_ | refine blk_alloc ?_ _)); refine put6_ (cs := #[.int .i64 0, .int .i64 0, .int .i64 0, .int .i64 0, .int .i64 0, .slice none 0 0]) ?_ rfl; (with_reducible repeat (first | refine blk_drewN ?_ _ | refine blk_drew ?_ | refine blk_alloc ?_ _)); exact BK493.out) hb); replace HB := Aside0.mk (below_step q67_ hb); (try clear hb); (try clear hb2); (try clear hk); (try clear hi); (try clear ho0)) | ((with_reducible refine gate_dst (N := 13) rfl ?_); refine box_event ?hg (N := 13) ?hd (cs := #[.int .i64 0, .int .i64 0, .int .i64 0, .int .i64 0, .int .i64 0, .slice none 0 0]) (t := 56) ?hr ?_; (case hd => rfl); (case hg => rfl); (case hr => first | (go_simp; done) | (go_simp; rfl)); intro gb504 hg w24 hbox hb; have BK504 := Aside0.mk (hbox); have GW504 := Aside0.mk ((by rw [hg]; exact (below_size q67_) : w.heap.size ≤ gb504)); have GE504 := Aside0.mk ((by rw [hg]; exact (below_size q67_) : w.heap.size ≤ gb504)); have NB473_504 := Aside0.mk (nl_ (g := gb473) hg q38_); have NB504_473 := Aside0.mk (ng_ (g := gb473) hg q38_); have NB482_504 := Aside0.mk (nl_ (g := gb482) hg q73_); have NB504_482 := Aside0.mk (ng_ (g := gb482) hg q73_); have NB493_504 := Aside0.mk (nl_ (g := gb493) hg q100_); have NB504_493 := Aside0.mk (ng_ (g := gb493) hg q100_); replace HO481 := Aside0.mk (Kd.R_below (by (with_reducible repeat (first | apply Kd.R_alloc | apply Kd.R_drewN | apply Kd.R_drew)); exact HO481.out) hb); replace HO490 := Aside0.mk (Kd.R_below (by (with_reducible repeat (first | apply Kd.R_alloc | apply Kd.R_drewN | apply Kd.R_drew)); exact HO490.out) hb); replace HO501 := Aside0.mk (Kd.R_below (by (with_reducible repeat (first | apply Kd.R_alloc | apply Kd.R_drewN | apply Kd.R_drew)); exact HO501.out) hb); replace BK473 := Aside0.mk (blk_below (g := gb473) q38_ hb); replace BK482 := Aside0.mk (blk_below (g := gb482) q73_ hb); replace BK493 := Aside0.mk (blk_below (g := gb493) q100_ hb); replace HB := Aside0.mk (below_step q67_ hb); clear hb hbox hg; have hnb25 := NB504_473.out; have hnc25 := NB473_504.out; have hnb26 := NB504_482.out; have hnc26 := NB482_504.out; have hnb27 := NB504_493.out; have hnc27 := NB493_504.out; obtain ⟨hcz28_0, hcz28_1, hcz28_2, hcz28_3, hcz28_4, hcz28_5, hfz28_0, hfz28_1, hfz28_2, hfz28_3, hfz28_4, hfz28_5⟩ := cells6_ BK504.out; obtain ⟨Ao29, co29, eo29⟩ := Kd.R_slice HO501.out; subst eo29))
 (try simp only [Act.put, sl1_, sl2_, sl3_])
 go_cut [50] (fun v50 wc => ∃ (kq : Nat) (x50_7 : Bool), v50 = .bool x50_7 ∧ Aside0 (skifflaw20_Uploads.j0 kq x50_7 a1_0 a1_1 a1_2 a1_3 a1_4 l1_5 t474 t475 t476 t477 t478 t479 t483 t484 t485 t486 t487 t488 = some r) ∧ Aside0 (kq ≤ k) ∧ Aside0 (Kd.R k87 87 wc w.heap.size (fun k_ => some k_ ≠ ((.slice Ao21 t488.length co21) : Value).ownBlock ∧ some k_ ≠ ((.slice Ao29 t499.length co29) : Value).ownBlock) (.slice Ao15 t479.length co15) t479) ∧ Aside0 (Kd.R k87 87 wc w.heap.size (fun k_ => some k_ ≠ ((.slice Ao15 t479.length co15) : Value).ownBlock ∧ some k_ ≠ ((.slice Ao29 t499.length co29) : Value).ownBlock) (.slice Ao21 t488.length co21) t488) ∧ Aside0 (Kd.R k87 87 wc w.heap.size (fun k_ => some k_ ≠ ((.slice Ao15 t479.length co15) : Value).ownBlock ∧ some k_ ≠ ((.slice Ao21 t488.length co21) : Value).ownBlock) (.slice Ao29 t499.length co29) t499) ∧ Aside0 (wc.heap[gb473]? = some (.cells #[.int .i64 a1_0, .int .i64 a1_1, .int .i64 a1_2, .int .i64 a1_3, .int .i64 a1_4, (.slice A1_5 l1_5.length c1_5)] 56 (0, 0))) ∧ Aside0 (wc.heap[gb482]? = some (.cells #[.int .i64 t474, .int .i64 t475, .int .i64 t476, .int .i64 t477, .int .i64 t478, (.slice Ao15 t479.length co15)] 56 (0, 0))) ∧ Aside0 (wc.heap[gb493]? = some (.cells #[.int .i64 t483, .int .i64 t484, .int .i64 t485, .int .i64 t486, .int .i64 t487, (.slice Ao21 t488.length co21)] 56 (0, 0))) ∧ Aside0 (wc.heap[gb504]? = some (.cells #[.int .i64 t494, .int .i64 t495, .int .i64 t496, .int .i64 t497, .int .i64 t498, (.slice Ao29 t499.length co29)] 56 (0, 0))) ∧ Aside0 (Below w.heap.size w wc))
 case first =>
  have H := HC8.out
  clear HC8
  replace H := Option.bind_eq_some_iff.mp H
  obtain ⟨t505, A300, H⟩ := H
  (try dsimp only at H)
  have A30 := Aside0.mk A300
  clear A300
  by_cases c31 : t505 = true
  rotate_left
  ·replace c31 := Bool.eq_false_iff.mpr c31
   subst c31
   have H1 : (skifflaw20_Uploads.j0 k true a1_0 a1_1 a1_2 a1_3 a1_4 l1_5 t474 t475 t476 t477 t478 t479 t483 t484 t485 t486 t487 t488) = some r := by rw [if_neg (show ¬ (false = true) by decide)] at H; exact H
   clear H
   have H := H1
   clear H1
   exact absurd H (by rw [skifflaw20_Uploads.no]; simp)
  subst c31
  have H1 : (if t491.toList = t502.toList then ((skifflaw0_Num.f t492).bind fun t506 => (skifflaw20_Uploads.j0 k (t506 != t503) a1_0 a1_1 a1_2 a1_3 a1_4 l1_5 t474 t475 t476 t477 t478 t479 t483 t484 t485 t486 t487 t488)) else (skifflaw20_Uploads.j0 k true a1_0 a1_1 a1_2 a1_3 a1_4 l1_5 t474 t475 t476 t477 t478 t479 t483 t484 t485 t486 t487 t488)) = some r := by rw [if_pos rfl] at H; exact H
  clear H
  have H := H1
  clear H1
  by_cases c32 : t491.toList = t502.toList
  rotate_left
  ·rw [if_neg c32] at H
   have c32b0 : (t491.toList == t502.toList) = false := beq_eq_false_iff_ne.mpr c32
   have c32b1 : (t491.toList != t502.toList) = true := bne_iff_ne.mpr c32
   (first | rw [c32b0] | (simp only [i64_w, i32_w]; rw [c32b0]) | skip)
   exact absurd H (by rw [skifflaw20_Uploads.no]; simp)
  rw [if_pos c32] at H
  have c32b0 : (t491.toList == t502.toList) = true := beq_iff_eq.mpr c32
  have c32b1 : (t491.toList != t502.toList) = false := bne_eq_false_iff_eq.mpr c32
  clear c32
  (first | rw [c32b0] | (simp only [i64_w, i32_w]; rw [c32b0]) | skip)
  replace H := Option.bind_eq_some_iff.mp H
  obtain ⟨t506, A330, H⟩ := H
  (try dsimp only at H)
  have A33 := Aside0.mk A330
  clear A330
  have H' := Aside0.mk H
  clear H
  have hnb34 := NB493_473.out
  have hnc34 := NB473_493.out
  have hnb35 := NB493_482.out
  have hnc35 := NB482_493.out
  have hnb36 := NB493_504.out
  have hnc36 := NB504_493.out
  obtain ⟨hcz37_0, hcz37_1, hcz37_2, hcz37_3, hcz37_4, hcz37_5, hfz37_0, hfz37_1, hfz37_2, hfz37_3, hfz37_4, hfz37_5⟩ := cells6_ BK493.out
  have hnb38 := NB504_473.out
  have hnc38 := NB473_504.out
  have hnb39 := NB504_482.out
  have hnc39 := NB482_504.out
  obtain ⟨hcz40_0, hcz40_1, hcz40_2, hcz40_3, hcz40_4, hcz40_5, hfz40_0, hfz40_1, hfz40_2, hfz40_3, hfz40_4, hfz40_5⟩ := cells6_ BK504.out
  go_wp2_with (first | ((with_reducible refine gate_callee (f := 26) rfl ?_); refine goesL_ (some 38) rfl rfl Try.func26 (by kernel_rfl) rfl #[.agg #[.int .i64 t483, .int .i64 t484, .int .i64 t485, .int .i64 t486, .int .i64 t487, .slice Ao21 t488.length co21], .agg #[.int .i64 t494, .int .i64 t495, .int .i64 t496, .int .i64 t497, .int .i64 t498, .slice Ao29 t499.length co29]] rfl q1_ ?_; (with_reducible refine (skifflaw0_SameDevice.calls k t483 t484 t485 t486 t487 _ _ t488 t494 t495 t496 t497 t498 _ _ t499 true _ ?side1 ?side2 ?side3 ?side4 A30.out).mono ?_); (case side1 => refine (Kd.R_reads' (e := 87) (base := w.heap.size) (ok := fun k_ => ((True ∧ some k_ ≠ (.slice Ao15 t479.length co15 : Value).ownBlock) ∧ some k_ ≠ (.slice Ao29 t499.length co29 : Value).ownBlock)) (n := t488.length) (c := co21) ?_).2.2; exact q90_); (case side2 => exact (Kd.R_reads' HO490.out).2.1); (case side3 => refine (Kd.R_reads' (e := 87) (base := w.heap.size) (ok := fun k_ => ((True ∧ some k_ ≠ (.slice Ao15 t479.length co15 : Value).ownBlock) ∧ some k_ ≠ (.slice Ao21 t488.length co21 : Value).ownBlock)) (n := t499.length) (c := co29) ?_).2.2; exact q89_); (case side4 => exact (Kd.R_reads' HO501.out).2.1); rintro e w41 ⟨rfl, hb⟩; refine ⟨_, rfl, ?_⟩; replace HO481 := Aside0.mk (Kd.R_below (by (with_reducible repeat (first | apply Kd.R_alloc | apply Kd.R_drewN | apply Kd.R_drew)); exact (Kd.R_mono (Kd.R_far (p := ⟨gb504, 5, none⟩) (Kd.R_far (p := ⟨gb504, 4, none⟩) (Kd.R_far (p := ⟨gb504, 3, none⟩) (Kd.R_far (p := ⟨gb504, 2, none⟩) (Kd.R_far (p := ⟨gb504, 1, none⟩) (Kd.R_far (p := ⟨gb504, 0, none⟩) (Kd.R_types HO481.out BK504.out (by decide)) (fun _ hk => hk.2) (.int .i64 t494)) (fun _ hk => hk.2) (.int .i64 t495)) (fun _ hk => hk.2) (.int .i64 t496)) (fun _ hk => hk.2) (.int .i64 t497)) (fun _ hk => hk.2) (.int .i64 t498)) (fun _ hk => hk.2) (.slice Ao29 t499.length co29)) (fun _ h_ => h_.1))) hb); replace HO490 := Aside0.mk (Kd.R_below q90_ hb); replace HO501 := Aside0.mk (Kd.R_below q89_ hb); replace BK473 := Aside0.mk (blk_below (g := gb473) (o := .cells #[.int .i64 a1_0, .int .i64 a1_1, .int .i64 a1_2, .int .i64 a1_3, .int .i64 a1_4, .slice A1_5 l1_5.length c1_5] 56 (0, 0)) (by (with_reducible repeat (first | refine blk_drewN ?_ _ | refine blk_drew ?_ | refine blk_alloc ?_ _)); (iterate 6 (refine blk_far ?_ NB473_504.out _; (with_reducible repeat (first | refine blk_drewN ?_ _ | refine blk_drew ?_ | refine blk_alloc ?_ _)))); exact BK473.out) hb); replace BK482 := Aside0.mk (blk_below (g := gb482) (o := .cells #[.int .i64 t474, .int .i64 t475, .int .i64 t476, .int .i64 t477, .int .i64 t478, .slice Ao15 t479.length co15] 56 (0, 0)) (by (with_reducible repeat (first | refine blk_drewN ?_ _ | refine blk_drew ?_ | refine blk_alloc ?_ _)); (iterate 6 (refine blk_far ?_ NB482_504.out _; (with_reducible repeat (first | refine blk_drewN ?_ _ | refine blk_drew ?_ | refine blk_alloc ?_ _)))); exact BK482.out) hb); replace BK493 := Aside0.mk (blk_below (g := gb493) (o := .cells #[.int .i64 t483, .int .i64 t484, .int .i64 t485, .int .i64 t486, .int .i64 t487, .slice Ao21 t488.length co21] 56 (0, 0)) (by (with_reducible repeat (first | refine blk_drewN ?_ _ | refine blk_drew ?_ | refine blk_alloc ?_ _)); (iterate 6 (refine blk_far ?_ NB493_504.out _; (with_reducible repeat (first | refine blk_drewN ?_ _ | refine blk_drew ?_ | refine blk_alloc ?_ _)))); exact BK493.out) hb); replace BK504 := Aside0.mk (blk_below (g := gb504) (o := .cells #[.int .i64 t494, .int .i64 t495, .int .i64 t496, .int .i64 t497, .int .i64 t498, .slice Ao29 t499.length co29] 56 (0, 0)) (by (with_reducible repeat (first | refine blk_drewN ?_ _ | refine blk_drew ?_ | refine blk_alloc ?_ _)); refine put6_ (cs := #[.int .i64 0, .int .i64 0, .int .i64 0, .int .i64 0, .int .i64 0, .slice none 0 0]) ?_ rfl; (with_reducible repeat (first | refine blk_drewN ?_ _ | refine blk_drew ?_ | refine blk_alloc ?_ _)); exact BK504.out) hb); replace HB := Aside0.mk (below_step q105_ hb); (try clear hb); (try clear hb2); (try clear hk); (try clear hi)) | (go_at_call 13; (with_reducible refine (skifflaw0_Num.calls t492 t506 _ A33.out).mono ?_); rintro e w' ⟨rfl, ⟨nd, rfl⟩⟩))
  go_meet
  case rel => exact ⟨_, ((t506 != t503)), q17_, H', ⟨by first | omega | exact Nat.le_refl _⟩, ⟨by (with_reducible repeat (first | apply Kd.R_alloc | apply Kd.R_drewN | apply Kd.R_drew)); exact Kd.R_mono HO481.out (fun _ hk => ⟨hk.1.2, hk.2⟩)⟩, ⟨by (with_reducible repeat (first | apply Kd.R_alloc | apply Kd.R_drewN | apply Kd.R_drew)); exact Kd.R_mono HO490.out (fun _ hk => ⟨hk.1.2, hk.2⟩)⟩, ⟨by (with_reducible repeat (first | apply Kd.R_alloc | apply Kd.R_drewN | apply Kd.R_drew)); exact Kd.R_mono HO501.out (fun _ hk => ⟨hk.1.2, hk.2⟩)⟩, ⟨by (with_reducible repeat (first | refine blk_drewN ?_ _ | refine blk_drew ?_ | refine blk_alloc ?_ _)); exact BK473.out⟩, ⟨by (with_reducible repeat (first | refine blk_drewN ?_ _ | refine blk_drew ?_ | refine blk_alloc ?_ _)); exact BK482.out⟩, ⟨by (with_reducible repeat (first | refine blk_drewN ?_ _ | refine blk_drew ?_ | refine blk_alloc ?_ _)); exact BK493.out⟩, ⟨by (with_reducible repeat (first | refine blk_drewN ?_ _ | refine blk_drew ?_ | refine blk_alloc ?_ _)); exact BK504.out⟩, ⟨by repeat (first | (with_reducible first | exact HB.out | apply below_alloc | apply pw_below_drewN | apply below_drew1 | refine below_set ?_ GE473.out | refine below_set ?_ GE482.out | refine below_set ?_ GE493.out | refine below_set ?_ GE504.out) | exact HB.out)⟩⟩
 case rest =>
  clear HC8
  try clear c1
  try clear c2
  try clear p2
  try clear c3
  try clear c4
  try clear c31
  try clear c32
  try clear c32b0
  try clear c32b1
  try clear hcz10_0
  try clear hcz10_1
  try clear hcz10_2
  try clear hcz10_3
  try clear hcz10_4
  try clear hcz10_5
  try clear hcz14_0
  try clear hcz14_1
  try clear hcz14_2
  try clear hcz14_3
  try clear hcz14_4
  try clear hcz14_5
  try clear hcz20_0
  try clear hcz20_1
  try clear hcz20_2
  try clear hcz20_3
  try clear hcz20_4
  try clear hcz20_5
  try clear hcz22_0
  try clear hcz22_1
  try clear hcz22_2
  try clear hcz22_3
  try clear hcz22_4
  try clear hcz22_5
  try clear hcz28_0
  try clear hcz28_1
  try clear hcz28_2
  try clear hcz28_3
  try clear hcz28_4
  try clear hcz28_5
  try clear hcz37_0
  try clear hcz37_1
  try clear hcz37_2
  try clear hcz37_3
  try clear hcz37_4
  try clear hcz37_5
  try clear hcz40_0
  try clear hcz40_1
  try clear hcz40_2
  try clear hcz40_3
  try clear hcz40_4
  try clear hcz40_5
  try clear hcz45_0
  try clear hcz45_1
  try clear hcz45_2
  try clear hcz45_3
  try clear hcz45_4
  try clear hcz45_5
  try clear hcz48_0
  try clear hcz48_1
  try clear hcz48_2
  try clear hcz48_3
  try clear hcz48_4
  try clear hcz48_5
  try clear hcz53_0
  try clear hcz53_1
  try clear hcz53_2
  try clear hcz53_3
  try clear hcz53_4
  try clear hcz53_5
  try clear hcz56_0
  try clear hcz56_1
  try clear hcz56_2
  try clear hcz56_3
  try clear hcz56_4
  try clear hcz56_5
  try clear hfz10_0
  try clear hfz10_1
  try clear hfz10_2
  try clear hfz10_3
  try clear hfz10_4
  try clear hfz10_5
  try clear hfz14_0
  try clear hfz14_1
  try clear hfz14_2
  try clear hfz14_3
  try clear hfz14_4
  try clear hfz14_5
  try clear hfz20_0
  try clear hfz20_1
  try clear hfz20_2
  try clear hfz20_3
  try clear hfz20_4
  try clear hfz20_5
  try clear hfz22_0
  try clear hfz22_1
  try clear hfz22_2
  try clear hfz22_3
  try clear hfz22_4
  try clear hfz22_5
  try clear hfz28_0
  try clear hfz28_1
  try clear hfz28_2
  try clear hfz28_3
  try clear hfz28_4
  try clear hfz28_5
  try clear hfz37_0
  try clear hfz37_1
  try clear hfz37_2
  try clear hfz37_3
  try clear hfz37_4
  try clear hfz37_5
  try clear hfz40_0
  try clear hfz40_1
  try clear hfz40_2
  try clear hfz40_3
  try clear hfz40_4
  try clear hfz40_5
  try clear hfz45_0
  try clear hfz45_1
  try clear hfz45_2
  try clear hfz45_3
  try clear hfz45_4
  try clear hfz45_5
  try clear hfz48_0
  try clear hfz48_1
  try clear hfz48_2
  try clear hfz48_3
  try clear hfz48_4
  try clear hfz48_5
  try clear hfz53_0
  try clear hfz53_1
  try clear hfz53_2
  try clear hfz53_3
  try clear hfz53_4
  try clear hfz53_5
  try clear hfz56_0
  try clear hfz56_1
  try clear hfz56_2
  try clear hfz56_3
  try clear hfz56_4
  try clear hfz56_5
  obtain ⟨kq, x50_7, rfl, HA, HJ7, HO_483005, HO_494005, HO_505005, BK473, BK482, BK493, BK504, HB⟩ := hcut
  cases kq with
  | zero => exact absurd HA.out (by simp [skifflaw20_Uploads.j0])
  | succ kj7 =>
   have H := HA.out
   clear HA
   simp only [skifflaw20_Uploads.j0] at H
   by_cases c58 : x50_7 = true
   ·subst c58
    have H1 : (none) = some r := by rw [if_pos rfl] at H; exact H
    clear H
    have H := H1
    clear H1
    exact absurd H (by simp)
   replace c58 := Bool.eq_false_iff.mpr c58
   subst c58
   have H1 : ((skifflaw0_SpoilDevice.f kj7 t483 t484 t485 t486 t487 t488).bind fun t507 => ((skifflaw0_SameDevice.f kj7 t474 t475 t476 t477 t478 t479 a1_0 a1_1 a1_2 a1_3 a1_4 l1_5).bind fun t508 => (if t508 = true then ((skifflaw20_awake.f kj7).bind fun t509 => (some t509)) else (none)))) = some r := by rw [if_neg (show ¬ (false = true) by decide)] at H; exact H
   clear H
   have H := H1
   clear H1
   replace H := Option.bind_eq_some_iff.mp H
   obtain ⟨t507, A590, H⟩ := H
   (try dsimp only at H)
   have A59 := Aside0.mk A590
   clear A590
   replace H := Option.bind_eq_some_iff.mp H
   obtain ⟨t508, A600, H⟩ := H
   (try dsimp only at H)
   have A60 := Aside0.mk A600
   clear A600
   by_cases c61 : t508 = true
   rotate_left
   ·replace c61 := Bool.eq_false_iff.mpr c61
    subst c61
    have H1 : (none) = some r := by rw [if_neg (show ¬ (false = true) by decide)] at H; exact H
    clear H
    have H := H1
    clear H1
    exact absurd H (by simp)
   subst c61
   have H1 : ((skifflaw20_awake.f kj7).bind fun t509 => (some t509)) = some r := by rw [if_pos rfl] at H; exact H
   clear H
   have H := H1
   clear H1
   replace H := Option.bind_eq_some_iff.mp H
   obtain ⟨t509, A620, H⟩ := H
   replace H : (some t509) = some r := H
   have A62 := Aside0.mk A620
   clear A620
   obtain rfl := Option.some.inj H
   have hnb63 := NB493_473.out
   have hnc63 := NB473_493.out
   have hnb64 := NB493_482.out
   have hnc64 := NB482_493.out
   have hnb65 := NB493_504.out
   have hnc65 := NB504_493.out
   obtain ⟨hcz66_0, hcz66_1, hcz66_2, hcz66_3, hcz66_4, hcz66_5, hfz66_0, hfz66_1, hfz66_2, hfz66_3, hfz66_4, hfz66_5⟩ := cells6_ BK493.out
   go_wp2_with (first | ((with_reducible refine gate_callee (f := 27) rfl ?_); refine goesL_ (some 52) rfl rfl Try.func27 (by kernel_rfl) rfl #[.agg #[.int .i64 t483, .int .i64 t484, .int .i64 t485, .int .i64 t486, .int .i64 t487, .slice Ao21 t488.length co21]] rfl q1_ ?_; (with_reducible refine (skifflaw0_SpoilDevice.calls kj7 t483 t484 t485 t486 t487 (fun k_ => some k_ = (.slice Ao21 t488.length co21 : Value).ownBlock) (.slice Ao21 t488.length co21) t488 t507 w _ ?side1 ?side2 A59.out).mono ?_); (case side1 => repeat (first | (with_reducible first | exact HB.out | apply below_alloc | apply pw_below_drewN | apply below_drew1 | refine below_set ?_ GE473.out | refine below_set ?_ GE482.out | refine below_set ?_ GE493.out | refine below_set ?_ GE504.out) | exact HB.out)); (case side2 => exact Kd.R_tight rfl HO_494005.out); rintro e w67 ⟨rfl, hy0, hb, hkp⟩; refine ⟨_, rfl, ?_⟩; replace HO_483005 := Aside0.mk (Kd.R_mono (ok' := fun k_ => some k_ ≠ (.slice Ao21 t488.length co21 : Value).ownBlock ∧ some k_ ≠ (.slice Ao29 t499.length co29 : Value).ownBlock) (Kd.R_keptB (HO_483005.out) hkp (fun k_ hk_ hs_ => (hk_.1) hs_)) (fun k_ hk_ => ⟨hk_.1.1, hk_.1.2⟩)); replace HO_505005 := Aside0.mk (Kd.R_mono (ok' := fun k_ => some k_ ≠ (.slice Ao15 t479.length co15 : Value).ownBlock ∧ some k_ ≠ (.slice Ao21 t488.length co21 : Value).ownBlock) (Kd.R_keptB (HO_505005.out) hkp (fun k_ hk_ hs_ => (hk_.2) hs_)) (fun k_ hk_ => ⟨hk_.1.1, hk_.1.2⟩)); replace BK473 := Aside0.mk (blk_kept q38_ hkp (fun hs_ => (fun e_ => (Kd.R_ne HO_494005.out BK473.out (by decide)) e_) hs_)); replace BK482 := Aside0.mk (blk_kept q73_ hkp (fun hs_ => (fun e_ => (Kd.R_ne HO_494005.out BK482.out (by decide)) e_) hs_)); replace BK493 := Aside0.mk (blk_kept q100_ hkp (fun hs_ => (fun e_ => (Kd.R_ne HO_494005.out BK493.out (by decide)) e_) hs_)); replace BK504 := Aside0.mk (blk_kept (by (with_reducible repeat (first | refine blk_drewN ?_ _ | refine blk_drew ?_ | refine blk_alloc ?_ _)); exact BK504.out) hkp (fun hs_ => (fun e_ => (Kd.R_ne HO_494005.out BK504.out (by decide)) e_) hs_)); replace HO_494005 := Aside0.mk (Kd.R_reok rfl hy0 (fun k_ e_ => HO_494005.out.1 k_ e_)); replace HB := Aside0.mk (hb); (try clear hb); (try clear hkp); (try clear hy0); have hnb68 := NB482_473.out; have hnc68 := NB473_482.out; have hnb69 := NB482_504.out; have hnc69 := NB504_482.out; obtain ⟨hcz70_0, hcz70_1, hcz70_2, hcz70_3, hcz70_4, hcz70_5, hfz70_0, hfz70_1, hfz70_2, hfz70_3, hfz70_4, hfz70_5⟩ := cells6_ BK482.out; have hnb71 := NB473_504.out; have hnc71 := NB504_473.out; obtain ⟨hcz72_0, hcz72_1, hcz72_2, hcz72_3, hcz72_4, hcz72_5, hfz72_0, hfz72_1, hfz72_2, hfz72_3, hfz72_4, hfz72_5⟩ := cells6_ BK473.out) | ((with_reducible refine gate_callee (f := 26) rfl ?_); refine goesL_ (some 55) rfl rfl Try.func26 (by kernel_rfl) rfl #[.agg #[.int .i64 t474, .int .i64 t475, .int .i64 t476, .int .i64 t477, .int .i64 t478, .slice Ao15 t479.length co15], .agg #[.int .i64 a1_0, .int .i64 a1_1, .int .i64 a1_2, .int .i64 a1_3, .int .i64 a1_4, .slice A1_5 l1_5.length c1_5]] rfl q1_ ?_; (with_reducible refine (skifflaw0_SameDevice.calls kj7 t474 t475 t476 t477 t478 _ _ t479 a1_0 a1_1 a1_2 a1_3 a1_4 _ _ l1_5 true _ ?side1 ?side2 ?side3 ?side4 A60.out).mono ?_); (case side1 => repeat (first | exact (Kd.R_reads' HO_483005.out).2.2 | (with_reducible refine Kd.C_alloc ?_ _) | (with_reducible refine Kd.C_drewN ?_ _) | (with_reducible refine Kd.C_drew ?_))); (case side2 => exact (Kd.R_reads' HO_483005.out).2.1); (case side3 => repeat (first | exact (Kd.C_below HR1_5.out HB.out) | (with_reducible refine Kd.C_alloc ?_ _) | (with_reducible refine Kd.C_drewN ?_ _) | (with_reducible refine Kd.C_drew ?_))); (case side4 => exact HC1_5.out); rintro e w73 ⟨rfl, hb⟩; refine ⟨_, rfl, ?_⟩; replace HO_483005 := Aside0.mk (Kd.R_below (by (with_reducible repeat (first | apply Kd.R_alloc | apply Kd.R_drewN | apply Kd.R_drew)); exact HO_483005.out) hb); replace HO_494005 := Aside0.mk (Kd.R_below (by (with_reducible repeat (first | apply Kd.R_alloc | apply Kd.R_drewN | apply Kd.R_drew)); exact HO_494005.out) hb); replace HO_505005 := Aside0.mk (Kd.R_below (by (with_reducible repeat (first | apply Kd.R_alloc | apply Kd.R_drewN | apply Kd.R_drew)); exact HO_505005.out) hb); replace BK473 := Aside0.mk (blk_below (g := gb473) q38_ hb); replace BK482 := Aside0.mk (blk_below (g := gb482) q73_ hb); replace BK493 := Aside0.mk (blk_below (g := gb493) q100_ hb); replace BK504 := Aside0.mk (blk_below (g := gb504) (by (with_reducible repeat (first | refine blk_drewN ?_ _ | refine blk_drew ?_ | refine blk_alloc ?_ _)); exact BK504.out) hb); replace HB := Aside0.mk (below_step q105_ hb); (try clear hb); (try clear hb2); (try clear hk); (try clear hi)) | (go_at_call 28; (with_reducible refine (skifflaw20_awake.calls kj7  t509 _ A62.out).mono ?_); rintro e w74 ⟨rfl, hb⟩; replace HO_483005 := Aside0.mk (Kd.R_below (by (with_reducible repeat (first | apply Kd.R_alloc | apply Kd.R_drewN | apply Kd.R_drew)); exact HO_483005.out) hb); replace HO_494005 := Aside0.mk (Kd.R_below (by (with_reducible repeat (first | apply Kd.R_alloc | apply Kd.R_drewN | apply Kd.R_drew)); exact HO_494005.out) hb); replace HO_505005 := Aside0.mk (Kd.R_below (by (with_reducible repeat (first | apply Kd.R_alloc | apply Kd.R_drewN | apply Kd.R_drew)); exact HO_505005.out) hb); replace BK473 := Aside0.mk (blk_below (g := gb473) q38_ hb); replace BK482 := Aside0.mk (blk_below (g := gb482) q73_ hb); replace BK493 := Aside0.mk (blk_below (g := gb493) q100_ hb); replace BK504 := Aside0.mk (blk_below (g := gb504) (by (with_reducible repeat (first | refine blk_drewN ?_ _ | refine blk_drew ?_ | refine blk_alloc ?_ _)); exact BK504.out) hb); replace HB := Aside0.mk (below_step q105_ hb); (try clear hb); (try clear hb2); (try clear hk); (try clear hi)))
   go_ret
   exact ⟨by first | rfl | (simp [errW_none, errW_some] <;> rfl) | (simp [*, errW_none, errW_some] <;> rfl), by repeat (first | (with_reducible first | exact HB.out | apply below_alloc | apply pw_below_drewN | apply below_drew1 | refine below_set ?_ GE473.out | refine below_set ?_ GE482.out | refine below_set ?_ GE493.out | refine below_set ?_ GE504.out) | exact HB.out)⟩
end Go.Proofs.Ytjadcjkjpkkmkaa.PAll
/- Plain facts on bytes: what and, or, and-not of bytes are, bit by bit; no program in sight. -/
set_option linter.unnecessarySimpa false
set_option linter.unusedSimpArgs false
set_option linter.unusedVariables false
namespace Go.Proofs.Ytjadcjkjpkkmkaa.M
open Go.RowKit
abbrev B (x : Int) : BitVec 8 := BitVec.ofInt 8 x
theorem wrap8 (b : BitVec 8) : IntKind.u8.wrap (b.toNat : Int) = b.toNat := by
 rw [IntKind.wrap_u8]; have := b.isLt; omega
theorem bits_and_u8 (x y : Int) : Go.bits .and .u8 x y = ((B x &&& B y).toNat : Int) := wrap8 _
theorem bits_or_u8 (x y : Int) : Go.bits .or .u8 x y = ((B x ||| B y).toNat : Int) := wrap8 _
theorem bits_xor_u8 (x y : Int) : Go.bits .xor .u8 x y = ((B x ^^^ B y).toNat : Int) := wrap8 _
theorem bits_andNot_u8 (x y : Int) : Go.bits .andNot .u8 x y = ((B x &&& ~~~B y).toNat : Int) := wrap8 _
theorem B_toNat (b : BitVec 8) : B (b.toNat : Int) = b := by simp [B]
theorem toNat_B (x : Int) (h0 : 0 ≤ x) (h1 : x < 256) : ((B x).toNat : Int) = x := by
 obtain ⟨n, rfl⟩ := Int.eq_ofNat_of_zero_le h0
 simp [B]; omega
theorem B_pow (m : Nat) : B (2 ^ m % 256) = 1#8 <<< m := by
 apply BitVec.eq_of_toNat_eq
 have : ((2 : Int) ^ m % 256) = ((2 ^ m % 256 : Nat) : Int) := by simp
 simp only [B, this, BitVec.ofInt_natCast, BitVec.toNat_ofNat, BitVec.toNat_shiftLeft, Nat.shiftLeft_eq]
 simp
theorem B_mask (m : Nat) : B ((255 * 2 ^ m) % 256) = 255#8 <<< m := by
 apply BitVec.eq_of_toNat_eq
 have : ((255 : Int) * 2 ^ m % 256) = ((255 * 2 ^ m % 256 : Nat) : Int) := by simp
 simp only [B, this, BitVec.ofInt_natCast, BitVec.toNat_ofNat, BitVec.toNat_shiftLeft, Nat.shiftLeft_eq]
 simp
/-- Is bit m of x none? as the reference asks. -/
theorem zero_bit (x : Int) (h0 : 0 ≤ x) (h1 : x < 256) (m : Nat) (hm : m < 8) : (Go.bits .and .u8 (x / 2 ^ m) 1 == 0) = !(B x).getLsbD m := by
 obtain ⟨n, rfl⟩ := Int.eq_ofNat_of_zero_le h0
 have hn : n < 256 := by omega
 have e1 : ((n : Int) / 2 ^ m) = ((n / 2 ^ m : Nat) : Int) := by simp
 have hd : n / 2 ^ m < 256 := Nat.lt_of_le_of_lt (Nat.div_le_self _ _) hn
 rw [e1, bits_and_u8]
 have e2 : (B ((n / 2 ^ m : Nat) : Int) &&& B 1).toNat = n / 2 ^ m % 2 := by
  simp only [B, BitVec.ofInt_natCast, BitVec.toNat_and, BitVec.toNat_ofNat]
  rw [Nat.mod_eq_of_lt hd, show ((BitVec.ofInt 8 1).toNat) = 1 from rfl, Nat.and_one_is_mod]
 rw [e2]
 have e3 : (B (n : Int)).getLsbD m = n.testBit m := by
  show (BitVec.ofInt 8 (n : Int)).getLsbD m = _
  rw [BitVec.ofInt_natCast, BitVec.getLsbD_ofNat]; simp [hm]
 rw [e3, Nat.testBit_eq_decide_div_mod_eq]
 rcases Nat.mod_two_eq_zero_or_one (n / 2 ^ m) with h | h <;> simp [h]
/-- A byte of which the lowest n bits have been programmed, one by one, as the reference does it. -/
def clr (b w : Int) : Nat → Int
 | 0 => b
 | n + 1 => if (Go.bits .and .u8 (w / 2 ^ n) 1 == 0) = true then Go.bits .andNot .u8 (clr b w n) (2 ^ n % 256) else clr b w n
theorem clr_range (b w : Int) (h0 : 0 ≤ b) (h1 : b < 256) (n : Nat) : 0 ≤ clr b w n ∧ clr b w n < 256 := by
 induction n with
 | zero => exact ⟨h0, h1⟩
 | succ n ih =>
  rw [clr]
  split
  ·rw [bits_andNot_u8]; have := (B (clr b w n) &&& ~~~B (2 ^ n % 256)).isLt; omega
  ·exact ih
theorem clr_bit (b w : Int) (h0 : 0 ≤ w) (h1 : w < 256) (n : Nat) (hn : n ≤ 8) (i : Nat) (hi : i < 8) : (B (clr b w n)).getLsbD i = ((B b).getLsbD i && (decide (n ≤ i) || (B w).getLsbD i)) := by
 induction n with
 | zero => simp [clr]
 | succ n ih =>
  have ih := ih (by omega)
  rw [clr, zero_bit w h0 h1 n (by omega)]
  by_cases hw : (B w).getLsbD n = true
  ·rw [if_neg (by simp [hw]), ih]
   by_cases e : n = i
   ·subst e; simp [hw]
   ·have : decide (n ≤ i) = decide (n + 1 ≤ i) := by simp; omega
    rw [this]
  ·have hw' : (B w).getLsbD n = false := by simpa using hw
   rw [if_pos (by simp [hw']), bits_andNot_u8, B_toNat, B_pow]
   rw [BitVec.getLsbD_and, BitVec.getLsbD_not, ih]
   have e1 : (1#8 <<< n).getLsbD i = decide (n = i) := by
    rw [BitVec.getLsbD_shiftLeft]
    by_cases e : n = i
    ·subst e; simp [hi]
    ·by_cases h : i < n
     ·simp [h, e]
     ·have : 0 < i - n := by omega
      simp [hi, h, e, BitVec.getLsbD_one]
      omega
   rw [e1]
   by_cases e : n = i
   ·subst e; rw [hw']; simp
   ·have : decide (n ≤ i) = decide (n + 1 ≤ i) := by simp; omega
    simp [this, hi, e]
theorem mask_bit (b w : Int) (n i : Nat) (hi : i < 8) : (B (Go.bits .and .u8 b (Go.bits .or .u8 w ((255 * 2 ^ n) % 256)))).getLsbD i = ((B b).getLsbD i && (decide (n ≤ i) || (B w).getLsbD i)) := by
 rw [bits_or_u8, bits_and_u8, B_toNat, B_toNat, B_mask, BitVec.getLsbD_and, BitVec.getLsbD_or]
 have e1 : (255#8 <<< n).getLsbD i = decide (n ≤ i) := by
  rw [BitVec.getLsbD_shiftLeft]
  by_cases h : i < n
  ·simp [h]
  ·have h2 : n ≤ i := by omega
   have h3 : (255#8).getLsbD (i - n) = true := by
    have h4 : i - n < 8 := by omega
    have : ∀ j, j < 8 → (255#8).getLsbD j = true := by decide
    exact this _ h4
   simp [hi, h, h2, h3]
 rw [e1, Bool.or_comm (B w |>.getLsbD i)]
theorem mask_clr (b w : Int) (hb0 : 0 ≤ b) (hb1 : b < 256) (h0 : 0 ≤ w) (h1 : w < 256) (n : Nat) (hn : n ≤ 8) : Go.bits .and .u8 b (Go.bits .or .u8 w ((255 * 2 ^ n) % 256)) = clr b w n := by
 obtain ⟨c0, c1⟩ := clr_range b w hb0 hb1 n
 rw [← toNat_B (clr b w n) c0 c1]
 have hr : ∀ x, Go.bits .and .u8 b x = ((B (Go.bits .and .u8 b x)).toNat : Int) := by
  intro x
  rw [toNat_B]
  ·rw [bits_and_u8]; omega
  ·rw [bits_and_u8]; have := (B b &&& B x).isLt; omega
 rw [hr]
 congr 2
 apply BitVec.eq_of_getLsbD_eq
 intro i hi
 rw [mask_bit b w n i hi, clr_bit b w h0 h1 n hn i hi]
/-- On a byte 255 the word itself. -/
theorem clr_blank (w : Int) (h0 : 0 ≤ w) (h1 : w < 256) (N : Nat) (hN : N = 8) : clr 255 w N = w := by
 obtain ⟨e0, e1⟩ := clr_range 255 w (by omega) (by omega) N
 refine (toNat_B _ e0 e1).symm.trans (Eq.trans ?_ (toNat_B w h0 h1))
 congr 2
 apply BitVec.eq_of_getLsbD_eq
 intro i hi
 rw [clr_bit _ w h0 h1 N (by omega) i hi]
 have : (B 255).getLsbD i = true := by
  have h : ∀ j, j < 8 → (BitVec.ofInt 8 255).getLsbD j = true := by decide
  exact h i hi
 have h8 : decide (N ≤ i) = false := by simp; omega
 rw [this, h8]; rfl
end Go.Proofs.Ytjadcjkjpkkmkaa.M
/- Plain facts on flashes: texts spliced, words programmed, sectors erased, byte by byte; no memory in sight. -/
set_option linter.unnecessarySimpa false
set_option linter.unusedSimpArgs false
set_option linter.unusedVariables false
namespace Go.Proofs.Ytjadcjkjpkkmkaa.M
open Go.RowKit Go.Proofs.YtjadcjkjpkkmkaaW.PrintWords Go.Proofs.YtjadcjkjpkkmkaaW.PrintLast Go.Proofs.YtjadcjkjpkkmkaaW.PrintMore Go.Proofs.Ytjadcjkjpkkmkaa.Hand
theorem bt_lt (s : ByteArray) (i : Nat) (h : i < s.size) : bt s i = ((s[i]'h).toNat : Int) := bt_nat s i h
theorem bt_u8 (s : ByteArray) (i : Int) : 0 ≤ bt s i ∧ bt s i < 256 := by
 have := bt_range s i; omega
theorem bt_ext {a b : ByteArray} (h : a.size = b.size) (h2 : ∀ i : Nat, i < a.size → bt a i = bt b i) : a = b := by
 apply ByteArray.ext
 apply Array.ext h
 intro i h1 h3
 have := h2 i h1
 rw [bt_lt a i h1, bt_lt b i h3] at this
 have h4 : (a[i]'h1).toNat = (b[i]'h3).toNat := by exact_mod_cast this
 exact UInt8.toNat_inj.mp h4
theorem bt_data (s : ByteArray) (i : Nat) : bt s i = ((s.data.toList.getD i 0).toNat : Int) := by
 by_cases h : i < s.size
 ·rw [bt_lt s i h]
  have h' : i < s.data.toList.length := by rw [data_length]; exact h
  simp [List.getD_eq_getElem?_getD, List.getElem?_eq_getElem h']
  rfl
 ·have h' : ¬ i < s.data.toList.length := by rw [data_length]; exact h
  unfold bt
  rw [dif_neg (by simpa using h)]
  simp [List.getD_eq_getElem?_getD, List.getElem?_eq_none (Nat.le_of_not_lt h')]
theorem bt_append (a b : ByteArray) (i : Nat) : bt (a ++ b) i = if i < a.size then bt a i else bt b ((i - a.size : Nat) : Int) := by
 rw [bt_data, bt_data, bt_data]
 have hd : (a ++ b).data.toList = a.data.toList ++ b.data.toList := by simp
 rw [hd]
 have hl : a.data.toList.length = a.size := data_length a
 split
 ·rename_i h
  rw [List.getD_eq_getElem?_getD, List.getElem?_append_left (by omega), ← List.getD_eq_getElem?_getD]
 ·rename_i h
  rw [List.getD_eq_getElem?_getD, List.getElem?_append_right (by omega), ← List.getD_eq_getElem?_getD, hl]
theorem bt_extract (a : ByteArray) (s e i : Nat) (h : i < min e a.size - s) : bt (a.extract s e) i = bt a ((s + i : Nat) : Int) := by
 have h1 : i < (a.extract s e).size := by rw [ByteArray.size_extract]; exact h
 have h2 : s + i < a.size := by omega
 rw [bt_lt _ _ h1, bt_lt a (s + i) h2]
 simp [ByteArray.getElem_extract]
theorem bt_strOfNums (l : List Int) (i : Nat) (h : i < l.length) (h0 : 0 ≤ l.getD i 0) (h1 : l.getD i 0 < 256) : bt (strOfNums l) i = l.getD i 0 := by
 rw [bt_data]
 have e : (strOfNums l).data.toList = l.map fun n => UInt8.ofNat n.toNat := rfl
 rw [e]
 simp only [List.getD_eq_getElem?_getD, List.getElem?_map, List.getElem?_eq_getElem h, Option.map_some, Option.getD_some] at *
 simp
 omega
/-- A flash, some bytes of it others. -/
def sp (f : ByteArray) (at_ : Nat) (t : ByteArray) : ByteArray := (f.extract 0 at_ ++ t) ++ f.extract (at_ + t.size) f.size
theorem sp_size (f : ByteArray) (at_ : Nat) (t : ByteArray) (h : at_ + t.size ≤ f.size) : (sp f at_ t).size = f.size := by
 simp [sp, ByteArray.size_append, ByteArray.size_extract]; omega
theorem sp_bt (f : ByteArray) (at_ : Nat) (t : ByteArray) (h : at_ + t.size ≤ f.size) (i : Nat) (hi : i < f.size) :
  bt (sp f at_ t) i = if at_ ≤ i ∧ i < at_ + t.size then bt t ((i - at_ : Nat) : Int) else bt f i := by
 have s1 : (f.extract 0 at_).size = at_ := by rw [ByteArray.size_extract]; omega
 have s2 : (f.extract 0 at_ ++ t).size = at_ + t.size := by rw [ByteArray.size_append, s1]
 unfold sp
 rw [bt_append, s2]
 by_cases c1 : i < at_ + t.size
 ·rw [if_pos c1, bt_append, s1]
  by_cases c2 : i < at_
  ·rw [if_pos c2, if_neg (by omega), bt_extract _ _ _ _ (by omega), Nat.zero_add]
  ·rw [if_neg c2, if_pos ⟨by omega, c1⟩]
 ·rw [if_neg c1, if_neg (by omega), bt_extract _ _ _ _ (by omega)]
  congr 2; omega
/-- How many bits of byte j are programmed. -/
def tn (many : Int) (j : Nat) : Nat := (mn (mx (many - 8 * (j : Int)) 0) 8).toNat
theorem tn_eq (many : Int) (j : Nat) (h : 0 ≤ many) : tn many j = min (many.toNat - 8 * j) 8 := by
 unfold tn mn mx; split <;> split <;> omega
theorem tn_le (many : Int) (j : Nat) : tn many j ≤ 8 := by unfold tn mn mx; split <;> split <;> omega
theorem tornB_clr (f : ByteArray) (at_ : Nat) (x : ByteArray) (many : Int) (j : Nat) : tornB f at_ x many j = clr (bt f ((at_ + j : Nat) : Int)) (bt x j) (tn many j) := by
 unfold tornB maskV
 have h := mask_clr (bt f ((at_ + j : Nat) : Int)) (bt x j) (bt_u8 _ _).1 (bt_u8 _ _).2 (bt_u8 _ _).1 (bt_u8 _ _).2 (tn many j) (tn_le _ _)
 exact h
theorem tornF_size (f : ByteArray) (at_ : Nat) (x : ByteArray) (many : Int) (h : at_ + 4 ≤ f.size) : (tornF f at_ x many).size = f.size := by
 have : (strOfNums (tornL f at_ x many 4)).size = 4 := by rw [strOfNums_size', tornL_length]
 have h2 := sp_size f at_ (strOfNums (tornL f at_ x many 4)) (by omega)
 unfold sp at h2
 rw [this] at h2
 exact h2
theorem tornF_bt (f : ByteArray) (at_ : Nat) (x : ByteArray) (many : Int) (h : at_ + 4 ≤ f.size) (i : Nat) (hi : i < f.size) :
  bt (tornF f at_ x many) i = if at_ ≤ i ∧ i < at_ + 4 then clr (bt f i) (bt x ((i - at_ : Nat) : Int)) (tn many (i - at_)) else bt f i := by
 have hs : (strOfNums (tornL f at_ x many 4)).size = 4 := by rw [strOfNums_size', tornL_length]
 have h2 := sp_bt f at_ (strOfNums (tornL f at_ x many 4)) (by omega) i hi
 unfold sp at h2
 rw [hs] at h2
 unfold tornF
 rw [h2]
 by_cases c : at_ ≤ i ∧ i < at_ + 4
 ·rw [if_pos c, if_pos c]
  have hj : i - at_ < 4 := by omega
  have hg : (tornL f at_ x many 4).getD (i - at_) 0 = tornB f at_ x many (i - at_) := by simp [tornL, List.getD_eq_getElem?_getD, hj]
  have hc := tornB_clr f at_ x many (i - at_)
  rw [show at_ + (i - at_) = i by omega] at hc
  have hr := clr_range (bt f i) (bt x ((i - at_ : Nat) : Int)) (bt_u8 _ _).1 (bt_u8 _ _).2 (tn many (i - at_))
  rw [bt_strOfNums _ _ (by rw [tornL_length]; exact hj) (by rw [hg, hc]; exact hr.1) (by rw [hg, hc]; exact hr.2), hg, hc]
 ·rw [if_neg c, if_neg c]
theorem rL_at (f : ByteArray) (at_ : Nat) (x : ByteArray) (h : at_ + 4 ≤ f.size) (k : Nat) (hk : k ≤ 32) (j : Nat) (hj : j < 4) : (rL f at_ x k).getD j 0 = clr (bt f ((at_ + j : Nat) : Int)) (bt x j) (min (k - 8 * j) 8) := by
 induction k with
 | zero =>
  rw [rL, show min (0 - 8 * j) 8 = 0 by omega, clr]
  have hs : (f.extract at_ (at_ + 4)).size = 4 := by rw [ByteArray.size_extract]; omega
  have e1 := rd_bytesOf (f.extract at_ (at_ + 4)) (j : Int)
  have e2 : rd (bytesOf (f.extract at_ (at_ + 4))) (j : Int) = (bytesOf (f.extract at_ (at_ + 4))).getD j 0 := by unfold rd; simp
  rw [← e2, e1, bt_extract _ _ _ _ (by omega)]
 | succ k ih =>
  have ih := ih (by omega)
  have hlen := rL_length f at_ x k h
  rw [rL, rstep]
  by_cases e : k / 8 = j
  ·have e1 : min (k + 1 - 8 * j) 8 = k % 8 + 1 := by omega
   have e2 : min (k - 8 * j) 8 = k % 8 := by omega
   rw [e2] at ih
   rw [e1, clr, ← ih]
   unfold zeroBit
   rw [e]
   split
   ·simp [List.getD_eq_getElem?_getD, hlen, hj]
   ·rfl
  ·have e1 : min (k + 1 - 8 * j) 8 = min (k - 8 * j) 8 := by omega
   rw [e1, ← ih]
   split
   ·simp [List.getD_eq_getElem?_getD, e]
   ·rfl
theorem rtornF_eq (f : ByteArray) (at_ : Nat) (x : ByteArray) (many : Int) (h : at_ + 4 ≤ f.size) (h0 : 0 ≤ many) (h1 : many ≤ 32) : rtornF f at_ x many.toNat = tornF f at_ x many := by
 unfold rtornF tornF
 congr 3
 apply List.ext_getElem
 ·rw [rL_length _ _ _ _ h, tornL_length]
 ·intro j h2 h3
  rw [tornL_length] at h3
  have e1 := rL_at f at_ x h many.toNat (by omega) j h3
  have e2 : (tornL f at_ x many 4).getD j 0 = tornB f at_ x many j := by simp [tornL, List.getD_eq_getElem?_getD, h3]
  have e3 := tornB_clr f at_ x many j
  rw [tn_eq many j h0] at e3
  rw [List.getD_eq_getElem?_getD, List.getElem?_eq_getElem h2] at e1
  rw [List.getD_eq_getElem?_getD, List.getElem?_eq_getElem (by rw [tornL_length]; exact h3)] at e2
  simp only [Option.getD_some] at e1 e2
  rw [e1, e2, e3]
/-- n bytes 255. -/
def ff (n : Nat) : ByteArray := ⟨(List.replicate n 255).toArray⟩
theorem ff_size (n : Nat) : (ff n).size = n := by simp [ff, ByteArray.size]
theorem ff_bt (n i : Nat) (h : i < n) : bt (ff n) i = 255 := by
 rw [bt_data]
 simp [ff, List.getD_eq_getElem?_getD, h]
theorem ff_strOfNums (n : Nat) : strOfNums (List.replicate n 255) = ff n := by
 simp [strOfNums, ff]
/-- A flash, the first bytes of a sector erased. -/
def wornF (f : ByteArray) (s many : Nat) : ByteArray := sp f (s * 96) (ff many)
end Go.Proofs.Ytjadcjkjpkkmkaa.M
/- Plain facts: what the reference's PutEntry answers for every record, in closed form; no memory in sight. -/
set_option linter.unnecessarySimpa false
set_option linter.unusedSimpArgs false
set_option linter.unusedVariables false
namespace Go.Proofs.Ytjadcjkjpkkmkaa.M
open Go.RowKit Go.Proofs.YtjadcjkjpkkmkaaW.PrintWords Go.Proofs.YtjadcjkjpkkmkaaW.PrintLast Go.Proofs.YtjadcjkjpkkmkaaW.PrintMore Go.Proofs.Ytjadcjkjpkkmkaa.Hand
/-- Byte i of a number, the lowest first. -/
def lb (x : Int) (i : Nat) : Int := x / 2 ^ (8 * i) % 256
theorem lb_range (x : Int) (i : Nat) : 0 ≤ lb x i ∧ lb x i < 256 := by unfold lb; omega
theorem low1 (x : Int) : PBase.skiffref1_Low.f 6 x 1 = some (strOfNums [lb x 0]) := by
 simp [PBase.skiffref1_Low.f, PBase.skiffref1_Low.l0, wrap64, shr, lb, IntKind.bits]
theorem low2 (x : Int) : PBase.skiffref1_Low.f 6 x 2 = some (strOfNums [lb x 0, lb x 1]) := by
 simp [PBase.skiffref1_Low.f, PBase.skiffref1_Low.l0, wrap64, shr, lb, IntKind.bits]
theorem low4 (x : Int) : PBase.skiffref1_Low.f 6 x 4 = some (strOfNums [lb x 0, lb x 1, lb x 2, lb x 3]) := by
 simp [PBase.skiffref1_Low.f, PBase.skiffref1_Low.l0, wrap64, shr, lb, IntKind.bits]
/-- May a record be put? -/
def recMay (q sl sz sm : Int) : Bool := decide (1 ≤ q ∧ q ≤ 1048576 ∧ 0 ≤ sl ∧ sl ≤ 1 ∧ 1 ≤ sz ∧ sz ≤ 288 ∧ 0 ≤ sm ∧ sm ≤ 4294967295)
theorem upTo_eq' (a b c : Int) : PBase.skiffref1_upTo.f a b c = some (decide (b ≤ a ∧ a ≤ c)) := by
 unfold PBase.skiffref1_upTo.f
 by_cases h1 : a ≥ b
 ·simp [h1, show b ≤ a from h1]
 ·simp [h1, show ¬ b ≤ a from h1]
theorem RecordMay_eq (q sl sz sm : Int) : PBase.skiffref1_RecordMay.f q sl sz sm = some (recMay q sl sz sm) := by
 unfold PBase.skiffref1_RecordMay.f recMay
 simp only [upTo_eq', Option.bind_some]
 by_cases h1 : 1 ≤ q ∧ q ≤ 1048576
 ·by_cases h2 : 0 ≤ sl ∧ sl ≤ 1
  ·by_cases h3 : 1 ≤ sz ∧ sz ≤ 288
   ·simp [h1, h2, h3]
   ·rw [if_pos (by simpa using h1), if_pos (by simpa using h2), if_neg (by simpa using h3)]; congr 1; symm; rw [decide_eq_false_iff_not]; omega
  ·rw [if_pos (by simpa using h1), if_neg (by simpa using h2)]; congr 1; symm; rw [decide_eq_false_iff_not]; omega
 ·rw [if_neg (by simpa using h1)]; congr 1; symm; rw [decide_eq_false_iff_not]; omega
/-- The twelve bytes of a record. -/
def entL (q sl sz sm : Int) : List Int := [lb q 0, lb q 1, lb q 2, lb q 3, lb sl 0, 0, lb sz 0, lb sz 1, lb sm 0, lb sm 1, lb sm 2, lb sm 3]
/-- The bytes of a record: these, and their complements. -/
def ent (q sl sz sm : Int) : ByteArray := strOfNums (entL q sl sz sm ++ (entL q sl sz sm).map fun x => (255 - x) % 256)
theorem ent_size (q sl sz sm : Int) : (ent q sl sz sm).size = 24 := by rw [ent, strOfNums_size']; rfl
theorem bytesOf_strOfNums (l : List Int) (h : ∀ x ∈ l, 0 ≤ x ∧ x < 256) : bytesOf (strOfNums l) = l := by
 induction l with
 | nil => rfl
 | cons x xs ih =>
  have e : bytesOf (strOfNums (x :: xs)) = ((UInt8.ofNat x.toNat).toNat : Int) :: bytesOf (strOfNums xs) := by simp [bytesOf, strOfNums]
  rw [e, ih (fun y hy => h y (List.mem_cons_of_mem _ hy))]
  have := h x List.mem_cons_self
  congr 1
  rw [UInt8.toNat_ofNat']; omega
theorem strOfNums_append (a b : List Int) : strOfNums a ++ strOfNums b = strOfNums (a ++ b) := by
 simp [strOfNums, ByteArray.mk_append_mk]
theorem PutEntry_at (q sl sz sm : Int) (k : Nat) (hk : k = 6) : skiffref1_PutEntry.f k q sl sz sm = some (if recMay q sl sz sm = true then (ent q sl sz sm, 0) else (⟨#[]⟩, 400)) := by
 subst hk
 unfold skiffref1_PutEntry.f
 rw [RecordMay_eq, Option.bind_some]
 by_cases h : recMay q sl sz sm = true
 ·rw [if_pos h, if_pos h, low4, low1, low1, low2, low4]
  simp only [Option.bind_some, strOfNums_append, strOfNums_size']
  have z : strOfNums ([lb q 0, lb q 1, lb q 2, lb q 3] ++ [lb sl 0] ++ [lb 0 0] ++ [lb sz 0, lb sz 1] ++ [lb sm 0, lb sm 1, lb sm 2, lb sm 3]) = strOfNums (entL q sl sz sm) := rfl
  rw [z]
  unfold putFin
  rw [strOfNums_size', bytesOf_strOfNums]
  ·rfl
  ·intro x hx
   simp only [entL, List.mem_cons, List.mem_nil_iff, or_false] at hx
   rcases hx with rfl | rfl | rfl | rfl | rfl | rfl | rfl | rfl | rfl | rfl | rfl | rfl <;> first | exact lb_range _ _ | omega
 ·rw [if_neg h, if_neg h]
def putV (q sl sz sm : Int) : ByteArray × Int := if recMay q sl sz sm = true then (ent q sl sz sm, 0) else (⟨#[]⟩, 400)
theorem PutEntry_ev (q sl sz sm : Int) : Ev (fun k => skiffref1_PutEntry.f k q sl sz sm) (putV q sl sz sm) :=
 Ev.of (fun k => skiffref1_PutEntry.mono q sl sz sm k) (PutEntry_at q sl sz sm 6 rfl)
end Go.Proofs.Ytjadcjkjpkkmkaa.M
/- Plain facts: what the program's ops and the reference's answer for every flash, step and cut: the same; no memory in sight. -/
set_option linter.unnecessarySimpa false
set_option linter.unusedSimpArgs false
set_option linter.unusedVariables false
namespace Go.Proofs.Ytjadcjkjpkkmkaa.M
open Go.RowKit Go.Proofs.YtjadcjkjpkkmkaaW.PrintWords Go.Proofs.YtjadcjkjpkkmkaaW.PrintLast Go.Proofs.YtjadcjkjpkkmkaaW.PrintMore Go.Proofs.Ytjadcjkjpkkmkaa.Hand Go.Proofs.Ytjadcjkjpkkmkaa.PAll
/-- Evaluation that ends: one step of a function with rounds. -/
theorem Ev.one {α : Type} {g : Nat → Option α} {r : α} (h : ∀ k, g (k + 1) = some r) : Ev g r := ⟨1, fun k hk => by obtain ⟨m, rfl⟩ : ∃ m, k = m + 1 := ⟨k - 1, by omega⟩; exact h m⟩
theorem Ev.always {α : Type} {g : Nat → Option α} {r : α} (h : ∀ k, g k = some r) : Ev g r := ⟨0, fun k _ => h k⟩
abbrev I64 (x : Int) : Prop := -9223372036854775808 ≤ x ∧ x ≤ 9223372036854775807
theorem wrap_id {x : Int} (h : I64 x) : wrap64 x = x := by unfold wrap64; omega
/-- May a step be? -/
def opMay (e : Bool) (a : Int) (t : ByteArray) : Bool :=
 if e = true then decide (0 ≤ a ∧ a ≤ 672 ∧ a % 96 = 0 ∧ t.size = 0) else decide (0 ≤ a ∧ a ≤ 764 ∧ a % 4 = 0 ∧ t.size = 4)
theorem toList_nil (t : ByteArray) : (t.toList == ([] : List UInt8)) = decide (t.size = 0) := by
 rw [ByteArray.toList_eq]
 have h := data_length t
 cases hl : t.data.toList with
 | nil => rw [hl] at h; simp at h; exact (decide_eq_true h.symm).symm
 | cons a l => rw [hl] at h; simp at h; exact (decide_eq_false (by omega)).symm
theorem toList_inj {a b : ByteArray} : a.toList = b.toList ↔ a = b := by
 rw [ByteArray.toList_eq, ByteArray.toList_eq]
 exact ⟨fun h => Go.WideShapes.bytes_inj h, fun h => by rw [h]⟩
theorem upTo_eq (a b c : Int) : PBase.skiffref1_upTo.f a b c = some (decide (b ≤ a ∧ a ≤ c)) := by
 unfold PBase.skiffref1_upTo.f
 by_cases h : a ≥ b
 ·rw [if_pos h]; congr 1; simp; omega
 ·rw [if_neg h]; congr 1; symm; simp; omega
theorem ref_OpMay_eq (e : Bool) (a : Int) (t : ByteArray) : skiffref1_OpMay.f e a t = some (opMay e a t) := by
 unfold skiffref1_OpMay.f opMay
 cases e with
 | true =>
  rw [if_pos rfl, if_pos rfl, upTo_eq]
  simp only [Option.bind_some]
  by_cases h0 : 0 ≤ a ∧ a ≤ 672
  ·rw [if_pos (by simpa using h0), Int.tmod_eq_emod_of_nonneg h0.1]
   by_cases h1 : a % 96 = 0
   ·rw [if_pos h1, toList_nil]; congr 1; exact decide_eq_decide.mpr ⟨fun h => ⟨by omega, by omega, h1, h⟩, fun h => h.2.2.2⟩
   ·rw [if_neg h1]; congr 1; symm; simp; omega
  ·rw [if_neg (by simpa using h0)]; congr 1; symm; simp; omega
 | false =>
  rw [if_neg (by decide), if_neg (by decide)]
  unfold skiffref1_wordAt.f
  rw [upTo_eq]
  simp only [Option.bind_some]
  by_cases h0 : 0 ≤ a ∧ a ≤ 764
  ·rw [if_pos (by simpa using h0), Int.tmod_eq_emod_of_nonneg h0.1]
   simp only [Option.bind_some]
   by_cases h1 : a % 4 = 0
   ·rw [if_pos (by simpa using h1)]; congr 1; rw [Bool.eq_iff_iff]; simp; omega
   ·rw [if_neg (by simpa using h1)]; congr 1; symm; simp; omega
  ·rw [if_neg (by simpa using h0)]
   simp only [Option.bind_some]
   rw [if_neg (by decide)]; congr 1; symm; simp; omega
theorem full_go (n : Int) (hn : n ≤ 1000) (d : Nat) : ∀ (k : Nat) (i : Int), 0 ≤ i → i ≤ n → (n - i).toNat = d → d < k → skiffref1_full.l0 k n (List.replicate i.toNat 255 ++ List.replicate (n - i).toNat 0) i = some (ff n.toNat) := by
 induction d with
 | zero =>
  intro k i h0 h1 hd hk
  obtain ⟨k, rfl⟩ : ∃ m, k = m + 1 := ⟨k - 1, by omega⟩
  have hin : i = n := by omega
  subst hin
  simp only [skiffref1_full.l0]
  rw [if_neg (by omega)]
  simp [ff_strOfNums]
 | succ d ih =>
  intro k i h0 h1 hd hk
  obtain ⟨k, rfl⟩ : ∃ m, k = m + 1 := ⟨k - 1, by omega⟩
  simp only [skiffref1_full.l0]
  have hl : (List.replicate i.toNat (255 : Int) ++ List.replicate (n - i).toNat 0).length = n.toNat := by simp; omega
  rw [if_pos (by omega), if_pos h0, if_pos (by rw [hl]; omega), wrap_id (by omega)]
  have e : (List.replicate i.toNat (255 : Int) ++ List.replicate (n - i).toNat 0).set i.toNat 255 = List.replicate (i + 1).toNat 255 ++ List.replicate (n - (i + 1)).toNat 0 := by
   rw [show (n - i).toNat = (n - (i + 1)).toNat + 1 by omega, List.replicate_succ, show (i + 1).toNat = i.toNat + 1 by omega, List.replicate_succ']
   rw [List.set_append_right _ _ (by simp)]
   simp
  rw [e]
  exact ih k (i + 1) (by omega) (by omega) (by omega) (by omega)
theorem full_ev (n : Int) (h0 : 0 ≤ n) (hn : n ≤ 1000) : Ev (fun k => skiffref1_full.f k n) (ff n.toNat) := by
 refine Ev.of (fun k => skiffref1_full.mono _ _) (k := n.toNat + 1) ?_
 unfold skiffref1_full.f
 rw [if_pos h0, if_pos (by omega)]
 have := full_go n hn n.toNat (n.toNat + 1) 0 (by omega) h0 (by omega) (by omega)
 simpa using this
theorem ref_Worn_ev (f : ByteArray) (s m : Int) (hf : f.size = 768) (h0 : 0 ≤ s) (h1 : s < 8) (h2 : 0 ≤ m) (h3 : m ≤ 96) : Ev (fun k => skiffref1_Worn.f k f s m) (wornF f s.toNat m.toNat, 0) := by
 unfold skiffref1_Worn.f skiffref1_FlashMay.f
 simp only [Option.bind_some, hf, upTo_eq]
 have e1 : decide (0 ≤ s ∧ s ≤ 7) = true := by simp; omega
 have e2 : decide (0 ≤ m ∧ m ≤ 96) = true := by simp; omega
 have e3 : ((768 : Nat) : Int) == 768 := rfl
 simp only [e1, e2, e3, if_true]
 have w1 : wrap64 (s * 96) = s * 96 := wrap_id (by omega)
 have w2 : wrap64 (s * 96 + m) = s * 96 + m := wrap_id (by omega)
 simp only [w1, w2, if_pos (show 0 ≤ s * 96 by omega), if_pos (show s * 96 ≤ ((768 : Nat) : Int) by omega)]
 refine Ev.bind (full_ev m h2 (by omega)) ?_
 have s1 : (f.extract 0 (s * 96).toNat).size = (s * 96).toNat := by rw [ByteArray.size_extract]; omega
 have s2 : (f.extract (s * 96 + m).toNat 768).size = 768 - (s * 96 + m).toNat := by rw [ByteArray.size_extract]; omega
 refine Ev.always fun k => ?_
 rw [if_pos (by rw [s1, ff_size]; omega), if_pos (by omega), if_pos (by omega), if_pos (by rw [ByteArray.size_append, s1, s2, ff_size]; omega)]
 unfold wornF sp
 rw [ff_size, hf, show (s * 96).toNat = s.toNat * 96 by omega, show (s * 96 + m).toNat = s.toNat * 96 + m.toNat by omega]
end Go.Proofs.Ytjadcjkjpkkmkaa.M
/- Plain facts: what the program's entry.Get and the reference's GetEntry answer for every string: the same; no memory in sight. -/
set_option linter.unnecessarySimpa false
set_option linter.unusedSimpArgs false
set_option linter.unusedVariables false
namespace Go.Proofs.Ytjadcjkjpkkmkaa.M
open Go.RowKit Go.Proofs.YtjadcjkjpkkmkaaW.PrintWords Go.Proofs.YtjadcjkjpkkmkaaW.PrintLast Go.Proofs.YtjadcjkjpkkmkaaW.PrintMore Go.Proofs.Ytjadcjkjpkkmkaa.Hand Go.Proofs.Ytjadcjkjpkkmkaa.PAll
theorem wraps_i64 (n : Int) (h₀ : 0 ≤ n) (h₁ : n < 2 ^ 62) : IntKind.i64.wrap n = n := by rw [IntKind.wrap_i64]; omega
theorem or_step (x b : Int) (h0 : 0 ≤ x) (h1 : x < 1099511627776) (h2 : 0 ≤ b) (h3 : b < 256) : Go.bits .or .i64 (wrap64 (x * 256)) (wrap64 b) = x * 256 + b := by
 rw [show wrap64 (x * 256) = x * 256 by unfold wrap64; omega, show wrap64 b = b by unfold wrap64; omega]
 exact bits_join .i64 62 (by decide) wraps_i64 8 _ _ (by omega) (by omega) (by omega) h2 (by omega) (by omega)
theorem num_step (k : Nat) (s : ByteArray) (x : Int) (i : Nat) (hi : i < s.size) (hs : s.size < 1000) (h0 : 0 ≤ x) (h1 : x < 1099511627776) : PSc.entry_Num.l0 (k + 1) s x (i : Int) = PSc.entry_Num.l0 k s (x * 256 + bt s (i : Int)) ((i : Int) - 1) := by
 rw [PSc.entry_Num.l0, if_pos (by omega), if_pos (by omega), if_pos (by omega), or_step x _ h0 h1 (bt_u8 _ _).1 (bt_u8 _ _).2, show wrap64 ((i : Int) - 1) = (i : Int) - 1 by unfold wrap64; omega]
theorem num_end (k : Nat) (s : ByteArray) (x : Int) : PSc.entry_Num.l0 (k + 1) s x (-1) = some x := by rw [PSc.entry_Num.l0, if_neg (by omega)]
theorem of_step (k : Nat) (s : ByteArray) (x : Int) (i : Nat) (hi : i < s.size) (hs : s.size < 1000) (h0 : 0 ≤ x) (h1 : x < 1099511627776) : skiffref1_Of.l0 (k + 1) s x (i : Int) = skiffref1_Of.l0 k s (x * 256 + bt s (i : Int)) ((i : Int) - 1) := by
 rw [skiffref1_Of.l0, if_pos (by omega), if_pos (by omega), if_pos (by omega), or_step x _ h0 h1 (bt_u8 _ _).1 (bt_u8 _ _).2, show wrap64 ((i : Int) - 1) = (i : Int) - 1 by unfold wrap64; omega]
theorem of_end (k : Nat) (s : ByteArray) (x : Int) : skiffref1_Of.l0 (k + 1) s x (-1) = some x := by rw [skiffref1_Of.l0, if_neg (by omega)]
def n2 (s : ByteArray) (i : Nat) : Int := bt s i + 256 * bt s ((i + 1 : Nat) : Int)
def n4 (s : ByteArray) (i : Nat) : Int := bt s i + 256 * bt s ((i + 1 : Nat) : Int) + 65536 * bt s ((i + 2 : Nat) : Int) + 16777216 * bt s ((i + 3 : Nat) : Int)
theorem num4_eq (s : ByteArray) (h : s.size = 4) : PSc.entry_Num.f 6 s = some (n4 s 0) := by
 have b0 := bt_u8 s 0; have b1 := bt_u8 s 1; have b2 := bt_u8 s 2; have b3 := bt_u8 s 3
 unfold PSc.entry_Num.f
 rw [h]
 rw [show wrap64 (((4 : Nat) : Int) - 1) = ((3 : Nat) : Int) by unfold wrap64; omega]
 rw [num_step 5 s 0 3 (by omega) (by omega) (by omega) (by omega)]
 show PSc.entry_Num.l0 5 s (0 * 256 + bt s 3) ((2 : Nat) : Int) = _
 rw [num_step 4 s _ 2 (by omega) (by omega) (by omega) (by omega)]
 show PSc.entry_Num.l0 4 s ((0 * 256 + bt s 3) * 256 + bt s 2) ((1 : Nat) : Int) = _
 rw [num_step 3 s _ 1 (by omega) (by omega) (by omega) (by omega)]
 show PSc.entry_Num.l0 3 s (((0 * 256 + bt s 3) * 256 + bt s 2) * 256 + bt s 1) ((0 : Nat) : Int) = _
 rw [num_step 2 s _ 0 (by omega) (by omega) (by omega) (by omega)]
 show PSc.entry_Num.l0 2 s ((((0 * 256 + bt s 3) * 256 + bt s 2) * 256 + bt s 1) * 256 + bt s 0) (-1) = _
 rw [num_end]
 congr 1
 show _ = bt s 0 + 256 * bt s 1 + 65536 * bt s 2 + 16777216 * bt s 3
 omega
theorem num2_eq (s : ByteArray) (h : s.size = 2) : PSc.entry_Num.f 6 s = some (n2 s 0) := by
 have b0 := bt_u8 s 0; have b1 := bt_u8 s 1
 unfold PSc.entry_Num.f
 rw [h]
 rw [show wrap64 (((2 : Nat) : Int) - 1) = ((1 : Nat) : Int) by unfold wrap64; omega]
 rw [num_step 5 s _ 1 (by omega) (by omega) (by omega) (by omega)]
 show PSc.entry_Num.l0 5 s (0 * 256 + bt s 1) ((0 : Nat) : Int) = _
 rw [num_step 4 s _ 0 (by omega) (by omega) (by omega) (by omega)]
 show PSc.entry_Num.l0 4 s ((0 * 256 + bt s 1) * 256 + bt s 0) (-1) = _
 rw [num_end]
 congr 1
 show _ = bt s 0 + 256 * bt s 1
 omega
theorem of4_eq (s : ByteArray) (h : s.size = 4) : skiffref1_Of.f 6 s = some (n4 s 0) := by
 have b0 := bt_u8 s 0; have b1 := bt_u8 s 1; have b2 := bt_u8 s 2; have b3 := bt_u8 s 3
 unfold skiffref1_Of.f
 rw [h]
 rw [show wrap64 (((4 : Nat) : Int) - 1) = ((3 : Nat) : Int) by unfold wrap64; omega]
 rw [of_step 5 s 0 3 (by omega) (by omega) (by omega) (by omega)]
 show skiffref1_Of.l0 5 s (0 * 256 + bt s 3) ((2 : Nat) : Int) = _
 rw [of_step 4 s _ 2 (by omega) (by omega) (by omega) (by omega)]
 show skiffref1_Of.l0 4 s ((0 * 256 + bt s 3) * 256 + bt s 2) ((1 : Nat) : Int) = _
 rw [of_step 3 s _ 1 (by omega) (by omega) (by omega) (by omega)]
 show skiffref1_Of.l0 3 s (((0 * 256 + bt s 3) * 256 + bt s 2) * 256 + bt s 1) ((0 : Nat) : Int) = _
 rw [of_step 2 s _ 0 (by omega) (by omega) (by omega) (by omega)]
 show skiffref1_Of.l0 2 s ((((0 * 256 + bt s 3) * 256 + bt s 2) * 256 + bt s 1) * 256 + bt s 0) (-1) = _
 rw [of_end]
 congr 1
 show _ = bt s 0 + 256 * bt s 1 + 65536 * bt s 2 + 16777216 * bt s 3
 omega
theorem of2_eq (s : ByteArray) (h : s.size = 2) : skiffref1_Of.f 6 s = some (n2 s 0) := by
 have b0 := bt_u8 s 0; have b1 := bt_u8 s 1
 unfold skiffref1_Of.f
 rw [h]
 rw [show wrap64 (((2 : Nat) : Int) - 1) = ((1 : Nat) : Int) by unfold wrap64; omega]
 rw [of_step 5 s _ 1 (by omega) (by omega) (by omega) (by omega)]
 show skiffref1_Of.l0 5 s (0 * 256 + bt s 1) ((0 : Nat) : Int) = _
 rw [of_step 4 s _ 0 (by omega) (by omega) (by omega) (by omega)]
 show skiffref1_Of.l0 4 s ((0 * 256 + bt s 1) * 256 + bt s 0) (-1) = _
 rw [of_end]
 congr 1
 show _ = bt s 0 + 256 * bt s 1
 omega
theorem n4_extract (s : ByteArray) (i : Nat) (h : i + 4 ≤ s.size) : n4 (s.extract i (i + 4)) 0 = n4 s i := by
 unfold n4
 simp only [Nat.zero_add]
 rw [bt_extract s i (i + 4) 0 (by omega), bt_extract s i (i + 4) 1 (by omega), bt_extract s i (i + 4) 2 (by omega), bt_extract s i (i + 4) 3 (by omega), Nat.add_zero]
theorem n2_extract (s : ByteArray) (i : Nat) (h : i + 2 ≤ s.size) : n2 (s.extract i (i + 2)) 0 = n2 s i := by
 unfold n2
 simp only [Nat.zero_add]
 rw [bt_extract s i (i + 2) 0 (by omega), bt_extract s i (i + 2) 1 (by omega), Nat.add_zero]
/-- What stands in a place: the complements are right, and the record may be. -/
def getOk (s : ByteArray) : Prop := s.size = 24 ∧ (∀ i, i < 12 → bt s ((12 + i : Nat) : Int) = 255 - bt s ((i : Nat) : Int)) ∧ recMay (n4 s 0) (n2 s 4) (n2 s 6) (n4 s 8) = true
instance (s : ByteArray) : Decidable (getOk s) := by unfold getOk; exact inferInstance
def getV (s : ByteArray) : Int × Int × Int × Int × Int := if getOk s then (n4 s 0, n2 s 4, n2 s 6, n4 s 8, 0) else (0, 0, 0, 0, 400)
theorem complB_eq (b : Int) (h0 : 0 ≤ b) (h1 : b < 256) : complB b = 255 - b := by
 obtain ⟨n, rfl⟩ := Int.eq_ofNat_of_zero_le h0
 unfold complB
 rw [bits_xor_u8]
 have e : B (IntKind.u8.max) = BitVec.allOnes 8 := by decide
 rw [e, BitVec.allOnes_xor, BitVec.toNat_not]
 have e2 : (B (n : Int)).toNat = n := by simp [B]; omega
 rw [e2]; omega
theorem bytesOf_getD (s : ByteArray) (i : Nat) (h : i < s.size) : (bytesOf s).getD i 0 = bt s (i : Int) := by
 have := rd_bytesOf s (i : Int)
 rw [← this]
 simp [rd]
theorem compl_bt (s : ByteArray) (i : Nat) (h : i < s.size) : bt (strOfNums ((bytesOf s).map complB)) i = 255 - bt s (i : Int) := by
 have b := bt_u8 s (i : Int)
 have hl : i < ((bytesOf s).map complB).length := by rw [List.length_map, bytesOf_length]; exact h
 have e : ((bytesOf s).map complB).getD i 0 = 255 - bt s (i : Int) := by
  have := bytesOf_getD s i h
  have hl2 : i < (bytesOf s).length := by rw [bytesOf_length]; exact h
  rw [List.getD_eq_getElem?_getD, List.getElem?_map, List.getElem?_eq_getElem hl2, Option.map_some, Option.getD_some]
  rw [List.getD_eq_getElem?_getD, List.getElem?_eq_getElem hl2, Option.getD_some] at this
  rw [this, complB_eq _ b.1 b.2]
 rw [bt_strOfNums _ _ hl (by rw [e]; omega) (by rw [e]; omega), e]
theorem compl_iff (s : ByteArray) (h : s.size = 24) : (strOfNums ((bytesOf (s.extract 0 12)).map complB) = s.extract 12 s.size) ↔ ∀ i, i < 12 → bt s ((12 + i : Nat) : Int) = 255 - bt s ((i : Nat) : Int) := by
 have z1 : (s.extract 0 12).size = 12 := by rw [ByteArray.size_extract]; omega
 have z2 : (s.extract 12 s.size).size = 12 := by rw [ByteArray.size_extract]; omega
 constructor
 ·intro e i hi
  have e1 := compl_bt (s.extract 0 12) i (by omega)
  rw [e, bt_extract s 12 s.size i (by omega), bt_extract s 0 12 i (by omega), Nat.zero_add] at e1
  exact e1
 ·intro e
  apply bt_ext
  ·rw [strOfNums_size', List.length_map, bytesOf_length, z1, z2]
  ·intro i hi
   rw [strOfNums_size', List.length_map, bytesOf_length, z1] at hi
   rw [compl_bt _ _ (by omega), bt_extract s 12 s.size i (by omega), bt_extract s 0 12 i (by omega), Nat.zero_add, e i hi]
theorem in_eq (a b c : Int) : PSc.entry_in.f a b c = some (decide (b ≤ a ∧ a ≤ c)) := by
 unfold PSc.entry_in.f
 by_cases h1 : a ≥ b
 ·simp [h1, show b ≤ a from h1]
 ·simp [h1, show ¬ b ≤ a from h1]
theorem May_eq (q sl sz sm : Int) : PSc.entry_May.f q sl sz sm = some (recMay q sl sz sm) := by
 unfold PSc.entry_May.f PSc.entry_Slot.f PSc.entry_Size.f recMay
 simp only [in_eq, Option.bind_some]
 by_cases h1 : 1 ≤ q ∧ q ≤ 1048576
 ·by_cases h2 : 0 ≤ sl ∧ sl ≤ 1
  ·by_cases h3 : 1 ≤ sz ∧ sz ≤ 288
   ·simp [h1, h2, h3]
   ·rw [if_pos (by simpa using h1), if_pos (by simpa using h2), if_neg (by simpa using h3)]; congr 1; symm; rw [decide_eq_false_iff_not]; omega
  ·rw [if_pos (by simpa using h1), if_neg (by simpa using h2)]; congr 1; symm; rw [decide_eq_false_iff_not]; omega
 ·rw [if_neg (by simpa using h1)]; congr 1; symm; rw [decide_eq_false_iff_not]; omega
theorem Get_at (s : ByteArray) : PSc.entry_Get.f 7 s = some (getV s) := by
 unfold PSc.entry_Get.f
 by_cases h : s.size = 24
 ·rw [if_pos (by omega), if_pos (by omega), if_pos (by omega)]
  have z1 : (s.extract 0 12).size = 12 := by rw [ByteArray.size_extract]; omega
  have e0 : entry_complement.f (s.extract 0 12) = some (strOfNums ((bytesOf (s.extract 0 12)).map complB)) := by unfold entry_complement.f; rw [if_pos (by omega)]
  rw [e0, Option.bind_some, PSc.entry_Get.j0]
  by_cases hc : strOfNums ((bytesOf (s.extract 0 12)).map complB) = s.extract 12 s.size
  ·rw [hc, bne_self_eq_false, if_neg (by decide), if_pos (by omega), if_pos (by omega), num4_eq _ (by rw [ByteArray.size_extract]; omega), Option.bind_some, if_pos (by omega), if_pos (by omega), num2_eq _ (by rw [ByteArray.size_extract]; omega), Option.bind_some,
    if_pos (by omega), if_pos (by omega), num2_eq _ (by rw [ByteArray.size_extract]; omega), Option.bind_some, if_pos (by omega), if_pos (by omega), num4_eq _ (by rw [ByteArray.size_extract]; omega), Option.bind_some, May_eq, Option.bind_some]
   rw [n4_extract s 0 (by omega), n2_extract s 4 (by omega), n2_extract s 6 (by omega), n4_extract s 8 (by omega)]
   unfold getV
   by_cases hm : recMay (n4 s 0) (n2 s 4) (n2 s 6) (n4 s 8) = true
   ·rw [if_pos hm, if_pos ⟨h, (compl_iff s h).1 hc, hm⟩]
   ·rw [if_neg hm, if_neg (fun x => hm x.2.2)]
  ·have hb : (ByteArray.toList (strOfNums ((bytesOf (s.extract 0 12)).map complB)) != ByteArray.toList (s.extract 12 s.size)) = true := by
    rw [bne_iff_ne]; intro x; exact hc (toList_inj.1 x)
   rw [hb, if_pos rfl]
   unfold getV
   rw [if_neg (fun x => hc ((compl_iff s h).2 x.2.1))]
 ·rw [if_neg (by omega), PSc.entry_Get.j0, if_pos rfl]
  unfold getV
  rw [if_neg (fun x => h x.1)]
theorem Get_ev (s : ByteArray) : Ev (fun k => PSc.entry_Get.f k s) (getV s) := Ev.of (fun k => PSc.entry_Get.mono s k) (Get_at s)
theorem lb_n4 (s : ByteArray) (i : Nat) : lb (n4 s i) 0 = bt s (i : Int) ∧ lb (n4 s i) 1 = bt s ((i + 1 : Nat) : Int) ∧ lb (n4 s i) 2 = bt s ((i + 2 : Nat) : Int) ∧ lb (n4 s i) 3 = bt s ((i + 3 : Nat) : Int) := by
 have b0 := bt_u8 s (i : Int); have b1 := bt_u8 s ((i + 1 : Nat) : Int); have b2 := bt_u8 s ((i + 2 : Nat) : Int); have b3 := bt_u8 s ((i + 3 : Nat) : Int)
 unfold lb n4
 simp only [Nat.mul_zero, Nat.mul_one, show 8 * 2 = 16 from rfl, show 8 * 3 = 24 from rfl, show (2 : Int) ^ 0 = 1 from rfl, show (2 : Int) ^ 8 = 256 from rfl, show (2 : Int) ^ 16 = 65536 from rfl, show (2 : Int) ^ 24 = 16777216 from rfl]
 omega
theorem lb_n2 (s : ByteArray) (i : Nat) : lb (n2 s i) 0 = bt s (i : Int) ∧ lb (n2 s i) 1 = bt s ((i + 1 : Nat) : Int) := by
 have b0 := bt_u8 s (i : Int); have b1 := bt_u8 s ((i + 1 : Nat) : Int)
 unfold lb n2
 simp only [Nat.mul_zero, Nat.mul_one, show (2 : Int) ^ 0 = 1 from rfl, show (2 : Int) ^ 8 = 256 from rfl]
 omega
theorem ent_bt (q sl sz sm : Int) (i : Nat) (h : i < 12) : bt (ent q sl sz sm) ((i : Nat) : Int) = (entL q sl sz sm).getD i 0 ∧ bt (ent q sl sz sm) ((12 + i : Nat) : Int) = 255 - (entL q sl sz sm).getD i 0 := by
 have r : ∀ j, j < 12 → 0 ≤ (entL q sl sz sm).getD j 0 ∧ (entL q sl sz sm).getD j 0 < 256 := by
  intro j hj
  match j, hj with
  | 0, _ => exact lb_range _ _
  | 1, _ => exact lb_range _ _
  | 2, _ => exact lb_range _ _
  | 3, _ => exact lb_range _ _
  | 4, _ => exact lb_range _ _
  | 5, _ => exact ⟨Int.le_refl 0, (by decide : (0 : Int) < 256)⟩
  | 6, _ => exact lb_range _ _
  | 7, _ => exact lb_range _ _
  | 8, _ => exact lb_range _ _
  | 9, _ => exact lb_range _ _
  | 10, _ => exact lb_range _ _
  | 11, _ => exact lb_range _ _
 have hl : (entL q sl sz sm).length = 12 := rfl
 have e1 : (entL q sl sz sm ++ (entL q sl sz sm).map fun x => (255 - x) % 256).getD i 0 = (entL q sl sz sm).getD i 0 := by
  rw [List.getD_eq_getElem?_getD, List.getElem?_append_left (by omega), ← List.getD_eq_getElem?_getD]
 have e2 : (entL q sl sz sm ++ (entL q sl sz sm).map fun x => (255 - x) % 256).getD (12 + i) 0 = 255 - (entL q sl sz sm).getD i 0 := by
  have := r i h
  rw [List.getD_eq_getElem?_getD, List.getElem?_append_right (by omega), hl, show 12 + i - 12 = i by omega, List.getElem?_map]
  rw [List.getD_eq_getElem?_getD] at this ⊢
  rw [List.getElem?_eq_getElem (by omega)] at this ⊢
  simp only [Option.map_some, Option.getD_some] at this ⊢
  omega
 have := r i h
 unfold ent
 constructor
 ·rw [bt_strOfNums _ _ (by simp [hl]; omega) (by rw [e1]; omega) (by rw [e1]; omega), e1]
 ·rw [bt_strOfNums _ _ (by simp [hl]; omega) (by rw [e2]; omega) (by rw [e2]; omega), e2]
/-- The reference's way to say it: put again, it is the same. -/
theorem getOk_iff (s : ByteArray) (h : s.size = 24) : getOk s ↔ recMay (n4 s 0) (bt s ((4 : Nat) : Int)) (n2 s 6) (n4 s 8) = true ∧ ent (n4 s 0) (bt s ((4 : Nat) : Int)) (n2 s 6) (n4 s 8) = s := by
 have q0 := lb_n4 s 0; have q6 := lb_n2 s 6; have q8 := lb_n4 s 8
 have b4 := bt_u8 s ((4 : Nat) : Int); have b5 := bt_u8 s ((5 : Nat) : Int)
 have l4 : lb (bt s ((4 : Nat) : Int)) 0 = bt s ((4 : Nat) : Int) := by unfold lb; simp only [Nat.mul_zero, show (2 : Int) ^ 0 = 1 from rfl]; omega
 have e12 : entL (n4 s 0) (bt s ((4 : Nat) : Int)) (n2 s 6) (n4 s 8) = [bt s ((0 : Nat) : Int), bt s ((1 : Nat) : Int), bt s ((2 : Nat) : Int), bt s ((3 : Nat) : Int), bt s ((4 : Nat) : Int), 0, bt s ((6 : Nat) : Int), bt s ((7 : Nat) : Int), bt s ((8 : Nat) : Int), bt s ((9 : Nat) : Int), bt s ((10 : Nat) : Int), bt s ((11 : Nat) : Int)] := by
  unfold entL
  rw [q0.1, q0.2.1, q0.2.2.1, q0.2.2.2, q6.1, q6.2, q8.1, q8.2.1, q8.2.2.1, q8.2.2.2, l4]
 constructor
 ·rintro ⟨_, hc, hm⟩
  have z5 : bt s ((5 : Nat) : Int) = 0 := by
   unfold recMay at hm
   have := of_decide_eq_true hm
   have e : n2 s 4 = bt s ((4 : Nat) : Int) + 256 * bt s ((5 : Nat) : Int) := rfl
   omega
  have e2 : n2 s 4 = bt s ((4 : Nat) : Int) := by
   have e : n2 s 4 = bt s ((4 : Nat) : Int) + 256 * bt s ((5 : Nat) : Int) := rfl
   omega
  refine ⟨by rw [← e2]; exact hm, ?_⟩
  have low : ∀ j, j < 12 → (entL (n4 s 0) (bt s ((4 : Nat) : Int)) (n2 s 6) (n4 s 8)).getD j 0 = bt s ((j : Nat) : Int) := by
   intro j hj
   rw [e12]
   match j, hj with
   | 0, _ => rfl
   | 1, _ => rfl
   | 2, _ => rfl
   | 3, _ => rfl
   | 4, _ => rfl
   | 5, _ => exact z5.symm
   | 6, _ => rfl
   | 7, _ => rfl
   | 8, _ => rfl
   | 9, _ => rfl
   | 10, _ => rfl
   | 11, _ => rfl
  apply bt_ext
  ·rw [ent_size, h]
  ·intro i hi
   rw [ent_size] at hi
   by_cases c : i < 12
   ·rw [(ent_bt _ _ _ _ i c).1, low i c]
   ·obtain ⟨j, rfl⟩ : ∃ j, i = 12 + j := ⟨i - 12, by omega⟩
    rw [(ent_bt _ _ _ _ j (by omega)).2, low j (by omega), hc j (by omega)]
 ·rintro ⟨hm, he⟩
  have low : ∀ j, j < 12 → bt s ((j : Nat) : Int) = (entL (n4 s 0) (bt s ((4 : Nat) : Int)) (n2 s 6) (n4 s 8)).getD j 0 := by
   intro j hj
   have := (ent_bt (n4 s 0) (bt s ((4 : Nat) : Int)) (n2 s 6) (n4 s 8) j hj).1
   rw [he] at this
   exact this
  have z5 : bt s ((5 : Nat) : Int) = 0 := (low 5 (by omega)).trans (by rw [e12]; rfl)
  have e2 : n2 s 4 = bt s ((4 : Nat) : Int) := by
   have e : n2 s 4 = bt s ((4 : Nat) : Int) + 256 * bt s ((5 : Nat) : Int) := rfl
   omega
  refine ⟨h, fun i hi => ?_, by rw [e2]; exact hm⟩
  have := (ent_bt (n4 s 0) (bt s ((4 : Nat) : Int)) (n2 s 6) (n4 s 8) i hi).2
  rw [he] at this
  rw [this, low i hi]
theorem GetEntry_at (s : ByteArray) : skiffref1_GetEntry.f 6 s = some (getV s) := by
 unfold skiffref1_GetEntry.f
 by_cases h : s.size = 24
 ·rw [if_pos (by omega), if_pos (by omega), if_pos (by omega), of4_eq _ (by rw [ByteArray.size_extract]; omega), Option.bind_some, if_pos (by omega), if_pos (by omega), if_pos (by omega), of2_eq _ (by rw [ByteArray.size_extract]; omega), Option.bind_some,
   if_pos (by omega), if_pos (by omega), of4_eq _ (by rw [ByteArray.size_extract]; omega), Option.bind_some, PutEntry_at _ _ _ _ 6 rfl, Option.bind_some]
  rw [n4_extract s 0 (by omega), n2_extract s 6 (by omega), n4_extract s 8 (by omega)]
  have b4 := bt_u8 s ((4 : Nat) : Int)
  have w4 : wrap64 (bt s 4) = bt s ((4 : Nat) : Int) := by show wrap64 (bt s ((4 : Nat) : Int)) = _; unfold wrap64; omega
  rw [w4]
  unfold getV
  by_cases hm : recMay (n4 s 0) (bt s ((4 : Nat) : Int)) (n2 s 6) (n4 s 8) = true
  ·rw [if_pos hm, if_pos rfl]
   by_cases he : ent (n4 s 0) (bt s ((4 : Nat) : Int)) (n2 s 6) (n4 s 8) = s
   ·have ok := (getOk_iff s h).2 ⟨hm, he⟩
    have e2 : n2 s 4 = bt s ((4 : Nat) : Int) := by
     have e : n2 s 4 = bt s ((4 : Nat) : Int) + 256 * bt s ((5 : Nat) : Int) := rfl
     have hm2 := of_decide_eq_true ok.2.2
     have b5 := bt_u8 s ((5 : Nat) : Int)
     omega
    rw [if_pos (by rw [he]), if_pos ok, e2]
   ·rw [if_neg (fun x => he (toList_inj.1 x)), if_neg (fun x => he ((getOk_iff s h).1 x).2)]
  ·rw [if_neg hm, if_neg (by decide), if_neg (fun x => hm ((getOk_iff s h).1 x).1)]
 ·rw [if_neg (by omega)]
  unfold getV
  rw [if_neg (fun x => h x.1)]
theorem GetEntry_ev (s : ByteArray) : Ev (fun k => skiffref1_GetEntry.f k s) (getV s) := Ev.of (fun k => skiffref1_GetEntry.mono s k) (GetEntry_at s)
/-- A record that was put is found. -/
theorem getV_ent (q sl sz sm : Int) (h : recMay q sl sz sm = true) : getV (ent q sl sz sm) = (q, sl, sz, sm, 0) := by
 have hm := of_decide_eq_true h
 have lo : ∀ j, j < 12 → bt (ent q sl sz sm) ((j : Nat) : Int) = (entL q sl sz sm).getD j 0 := fun j hj => (ent_bt q sl sz sm j hj).1
 have e0 : n4 (ent q sl sz sm) 0 = q := by
  unfold n4
  rw [lo 0 (by omega), lo (0 + 1) (by omega), lo (0 + 2) (by omega), lo (0 + 3) (by omega)]
  show lb q 0 + 256 * lb q 1 + 65536 * lb q 2 + 16777216 * lb q 3 = q
  unfold lb
  simp only [Nat.mul_zero, Nat.mul_one, show 8 * 2 = 16 from rfl, show 8 * 3 = 24 from rfl, show (2 : Int) ^ 0 = 1 from rfl, show (2 : Int) ^ 8 = 256 from rfl, show (2 : Int) ^ 16 = 65536 from rfl, show (2 : Int) ^ 24 = 16777216 from rfl]
  omega
 have e8 : n4 (ent q sl sz sm) 8 = sm := by
  unfold n4
  rw [lo 8 (by omega), lo (8 + 1) (by omega), lo (8 + 2) (by omega), lo (8 + 3) (by omega)]
  show lb sm 0 + 256 * lb sm 1 + 65536 * lb sm 2 + 16777216 * lb sm 3 = sm
  unfold lb
  simp only [Nat.mul_zero, Nat.mul_one, show 8 * 2 = 16 from rfl, show 8 * 3 = 24 from rfl, show (2 : Int) ^ 0 = 1 from rfl, show (2 : Int) ^ 8 = 256 from rfl, show (2 : Int) ^ 16 = 65536 from rfl, show (2 : Int) ^ 24 = 16777216 from rfl]
  omega
 have e4 : n2 (ent q sl sz sm) 4 = sl := by
  unfold n2
  rw [lo 4 (by omega), lo (4 + 1) (by omega)]
  show lb sl 0 + 256 * 0 = sl
  unfold lb
  simp only [Nat.mul_zero, show (2 : Int) ^ 0 = 1 from rfl]
  omega
 have e6 : n2 (ent q sl sz sm) 6 = sz := by
  unfold n2
  rw [lo 6 (by omega), lo (6 + 1) (by omega)]
  show lb sz 0 + 256 * lb sz 1 = sz
  unfold lb
  simp only [Nat.mul_zero, Nat.mul_one, show (2 : Int) ^ 0 = 1 from rfl, show (2 : Int) ^ 8 = 256 from rfl]
  omega
 unfold getV
 have ok : getOk (ent q sl sz sm) := ⟨ent_size q sl sz sm, fun i hi => by rw [(ent_bt q sl sz sm i hi).2, lo i hi], by rw [e0, e4, e6, e8]; exact h⟩
 rw [if_pos ok, e0, e4, e6, e8]
end Go.Proofs.Ytjadcjkjpkkmkaa.M
/- Plain facts: what a step of flash makes of it, cut or whole, by the program and by the reference; no memory in sight. -/
set_option linter.unnecessarySimpa false
set_option linter.unusedSimpArgs false
set_option linter.unusedVariables false
namespace Go.Proofs.Ytjadcjkjpkkmkaa.M
open Go.RowKit Go.Proofs.YtjadcjkjpkkmkaaW.PrintWords Go.Proofs.YtjadcjkjpkkmkaaW.PrintLast Go.Proofs.YtjadcjkjpkkmkaaW.PrintMore Go.Proofs.Ytjadcjkjpkkmkaa.Hand Go.Proofs.Ytjadcjkjpkkmkaa.PAll
/-- As much of a step as is told. -/
def doF (f : ByteArray) (e : Bool) (a : Int) (t : ByteArray) (cut : Int) : ByteArray := if e = true then wornF f (a.toNat / 96) cut.toNat else tornF f a.toNat t (mn cut 32)
def cutOk (f : ByteArray) (e : Bool) (a : Int) (t : ByteArray) (cut : Int) : Prop := f.size = 768 ∧ opMay e a t = true ∧ 0 ≤ cut ∧ cut ≤ 96
instance (f : ByteArray) (e : Bool) (a : Int) (t : ByteArray) (cut : Int) : Decidable (cutOk f e a t cut) := by unfold cutOk; exact inferInstance
def cutV (f : ByteArray) (e : Bool) (a : Int) (t : ByteArray) (cut : Int) : ByteArray × Int := if cutOk f e a t cut then (doF f e a t cut, 0) else (⟨#[]⟩, 300)
theorem opMay_true {a : Int} {t : ByteArray} (h : opMay true a t = true) : 0 ≤ a ∧ a ≤ 672 ∧ a % 96 = 0 ∧ t.size = 0 := by
 unfold opMay at h; rw [if_pos rfl] at h; exact of_decide_eq_true h
theorem opMay_false {a : Int} {t : ByteArray} (h : opMay false a t = true) : 0 ≤ a ∧ a ≤ 764 ∧ a % 4 = 0 ∧ t.size = 4 := by
 unfold opMay at h; rw [if_neg (by decide)] at h; exact of_decide_eq_true h
theorem mn32 (cut : Int) (h0 : 0 ≤ cut) : 0 ≤ mn cut 32 ∧ mn cut 32 ≤ 32 := by unfold mn; split <;> omega
theorem ref_Torn_eq (f : ByteArray) (a : Int) (t : ByteArray) (m : Int) (hf : f.size = 768) (ha : 0 ≤ a ∧ a ≤ 764 ∧ a % 4 = 0 ∧ t.size = 4) (h0 : 0 ≤ m) (h1 : m ≤ 32) : skiffref1_Torn.f f a t m = some (tornF f a.toNat t m, 0) := by
 unfold skiffref1_Torn.f
 rw [if_pos (by omega), if_pos (by omega), if_pos (by omega), if_pos (by rw [Int.tmod_eq_emod_of_nonneg ha.1]; exact ha.2.2.1), if_pos (by omega), if_pos (by omega), if_pos (by omega), rtornF_eq f a.toNat t m (by omega) h0 h1]
theorem ref_Cut_no (f : ByteArray) (e : Bool) (a : Int) (t : ByteArray) (cut : Int) : Ev (fun k => skiffref1_Cut.j0 k f cut true e a t) (⟨#[]⟩, 300) :=
 Ev.one fun k => by simp only [skiffref1_Cut.j0, if_true]
theorem ref_Cut_ev (f : ByteArray) (e : Bool) (a : Int) (t : ByteArray) (cut : Int) : Ev (fun k => skiffref1_Cut.f k f e a t cut) (cutV f e a t cut) := by
 unfold skiffref1_Cut.f skiffref1_FlashMay.f
 simp only [Option.bind_some, ref_OpMay_eq e a t, upTo_eq]
 by_cases h1 : f.size = 768
 ·have e1 : ((f.size : Int) == 768) = true := by simp; omega
  simp only [e1, if_true]
  cases h2 : opMay e a t with
  | false =>
   simp only [Bool.false_eq_true, if_false]
   unfold cutV
   rw [if_neg (by unfold cutOk; rw [h2]; simp)]
   exact ref_Cut_no f e a t cut
  | true =>
   simp only [if_true]
   by_cases h4 : 0 ≤ cut ∧ cut ≤ 96
   ·have e4 : decide (0 ≤ cut ∧ cut ≤ 96) = true := by simpa using h4
    simp only [e4, Bool.not_true]
    unfold cutV
    rw [if_pos ⟨h1, h2, h4.1, h4.2⟩]
    cases e with
    | true =>
     obtain ⟨m0, m1, m2, m3⟩ := opMay_true h2
     have hw : wrap64 (Int.tdiv a 96) = a / 96 := by rw [Int.tdiv_eq_ediv_of_nonneg m0]; exact wrap_id (by omega)
     refine Ev.step (f := fun k => (skiffref1_Worn.f k f (a / 96) cut).bind fun bt345 => (some (bt345.1, bt345.2))) (fun k => by simp only [skiffref1_Cut.j0, Bool.false_eq_true, if_false, if_true, hw]) ?_
     refine Ev.bind (ref_Worn_ev f (a / 96) cut h1 (by omega) (by omega) h4.1 h4.2) (Ev.always fun k => ?_)
     unfold doF
     rw [if_pos rfl, show (a / 96).toNat = a.toNat / 96 by omega]
    | false =>
     have hm := opMay_false h2
     have hc := mn32 cut h4.1
     refine Ev.one fun k => ?_
     simp only [skiffref1_Cut.j0, Bool.false_eq_true, if_false]
     rw [ref_Torn_eq f a t (mn cut 32) h1 hm hc.1 hc.2]
     rfl
   ·have e4 : decide (0 ≤ cut ∧ cut ≤ 96) = false := decide_eq_false h4
    simp only [e4, Bool.not_false]
    unfold cutV
    rw [if_neg (by unfold cutOk; omega)]
    exact ref_Cut_no f e a t cut
 ·have e1 : ((f.size : Int) == 768) = false := by simp; omega
  simp only [e1, Bool.false_eq_true, if_false]
  unfold cutV
  rw [if_neg (by unfold cutOk; omega)]
  exact ref_Cut_no f e a t cut
theorem ref_Do_ev (f : ByteArray) (e : Bool) (a : Int) (t : ByteArray) : Ev (fun k => skiffref1_Do.f k f e a t) (cutV f e a t 96) := by
 unfold skiffref1_Do.f
 exact Ev.bind (ref_Cut_ev f e a t 96) (Ev.always fun k => rfl)
theorem Blank_ev : Ev (fun k => skiffref1_Blank.f k) (ff 768) := by
 unfold skiffref1_Blank.f
 exact Ev.bind (full_ev 768 (by omega) (by omega)) (Ev.always fun k => rfl)
/-- Which bytes a step reaches. -/
def width (e : Bool) : Nat := if e = true then 96 else 4
end Go.Proofs.Ytjadcjkjpkkmkaa.M
/- Plain facts: the records of a flash, by the program and by the reference: the same; the first free place; no memory in sight. -/
set_option linter.unnecessarySimpa false
set_option linter.unusedSimpArgs false
set_option linter.unusedVariables false
namespace Go.Proofs.Ytjadcjkjpkkmkaa.M
open Go.RowKit Go.Proofs.YtjadcjkjpkkmkaaW.PrintWords Go.Proofs.YtjadcjkjpkkmkaaW.PrintLast Go.Proofs.YtjadcjkjpkkmkaaW.PrintMore Go.Proofs.Ytjadcjkjpkkmkaa.Hand Go.Proofs.Ytjadcjkjpkkmkaa.PAll
/-- The bytes of place j. -/
def pl (f : ByteArray) (j : Nat) : ByteArray := f.extract (24 * j) (24 * j + 24)
/-- What is told of one place. -/
def told (j : Nat) (g : Int × Int × Int × Int × Int) : List S25 := if g.2.2.2.2 = 0 then [⟨24 * (j : Int), ⟨g.1, g.2.1, g.2.2.1, g.2.2.2.1⟩⟩] else []
def scanL (f : ByteArray) : Nat → List S25
 | 0 => []
 | n + 1 => scanL f n ++ told n (getV (pl f n))
def scanV (f : ByteArray) : List S25 × Int := if f.size = 768 then (scanL f 8, 0) else ([], 500)
theorem told_length (j : Nat) (g : Int × Int × Int × Int × Int) : (told j g).length ≤ 1 := by unfold told; split <;> simp
theorem scanL_length (f : ByteArray) (n : Nat) : (scanL f n).length ≤ n := by
 induction n with
 | zero => simp [scanL]
 | succ n ih => have := told_length n (getV (pl f n)); simp only [scanL, List.length_append]; omega
theorem at_eq (f : ByteArray) (j : Nat) (hf : f.size = 768) (hj : j < 8) (a : Int) (ha : a = 24 * (j : Int)) : PSc.journal_at.f f a = some (pl f j) := by
 subst ha
 unfold PSc.journal_at.f
 have w : wrap64 (24 * (j : Int) + 24) = 24 * (j : Int) + 24 := wrap_id (by omega)
 rw [w, if_pos (by omega), if_pos (by omega), if_pos (by omega)]
 congr 2 <;> omega
def toSc (x : S25) : PSc.S25 := ⟨x.f0, ⟨x.f1.f0, x.f1.f1, x.f1.f2, x.f1.f3⟩⟩
theorem scan_go (f : ByteArray) (hf : f.size = 768) (d : Nat) : ∀ (j : Nat), j + d = 8 → Ev (fun k => PSc.journal_Scan.l0 k f ((scanL f j).map toSc) (j : Int)) ((scanL f 8).map toSc, 0) := by
 induction d with
 | zero =>
  intro j hj
  obtain rfl : j = 8 := by omega
  exact Ev.one fun k => by rw [PSc.journal_Scan.l0, if_neg (by omega)]
 | succ d ih =>
  intro j hj
  have h1 := ih (j + 1) (by omega)
  have w : wrap64 ((j : Int) + 1) = ((j + 1 : Nat) : Int) := by rw [wrap_id (by omega)]; omega
  refine Ev.step (f := fun k => (PSc.entry_Get.f k (pl f j)).bind fun bt339 => (if bt339.2.2.2.2 = 0 then (if ((scanL f j).map toSc).length < 3518437208883 then (PSc.journal_Scan.l0 k f ((scanL f j).map toSc ++ [(⟨24 * (j : Int), (⟨bt339.1, bt339.2.1, bt339.2.2.1, bt339.2.2.2.1⟩ : PSc.S23)⟩ : PSc.S25)]) ((j + 1 : Nat) : Int)) else (none)) else (PSc.journal_Scan.l0 k f ((scanL f j).map toSc) ((j + 1 : Nat) : Int)))) (fun k => ?_) ?_
  ·rw [PSc.journal_Scan.l0, if_pos (by omega), at_eq f j hf (by omega) _ (by rw [wrap_id (by omega)]; omega), Option.bind_some, w, wrap_id (x := (j : Int) * 24) (by omega), Int.mul_comm (j : Int) 24]
  ·refine Ev.bind (Get_ev (pl f j)) ?_
   have hl := scanL_length f j
   unfold scanL told at h1
   rw [List.map_append] at h1
   by_cases c : (getV (pl f j)).2.2.2.2 = 0
   ·rw [if_pos c] at h1
    simp only [if_pos c, if_pos (show ((scanL f j).map toSc).length < 3518437208883 by rw [List.length_map]; omega)]
    exact h1
   ·rw [if_neg c, List.map_nil, List.append_nil] at h1
    simp only [if_neg c]
    exact h1
theorem Scan_ev (f : ByteArray) : Ev (fun k => PSc.journal_Scan.f k f) ((scanV f).1.map toSc, (scanV f).2) := by
 unfold PSc.journal_Scan.f scanV PSc.nor_May.f
 by_cases h : f.size = 768
 ·have e : ((f.size : Int) == 768) = true := by simp; omega
  simp only [Option.bind_some, e, if_true, if_pos h]
  exact scan_go f h 8 0 rfl
 ·have e : ((f.size : Int) == 768) = false := by simp; omega
  simp only [Option.bind_some, e, if_neg h]
  exact Ev.now _
theorem rscan_go (f : ByteArray) (hf : f.size = 768) (s : Nat) (hs : s < 2) (r : List S25 × Int) (hn : Ev (fun k => skiffref1_Scan.l0 k f (scanL f (4 * s + 4)) ((s + 1 : Nat) : Int)) r) (d : Nat) :
  ∀ (j : Nat), j + d = 4 * s + 4 → 4 * s ≤ j → Ev (fun k => skiffref1_Scan.l1 k f (scanL f j) (s : Int) (24 * (j : Int))) r := by
 have w1 : wrap64 ((s : Int) + 1) = ((s + 1 : Nat) : Int) := by rw [wrap_id (by omega)]; omega
 have w2 : wrap64 (((s + 1 : Nat) : Int) * 96) = 96 * (s : Int) + 96 := by rw [wrap_id (by omega)]; omega
 induction d with
 | zero =>
  intro j hj _
  obtain rfl : j = 4 * s + 4 := by omega
  refine Ev.step (fun k => ?_) hn
  rw [skiffref1_Scan.l1, w1, w2, if_neg (by rw [wrap_id (by omega)]; omega)]
 | succ d ih =>
  intro j hj h4
  have h1 := ih (j + 1) (by omega) (by omega)
  have w : wrap64 (24 * (j : Int) + 24) = 24 * ((j + 1 : Nat) : Int) := by rw [wrap_id (by omega)]; omega
  refine Ev.step (f := fun k => (skiffref1_GetEntry.f k (pl f j)).bind fun bt361 => (if bt361.2.2.2.2 = 0 then (if (scanL f j).length < 3518437208883 then (skiffref1_Scan.l1 k f (scanL f j ++ [(⟨24 * (j : Int), (⟨bt361.1, bt361.2.1, bt361.2.2.1, bt361.2.2.2.1⟩ : S23)⟩ : S25)]) (s : Int) (24 * ((j + 1 : Nat) : Int))) else (none)) else (skiffref1_Scan.l1 k f (scanL f j) (s : Int) (24 * ((j + 1 : Nat) : Int))))) (fun k => ?_) ?_
  ·rw [skiffref1_Scan.l1, w1, w2, w, if_pos (by omega), if_pos (by omega), if_pos (by omega), if_pos (by omega), show f.extract (24 * (j : Int)).toNat (24 * ((j + 1 : Nat) : Int)).toNat = pl f j by unfold pl; congr 1 <;> omega]
  ·refine Ev.bind (GetEntry_ev (pl f j)) ?_
   have hl := scanL_length f j
   unfold scanL told at h1
   by_cases c : (getV (pl f j)).2.2.2.2 = 0
   ·rw [if_pos c] at h1
    simp only [if_pos c, if_pos (show (scanL f j).length < 3518437208883 by omega)]
    exact h1
   ·rw [if_neg c, List.append_nil] at h1
    simp only [if_neg c]
    exact h1
theorem rscan_all (f : ByteArray) (hf : f.size = 768) : Ev (fun k => skiffref1_Scan.l0 k f [] 0) (scanL f 8, 0) := by
 have e2 : Ev (fun k => skiffref1_Scan.l0 k f (scanL f 8) ((2 : Nat) : Int)) (scanL f 8, 0) := Ev.one fun k => by rw [skiffref1_Scan.l0, if_neg (by omega)]
 have e1 : Ev (fun k => skiffref1_Scan.l0 k f (scanL f 4) ((1 : Nat) : Int)) (scanL f 8, 0) :=
  Ev.step (fun k => by rw [skiffref1_Scan.l0, if_pos (by omega), show wrap64 (((1 : Nat) : Int) * 96) = 24 * ((4 : Nat) : Int) by unfold wrap64; omega]) (rscan_go f hf 1 (by omega) _ e2 4 4 (by omega) (by omega))
 exact Ev.step (fun k => by rw [skiffref1_Scan.l0, if_pos (by omega), show wrap64 ((0 : Int) * 96) = 24 * ((0 : Nat) : Int) by unfold wrap64; omega]; rfl) (rscan_go f hf 0 (by omega) _ e1 4 0 (by omega) (by omega))
theorem ref_Scan_ev (f : ByteArray) : Ev (fun k => skiffref1_Scan.f k f) (scanV f) := by
 unfold skiffref1_Scan.f scanV skiffref1_FlashMay.f
 by_cases h : f.size = 768
 ·have e : ((f.size : Int) == 768) = true := by simp; omega
  simp only [Option.bind_some, e, if_true, if_pos h]
  exact rscan_all f h
 ·have e : ((f.size : Int) == 768) = false := by simp; omega
  simp only [Option.bind_some, e, if_neg h]
  exact Ev.now _
/-- The first place from j on, of n, that is blank. -/
def freeL (f : ByteArray) (j : Nat) : Nat → Int × Bool × Int
 | 0 => (0, false, 0)
 | n + 1 => if pl f j = ff 24 then (24 * (j : Int), true, 0) else freeL f (j + 1) n
def freeV (f : ByteArray) (s : Int) : Int × Bool × Int := if f.size = 768 ∧ 0 ≤ s ∧ s < 2 then freeL f (4 * s.toNat) 4 else (0, false, 500)
theorem rfree_go (f : ByteArray) (hf : f.size = 768) (s : Nat) (hs : s < 2) (n : Nat) : ∀ (j : Nat), j + n = 4 * s + 4 → Ev (fun k => skiffref1_FreePlace.l0 k f (s : Int) (24 * (j : Int))) (freeL f j n) := by
 have w1 : wrap64 ((s : Int) + 1) = ((s + 1 : Nat) : Int) := by rw [wrap_id (by omega)]; omega
 have w2 : wrap64 (((s + 1 : Nat) : Int) * 96) = 96 * (s : Int) + 96 := by rw [wrap_id (by omega)]; omega
 induction n with
 | zero =>
  intro j hj
  obtain rfl : j = 4 * s + 4 := by omega
  exact Ev.one fun k => by rw [skiffref1_FreePlace.l0, w1, w2, if_neg (by rw [wrap_id (by omega)]; omega)]; rfl
 | succ n ih =>
  intro j hj
  have h1 := ih (j + 1) (by omega)
  have w : wrap64 (24 * (j : Int) + 24) = 24 * ((j + 1 : Nat) : Int) := by rw [wrap_id (by omega)]; omega
  refine Ev.step (f := fun k => (skiffref1_full.f k 24).bind fun t405 => (if (pl f j).toList = t405.toList then (some (24 * (j : Int), true, 0)) else (skiffref1_FreePlace.l0 k f (s : Int) (24 * ((j + 1 : Nat) : Int))))) (fun k => ?_) ?_
  ·rw [skiffref1_FreePlace.l0, w1, w2, w, if_pos (by omega), if_pos (by omega), if_pos (by omega), if_pos (by omega), show f.extract (24 * (j : Int)).toNat (24 * ((j + 1 : Nat) : Int)).toNat = pl f j by unfold pl; congr 1 <;> omega]
  ·refine Ev.bind (full_ev 24 (by omega) (by omega)) ?_
   unfold freeL
   by_cases c : pl f j = ff 24
   ·have e : (pl f j).toList = (ff (24 : Int).toNat).toList := by rw [c]; rfl
    simp only [if_pos c, if_pos e]; exact Ev.now _
   ·have e : ¬ (pl f j).toList = (ff (24 : Int).toNat).toList := fun x => c (toList_inj.1 x)
    simp only [if_neg c, if_neg e]; exact h1
theorem ref_Free_ev (f : ByteArray) (s : Int) : Ev (fun k => skiffref1_FreePlace.f k f s) (freeV f s) := by
 have no : Ev (fun k => skiffref1_FreePlace.j0 k f s true) (0, false, 500) := Ev.one fun k => by rw [skiffref1_FreePlace.j0, if_pos rfl]
 unfold skiffref1_FreePlace.f freeV skiffref1_FlashMay.f
 by_cases h : f.size = 768
 ·have e : ((f.size : Int) == 768) = true := by simp; omega
  simp only [Option.bind_some, e, if_true, upTo_eq]
  by_cases h1 : 0 ≤ s ∧ s ≤ 1
  ·rw [if_pos (by omega), decide_eq_true h1]
   obtain ⟨n, rfl⟩ := Int.eq_ofNat_of_zero_le h1.1
   exact Ev.step (fun k => by rw [skiffref1_FreePlace.j0, if_neg (by decide), wrap_id (x := (n : Int) * 96) (by omega), show (n : Int) * 96 = 24 * ((4 * n : Nat) : Int) by omega]) (rfree_go f h n (by omega) 4 (4 * n) rfl)
  ·rw [if_neg (by omega), decide_eq_false h1]
   exact no
 ·have e : ((f.size : Int) == 768) = false := by simp; omega
  simp only [Option.bind_some, e]
  rw [if_neg (by omega)]
  exact no
end Go.Proofs.Ytjadcjkjpkkmkaa.M
/- Plain facts: a text in words, by the program and by the reference: the same; no memory in sight. -/
set_option linter.unnecessarySimpa false
set_option linter.unusedSimpArgs false
set_option linter.unusedVariables false
namespace Go.Proofs.Ytjadcjkjpkkmkaa.M
open Go.RowKit Go.Proofs.YtjadcjkjpkkmkaaW.PrintWords Go.Proofs.YtjadcjkjpkkmkaaW.PrintLast Go.Proofs.YtjadcjkjpkkmkaaW.PrintMore Go.Proofs.Ytjadcjkjpkkmkaa.Hand Go.Proofs.Ytjadcjkjpkkmkaa.PAll
/-- Word i of a text: its four bytes from 4 i on, the last ones 255. -/
def wordAt (t : ByteArray) (i : Nat) : ByteArray := t.extract (4 * i) (4 * i + 4) ++ ff (4 - (t.size - 4 * i))
def many (t : ByteArray) : Nat := (t.size + 3) / 4
/-- A text in words. -/
def wl (a : Int) (t : ByteArray) (n : Nat) : List S87 := (List.range n).map fun (i : Nat) => (⟨false, a + 4 * (i : Int), wordAt t i⟩ : S87)
theorem wl_succ (a : Int) (t : ByteArray) (n : Nat) : wl a t (n + 1) = wl a t n ++ [⟨false, a + 4 * (n : Int), wordAt t n⟩] := by
 unfold wl; rw [List.range_succ, List.map_append]; rfl
theorem wl_length (a : Int) (t : ByteArray) (n : Nat) : (wl a t n).length = n := by simp [wl]
theorem wl_rd (a : Int) (t : ByteArray) (n i : Nat) (h : i < n) : rd_T87 (wl a t n) i = ⟨false, a + 4 * (i : Int), wordAt t i⟩ := by
 unfold rd_T87 wl
 simp [List.getD_eq_getElem?_getD, h]
theorem wordAt_size (t : ByteArray) (i : Nat) (h : 4 * i < t.size) : (wordAt t i).size = 4 := by
 unfold wordAt; rw [ByteArray.size_append, ByteArray.size_extract, ff_size]; omega
theorem wordAt_bt (t : ByteArray) (i j : Nat) (h : 4 * i < t.size) (hj : j < 4) : bt (wordAt t i) j = if 4 * i + j < t.size then bt t ((4 * i + j : Nat) : Int) else 255 := by
 have s1 : (t.extract (4 * i) (4 * i + 4)).size = min (4 * i + 4) t.size - 4 * i := by rw [ByteArray.size_extract]
 unfold wordAt
 rw [bt_append, s1]
 by_cases c : 4 * i + j < t.size
 ·rw [if_pos (by omega), if_pos c, bt_extract _ _ _ _ (by omega)]
 ·rw [if_neg (by omega), if_neg c, ff_bt _ _ (by omega)]
def wordsOk (a : Int) (t : ByteArray) : Prop := 0 ≤ a ∧ a ≤ 768 ∧ a % 4 = 0 ∧ (t.size : Int) ≤ 768 - a
instance (a : Int) (t : ByteArray) : Decidable (wordsOk a t) := by unfold wordsOk; exact inferInstance
def wordsV (a : Int) (t : ByteArray) : List S87 × Int := if wordsOk a t then (wl a t (many t), 0) else ([], 300)
theorem refwords_go (a : Int) (t u : ByteArray) (h0 : 0 ≤ a) (h1 : a ≤ 768) (ht : t.size ≤ 768) (hu : u.size = 4 * many t) (hut : ∀ i, i < many t → u.extract (4 * i) (4 * i + 4) = wordAt t i) (d : Nat) : ∀ (k i : Nat), i ≤ many t → many t - i = d → d < k →
  skiffref1_Words.l0 k a u (wl a t i) (4 * (i : Int)) = some (wl a t (many t), 0) := by
 have hmt : many t ≤ 192 := by unfold many; omega
 induction d with
 | zero =>
  intro k i hi hd hk
  obtain ⟨k, rfl⟩ : ∃ m, k = m + 1 := ⟨k - 1, by omega⟩
  obtain rfl : i = many t := by omega
  simp only [skiffref1_Words.l0]
  rw [if_neg (by omega)]
 | succ d ih =>
  intro k i hi hd hk
  obtain ⟨k, rfl⟩ : ∃ m, k = m + 1 := ⟨k - 1, by omega⟩
  simp only [skiffref1_Words.l0]
  have hw : wrap64 (4 * (i : Int) + 4) = 4 * (i : Int) + 4 := wrap_id (by omega)
  have hw2 : wrap64 (a + 4 * (i : Int)) = a + 4 * (i : Int) := wrap_id (by omega)
  rw [if_pos (by omega), if_pos (by omega), hw, hw2, if_pos (by omega), if_pos (by omega), if_pos (by rw [wl_length]; omega)]
  rw [show (4 * (i : Int)).toNat = 4 * i by omega, show (4 * (i : Int) + 4).toNat = 4 * i + 4 by omega, hut i (by omega)]
  have := ih k (i + 1) (by omega) (by omega) (by omega)
  rw [wl_succ, show 4 * ((i + 1 : Nat) : Int) = 4 * (i : Int) + 4 by omega] at this
  exact this
theorem ref_Words_no (a : Int) (t : ByteArray) : Ev (fun k => skiffref1_Words.j0 k a t true) ([], 300) := Ev.one fun k => by simp only [skiffref1_Words.j0, if_true]
theorem ref_Words_ev (a : Int) (t : ByteArray) (ha : I64 a) (ht : t.size ≤ 140737488351232) : Ev (fun k => skiffref1_Words.f k a t) (wordsV a t) := by
 unfold skiffref1_Words.f wordsV
 simp only [upTo_eq, Option.bind_some]
 by_cases h0 : 0 ≤ a ∧ a ≤ 768
 ·have e0 : decide (0 ≤ a ∧ a ≤ 768) = true := decide_eq_true h0
  simp only [e0, if_true]
  have hm : Int.tmod a 4 = a % 4 := Int.tmod_eq_emod_of_nonneg (by omega)
  simp only [hm]
  by_cases h2 : a % 4 = 0
  ·simp only [if_pos h2]
   have hw : wrap64 (768 - a) = 768 - a := wrap_id (by omega)
   simp only [hw]
   by_cases h3 : (t.size : Int) > 768 - a
   ·have e3 : decide ((t.size : Int) > 768 - a) = true := decide_eq_true h3
    simp only [e3]
    rw [if_neg (by unfold wordsOk; omega)]
    exact ref_Words_no a t
   ·have e3 : decide ((t.size : Int) > 768 - a) = false := decide_eq_false h3
    simp only [e3]
    rw [if_pos ⟨by omega, by omega, h2, by omega⟩]
    refine Ev.step (f := fun k => (skiffref1_full.f k ((4 - ((t.size : Int) % 4)) % 4)).bind fun t150 => (if t.size + t150.size ≤ 9223372036854775807 then (skiffref1_Words.l0 k a (t ++ t150) ([] : List (S87)) 0) else (none))) (fun k => by simp only [skiffref1_Words.j0, Bool.false_eq_true, if_false]) ?_
    refine Ev.bind (full_ev _ (by omega) (by omega)) ?_
    obtain ⟨p, hp⟩ : ∃ p : Nat, ((4 - ((t.size : Int) % 4)) % 4).toNat = p := ⟨_, rfl⟩
    rw [hp]
    have hpm : t.size + p = 4 * many t := by unfold many; omega
    simp only [ff_size, if_pos (show t.size + p ≤ 9223372036854775807 by omega)]
    refine Ev.of (fun k => (skiffref1_Words.mono_l k).2 _ _ _ _) (k := many t + 1) ?_
    have hu : (t ++ ff p).size = 4 * many t := by rw [ByteArray.size_append, ff_size]; omega
    have := refwords_go a t (t ++ ff p) (by omega) (by omega) (by omega) hu (fun i hi => ?_) (many t) (many t + 1) 0 (by omega) (by omega) (by omega)
    ·simpa [wl] using this
    ·have hlt : 4 * i < t.size := by unfold many at hi; omega
     apply bt_ext
     ·rw [wordAt_size t i hlt, ByteArray.size_extract, hu]; omega
     ·intro j hj
      rw [ByteArray.size_extract, hu] at hj
      rw [wordAt_bt t i j hlt (by omega), bt_extract _ _ _ _ (by omega), bt_append]
      by_cases c : 4 * i + j < t.size
      ·rw [if_pos c, if_pos c]
      ·rw [if_neg c, if_neg c, ff_bt _ _ (by omega)]
  ·simp only [if_neg h2]
   rw [if_neg (by unfold wordsOk; omega)]
   exact ref_Words_no a t
 ·have e0 : decide (0 ≤ a ∧ a ≤ 768) = false := decide_eq_false h0
  simp only [e0, Bool.false_eq_true, if_false]
  rw [if_neg (by unfold wordsOk; omega)]
  exact ref_Words_no a t
end Go.Proofs.Ytjadcjkjpkkmkaa.M
/- Plain facts: the flash of one record that the laws begin with; no memory in sight. -/
set_option linter.unnecessarySimpa false
set_option linter.unusedSimpArgs false
set_option linter.unusedVariables false
namespace Go.Proofs.Ytjadcjkjpkkmkaa.M
open Go.RowKit Go.Proofs.YtjadcjkjpkkmkaaW.PrintWords Go.Proofs.YtjadcjkjpkkmkaaW.PrintLast Go.Proofs.YtjadcjkjpkkmkaaW.PrintMore Go.Proofs.Ytjadcjkjpkkmkaa.Hand Go.Proofs.Ytjadcjkjpkkmkaa.PAll
theorem tn_all (j : Nat) (h : j < 4) : tn 32 j = 8 := by rw [tn_eq _ _ (by omega)]; omega
/-- The first m bytes of t stand from a on in a flash that is G elsewhere. -/
def onto (G : ByteArray) (a : Nat) (t : ByteArray) (m : Nat) (F : ByteArray) : Prop := F.size = 768 ∧ ∀ i : Nat, i < 768 → bt F i = if a ≤ i ∧ i < a + m ∧ i - a < t.size then bt t ((i - a : Nat) : Int) else bt G i
theorem onto_step (G : ByteArray) (a : Nat) (t F : ByteArray) (j : Nat) (h : onto G a t (4 * j) F) (hG : ∀ i, a ≤ i → i < a + 4 * many t → bt G ((i : Nat) : Int) = 255) (hj : j < many t) (hr : a + 4 * many t ≤ 768) : onto G a t (4 * (j + 1)) (tornF F (a + 4 * j) (wordAt t j) 32) := by
 obtain ⟨h1, h2⟩ := h
 have hj4 : 4 * j < t.size := by unfold many at hj; omega
 refine ⟨by rw [tornF_size _ _ _ _ (by omega)]; exact h1, fun i hi => ?_⟩
 rw [tornF_bt _ _ _ _ (by omega) i (by omega), h2 i hi]
 by_cases c : a + 4 * j ≤ i ∧ i < a + 4 * j + 4
 ·rw [if_pos c, if_neg (by omega), tn_all _ (by omega), hG i (by omega) (by omega), clr_blank _ (bt_u8 _ _).1 (bt_u8 _ _).2 8 rfl, wordAt_bt t j _ hj4 (by omega)]
  by_cases c2 : i - a < t.size
  ·rw [if_pos (by omega), if_pos (by omega)]; congr 1; omega
  ·rw [if_neg (by omega), if_neg (by omega)]
 ·rw [if_neg c]
  by_cases c2 : a ≤ i ∧ i < a + 4 * j ∧ i - a < t.size
  ·rw [if_pos c2, if_pos (by omega)]
  ·rw [if_neg c2, if_neg (by omega)]
/-- All steps, one behind the other. -/
def doL (F : ByteArray) (l : List S87) : ByteArray := l.foldl (fun F o => (cutV F o.f0 o.f1 o.f2 96).1) F
theorem doL_cons (F : ByteArray) (o : S87) (l : List S87) : doL F (o :: l) = doL (cutV F o.f0 o.f1 o.f2 96).1 l := rfl
theorem doL_at (F : ByteArray) (l : List S87) (i : Nat) (h : i < l.length) : doL F (l.drop i) = doL (cutV F (rd_T87 l i).f0 (rd_T87 l i).f1 (rd_T87 l i).f2 96).1 (l.drop (i + 1)) := by
 have e : rd_T87 l i = l[i] := by simp [rd_T87, List.getD_eq_getElem?_getD, List.getElem?_eq_getElem h]
 rw [List.drop_eq_getElem_cons h, doL_cons, e]
theorem doL_end (F : ByteArray) (l : List S87) : doL F (l.drop l.length) = F := by rw [List.drop_length]; rfl
theorem onto_all (G : ByteArray) (a : Nat) (t : ByteArray) (ha : a % 4 = 0) (hG : ∀ i, a ≤ i → i < a + 4 * many t → bt G ((i : Nat) : Int) = 255) (hr : a + 4 * many t ≤ 768) (d : Nat) :
  ∀ (j : Nat) (F : ByteArray), j + d = many t → onto G a t (4 * j) F → onto G a t (4 * many t) (doL F ((wl a t (many t)).drop j)) := by
 induction d with
 | zero =>
  intro j F hj h
  obtain rfl : j = many t := by omega
  have := doL_end F (wl a t (many t))
  rw [wl_length] at this
  rw [this]
  exact h
 | succ d ih =>
  intro j F hj h
  have hs := onto_step G a t F j h hG (by omega) hr
  have hjm : j < many t := by omega
  have hj4 : 4 * j < t.size := by unfold many at hjm; omega
  have ok : cutOk F false ((a : Int) + 4 * (j : Int)) (wordAt t j) 96 := by
   refine ⟨h.1, ?_, by omega, by omega⟩
   unfold opMay
   rw [if_neg (by decide), decide_eq_true_eq]
   have := wordAt_size t j hj4
   omega
  have hv : (cutV F false ((a : Int) + 4 * (j : Int)) (wordAt t j) 96).1 = tornF F (a + 4 * j) (wordAt t j) 32 := by
   unfold cutV
   rw [if_pos ok]
   unfold doF
   rw [if_neg (by decide)]
   show tornF F ((a : Int) + 4 * (j : Int)).toNat (wordAt t j) (mn 96 32) = _
   rw [show ((a : Int) + 4 * (j : Int)).toNat = a + 4 * j by omega]
   rfl
  rw [doL_at F _ j (by rw [wl_length]; omega), wl_rd _ _ _ _ (by omega)]
  show onto G a t (4 * many t) (doL (cutV F false ((a : Int) + 4 * (j : Int)) (wordAt t j) 96).1 ((wl a t (many t)).drop (j + 1)))
  rw [hv]
  exact ih (j + 1) _ (by omega) hs
/-- A text laid down at a place that is blank. -/
theorem lay (G : ByteArray) (a : Nat) (t : ByteArray) (hs : G.size = 768) (ha : a % 4 = 0) (hG : ∀ i, a ≤ i → i < a + 4 * many t → bt G ((i : Nat) : Int) = 255) (hr : a + 4 * many t ≤ 768) :
  (doL G (wl a t (many t))).size = 768 ∧ ∀ i : Nat, i < 768 → bt (doL G (wl a t (many t))) i = if a ≤ i ∧ i < a + t.size then bt t ((i - a : Nat) : Int) else bt G i := by
 have h0 : onto G a t (4 * 0) G := ⟨hs, fun i hi => by rw [if_neg (by omega)]⟩
 obtain ⟨h1, h2⟩ := onto_all G a t ha hG hr (many t) 0 G (by omega) h0
 rw [List.drop_zero] at h1 h2
 refine ⟨h1, fun i hi => ?_⟩
 rw [h2 i hi]
 have : t.size ≤ 4 * many t := by unfold many; omega
 by_cases c : a ≤ i ∧ i < a + t.size
 ·rw [if_pos c, if_pos (by omega)]
 ·rw [if_neg c, if_neg (by omega)]
/-- "ab", six times. -/
def ab : ByteArray := ⟨#[97, 98, 97, 98, 97, 98, 97, 98, 97, 98, 97, 98]⟩
def abSum : Int := 3146506012
theorem ab_crc : Ev (fun k => skiffref1_Crc.f k ab) abSum := Ev.of (fun k => skiffref1_Crc.mono ab k) (k := 200) (by kernel_rfl)
theorem ab_many : many ab = 3 := rfl
theorem ab_size : ab.size = 12 := rfl
def held1 : ByteArray := doL (ff 768) (wl (192 : Nat) ab (many ab))
theorem held1_size : held1.size = 768 := (lay (ff 768) 192 ab (ff_size 768) rfl (fun i h1 h2 => ff_bt 768 i (by rw [ab_many] at h2; omega)) (by rw [ab_many]; omega)).1
theorem held1_bt (i : Nat) (hi : i < 768) : bt held1 i = if 192 ≤ i ∧ i < 204 then bt ab ((i - 192 : Nat) : Int) else 255 := by
 have := (lay (ff 768) 192 ab (ff_size 768) rfl (fun i h1 h2 => ff_bt 768 i (by rw [ab_many] at h2; omega)) (by rw [ab_many]; omega)).2 i hi
 rw [ab_size, ff_bt _ _ hi] at this
 exact this
def rec1 : ByteArray := ent 1 0 12 abSum
theorem rec1_size : rec1.size = 24 := ent_size _ _ _ _
theorem rec1_many : many rec1 = 6 := by unfold many; rw [rec1_size]
def heldF : ByteArray := doL held1 (wl (0 : Nat) rec1 (many rec1))
theorem heldF_lay : heldF.size = 768 ∧ ∀ i : Nat, i < 768 → bt heldF i = if 0 ≤ i ∧ i < 0 + rec1.size then bt rec1 ((i - 0 : Nat) : Int) else bt held1 i :=
 lay held1 0 rec1 held1_size rfl (fun i h1 h2 => by rw [rec1_many] at h2; rw [held1_bt i (by omega), if_neg (by omega)]) (by rw [rec1_many]; omega)
theorem heldF_size : heldF.size = 768 := heldF_lay.1
theorem heldF_bt (i : Nat) (hi : i < 768) : bt heldF i = if i < 24 then bt rec1 (i : Int) else if 192 ≤ i ∧ i < 204 then bt ab ((i - 192 : Nat) : Int) else 255 := by
 rw [heldF_lay.2 i hi, rec1_size, held1_bt i hi]
 by_cases c : i < 24
 ·rw [if_pos c, if_pos (by omega)]; rfl
 ·rw [if_neg c, if_neg (by omega)]
theorem pl_size (f : ByteArray) (j : Nat) (hf : f.size = 768) (hj : j < 8) : (pl f j).size = 24 := by unfold pl; rw [ByteArray.size_extract]; omega
theorem pl_bt (f : ByteArray) (j : Nat) (hf : f.size = 768) (hj : j < 8) (i : Nat) (hi : i < 24) : bt (pl f j) (i : Int) = bt f ((24 * j + i : Nat) : Int) := bt_extract f _ _ i (by omega)
theorem pl_blank (f : ByteArray) (j : Nat) (hf : f.size = 768) (hj : j < 8) (h : ∀ i, 24 * j ≤ i → i < 24 * j + 24 → bt f ((i : Nat) : Int) = 255) : pl f j = ff 24 := by
 apply bt_ext
 ·rw [pl_size f j hf hj, ff_size]
 ·intro i hi
  rw [pl_size f j hf hj] at hi
  rw [pl_bt f j hf hj i hi, h _ (by omega) (by omega), ff_bt _ _ hi]
theorem getV_ff : getV (ff 24) = (0, 0, 0, 0, 400) := by
 unfold getV
 rw [if_neg]
 rintro ⟨_, h, _⟩
 have := h 0 (by omega)
 rw [ff_bt 24 (12 + 0) (by omega), ff_bt 24 0 (by omega)] at this
 omega
theorem told_ff (j : Nat) : told j (getV (ff 24)) = [] := by rw [getV_ff]; rfl
/-- No records stand in a flash of which all places are blank. -/
theorem scanL_blank (f : ByteArray) (n : Nat) (h : ∀ j, j < n → pl f j = ff 24) : scanL f n = [] := by
 induction n with
 | zero => rfl
 | succ n ih => rw [scanL, ih (fun j hj => h j (by omega)), h n (by omega), told_ff]; rfl
theorem scanV_held1 : scanV held1 = ([], 0) := by
 unfold scanV
 rw [if_pos held1_size, scanL_blank held1 8 (fun j hj => pl_blank held1 j held1_size hj (fun i h1 h2 => by rw [held1_bt i (by omega), if_neg (by omega)]))]
theorem pl_heldF0 : pl heldF 0 = rec1 := by
 apply bt_ext
 ·rw [pl_size _ _ heldF_size (by omega), rec1_size]
 ·intro i hi
  rw [pl_size _ _ heldF_size (by omega)] at hi
  rw [pl_bt _ _ heldF_size (by omega) i hi, heldF_bt _ (by omega), if_pos (by omega)]
  congr 1; omega
theorem pl_heldF (j : Nat) (h0 : 0 < j) (h : j < 8) : pl heldF j = ff 24 := pl_blank heldF j heldF_size h (fun i h1 h2 => by rw [heldF_bt i (by omega), if_neg (by omega), if_neg (by omega)])
theorem rec1_may : recMay 1 0 12 abSum = true := by decide
def place1 : S25 := ⟨0, ⟨1, 0, 12, abSum⟩⟩
theorem scanL_heldF (n : Nat) (h0 : 0 < n) (h : n ≤ 8) : scanL heldF n = [place1] := by
 induction n with
 | zero => omega
 | succ n ih =>
  rw [scanL]
  by_cases c : n = 0
  ·subst c
   rw [pl_heldF0, rec1, getV_ent _ _ _ _ rec1_may]; rfl
  ·rw [ih (by omega) (by omega), pl_heldF n (by omega) (by omega), told_ff]; rfl
theorem freeV_held1 : freeV held1 0 = (0, true, 0) := by
 unfold freeV
 rw [if_pos ⟨held1_size, by omega, by omega⟩]
 show freeL held1 0 4 = _
 rw [freeL, pl_blank held1 0 held1_size (by omega) (fun i h1 h2 => by rw [held1_bt i (by omega), if_neg (by omega)]), if_pos rfl]; rfl
theorem held1_ab : held1.extract 192 204 = ab := by
 apply bt_ext
 ·rw [ByteArray.size_extract, held1_size, ab_size]; omega
 ·intro i hi
  rw [ByteArray.size_extract, held1_size] at hi
  rw [bt_extract _ _ _ _ (by rw [held1_size]; omega), held1_bt _ (by omega), if_pos (by omega), show 192 + i - 192 = i by omega]
theorem Next_held1 : Ev (fun k => skiffref1_NextSeq.f k held1) (1, 0) := by
 have h := ref_Scan_ev held1
 rw [scanV_held1] at h
 unfold skiffref1_NextSeq.f
 refine Ev.bind h ?_
 exact Ev.one fun k => by
  show skiffref1_NextSeq.l0 (k + 1) [] 0 0 = _
  rw [skiffref1_NextSeq.l0, if_neg (by decide), if_neg (by decide), show wrap64 (0 + 1) = 1 by unfold wrap64; omega]
theorem RecordOf_held1 : Ev (fun k => skiffref1_RecordOf.f k held1 0 12) (1, 0, 12, abSum, 0) := by
 have hb : skiffref1_Base.f 0 = some (192, 0) := by kernel_rfl
 have hs := held1_size
 have e : ((held1.size : Int) == 768) = true := by rw [hs]; rfl
 have w204 : wrap64 (192 + 12) = 204 := by unfold wrap64; omega
 have hx : held1.extract (192 : Int).toNat (204 : Int).toNat = ab := held1_ab
 unfold skiffref1_RecordOf.f skiffref1_FlashMay.f
 simp only [hb, Option.bind_some, e, if_true, upTo_eq]
 refine Ev.step (f := fun k => (skiffref1_NextSeq.f k held1).bind fun bt380 => (if bt380.2 = 0 then ((skiffref1_Crc.f k ab).bind fun t382 => (some (bt380.1, 0, 12, t382, 0))) else (some (0, 0, 0, 0, bt380.2)))) (fun k => ?_) ?_
 ·rw [skiffref1_RecordOf.j0, if_neg (by decide), w204, hx]
  simp only [if_pos (show (0 : Int) ≤ 192 by decide), if_pos (show (192 : Int) ≤ 204 by decide), if_pos (show (204 : Int) ≤ (held1.size : Int) by rw [hs]; decide)]
 ·refine Ev.bind Next_held1 ?_
  simp only [if_true]
  exact Ev.bind ab_crc (Ev.now _)
theorem Active_held1 : Ev (fun k => skiffref1_Active.f k held1) (0, 0, 0, 0, 0, 701) := by
 have h := ref_Scan_ev held1
 rw [scanV_held1] at h
 unfold skiffref1_Active.f
 refine Ev.bind h ?_
 exact Ev.one fun k => by
  show skiffref1_Active.l0 (k + 1) held1 [] (-1) 0 = _
  rw [skiffref1_Active.l0, if_neg (by decide), if_pos (by decide)]
theorem wordsV_rec1 : wordsV 0 rec1 = (wl (0 : Nat) rec1 (many rec1), 0) := by
 unfold wordsV
 rw [if_pos ⟨by omega, by omega, by decide, by rw [rec1_size]; omega⟩]; rfl
theorem wordsV_ab : wordsV 192 ab = (wl (192 : Nat) ab (many ab), 0) := by
 unfold wordsV
 rw [if_pos ⟨by omega, by omega, by decide, by rw [ab_size]; omega⟩]; rfl
theorem Append_held1 : Ev (fun k => skiffref1_Append.f k held1 1 0 12 abSum) (wl (0 : Nat) rec1 (many rec1), 0) := by
 have hp := PutEntry_ev 1 0 12 abSum
 rw [show putV 1 0 12 abSum = (rec1, 0) from by unfold putV; rw [if_pos rec1_may]; rfl] at hp
 have e : ((held1.size : Int) == 768) = true := by rw [held1_size]; rfl
 have hf := ref_Free_ev held1 0
 rw [freeV_held1] at hf
 have hw := ref_Words_ev 0 rec1 (by omega) (by rw [rec1_size]; omega)
 rw [wordsV_rec1] at hw
 unfold skiffref1_Append.f skiffref1_FlashMay.f
 refine Ev.bind hp ?_
 simp only [Option.bind_some, e, if_true]
 refine Ev.step (f := fun k => (skiffref1_Active.f k held1).bind fun bt410 => (if bt410.2.2.2.2.2 = 0 then (skiffref1_Append.j1 k held1 rec1 (wrap64 (Int.tdiv bt410.1 96))) else (skiffref1_Append.j1 k held1 rec1 0))) (fun k => by rw [skiffref1_Append.j0]; rfl) ?_
 refine Ev.bind Active_held1 ?_
 simp only [show ¬ ((701 : Int) = 0) by decide, if_false]
 refine Ev.step (fun k => by rw [skiffref1_Append.j1]) ?_
 refine Ev.bind hf ?_
 simp only [if_true]
 refine Ev.bind hw ?_
 have hl : ([] : List S87).length + (wl (0 : Nat) rec1 (many rec1)).length < 4398046511104 := by rw [wl_length, rec1_many]; decide
 simp only [if_pos hl]
 exact Ev.now _
end Go.Proofs.Ytjadcjkjpkkmkaa.M
/- Plain facts: what container/heap makes of a list of places, and so choose.Active's answer: the greatest of the places that are good; no memory in sight. -/
set_option linter.unnecessarySimpa false
set_option linter.unusedSimpArgs false
set_option linter.unusedVariables false
namespace Go.Proofs.Ytjadcjkjpkkmkaa.M
open Go.RowKit Go.Proofs.YtjadcjkjpkkmkaaW.PrintWords Go.Proofs.YtjadcjkjpkkmkaaW.PrintLast Go.Proofs.YtjadcjkjpkkmkaaW.PrintMore Go.Proofs.Ytjadcjkjpkkmkaa.Hand Go.Proofs.Ytjadcjkjpkkmkaa.PSc
/-- a stands ahead of b, or they are alike: the greater number, of these the later place. -/
def ge (a b : S25) : Prop := b.f1.f0 < a.f1.f0 ∨ (b.f1.f0 = a.f1.f0 ∧ b.f0 ≤ a.f0)
theorem lessB_iff (a b : S25) : lessB a b = true ↔ ¬ ge b a := by
 unfold lessB ge
 by_cases h : a.f1.f0 = b.f1.f0
 ·rw [if_neg (by simpa using h), decide_eq_true_eq]; omega
 ·rw [if_pos (by simpa using h), decide_eq_true_eq]; omega
theorem ge_refl (a : S25) : ge a a := by unfold ge; omega
theorem ge_trans {a b c : S25} (h1 : ge a b) (h2 : ge b c) : ge a c := by unfold ge at *; omega
theorem ge_total (a b : S25) : ge a b ∨ ge b a := by unfold ge; omega
theorem ge_less {a b : S25} (h : lessB a b = true) : ge a b := by
 have := (lessB_iff a b).1 h
 rcases ge_total a b with h1 | h1
 ·exact h1
 ·exact absurd h1 this
theorem ge_not {a b : S25} (h : ¬ lessB a b = true) : ge b a := by
 rcases Classical.em (ge b a) with h1 | h1
 ·exact h1
 ·exact absurd ((lessB_iff a b).2 h1) h
def g (xs : List S25) (i : Nat) : S25 := rd_T25 xs (i : Int)
theorem g_eq (xs : List S25) (i : Nat) : g xs i = xs.getD i z25 := by simp [g, rd_T25]
theorem g_at (xs : List S25) (i : Nat) (h : i < xs.length) : g xs i = xs[i] := by rw [g_eq, List.getD_eq_getElem?_getD, List.getElem?_eq_getElem h]; rfl
theorem g_swap (xs : List S25) (i j t : Nat) (hi : i < xs.length) (hj : j < xs.length) : g (swapL xs i j) t = if t = j then g xs i else if t = i then g xs j else g xs t := by
 have e : ∀ q : Nat, rd_T25 xs (q : Int) = g xs q := fun _ => rfl
 unfold swapL
 rw [e, e, g_eq, List.getD_eq_getElem?_getD, List.getElem?_set, List.getElem?_set]
 by_cases c1 : t = j
 ·subst c1; simp [hj]
 ·rw [if_neg (fun x => c1 x.symm), if_neg c1]
  by_cases c2 : t = i
  ·subst c2; simp [hi]
  ·rw [if_neg (fun x => c2 x.symm), if_neg c2, g_eq, List.getD_eq_getElem?_getD]
/-- x stands among the first n. -/
def has (xs : List S25) (n : Nat) (x : S25) : Prop := ∃ i, i < n ∧ g xs i = x
theorem has_swap (xs : List S25) (i j n : Nat) (hi : i < n) (hj : j < n) (hn : n ≤ xs.length) (x : S25) : has (swapL xs i j) n x ↔ has xs n x := by
 constructor
 ·rintro ⟨t, ht, h⟩
  rw [g_swap xs i j t (by omega) (by omega)] at h
  by_cases c1 : t = j
  ·rw [if_pos c1] at h; exact ⟨i, hi, h⟩
  ·rw [if_neg c1] at h
   by_cases c2 : t = i
   ·rw [if_pos c2] at h; exact ⟨j, hj, h⟩
   ·rw [if_neg c2] at h; exact ⟨t, ht, h⟩
 ·rintro ⟨t, ht, h⟩
  by_cases c1 : t = j
  ·by_cases c2 : i = j
   ·exact ⟨t, ht, by rw [g_swap xs i j t (by omega) (by omega), if_pos c1, c2, ← c1]; exact h⟩
   ·exact ⟨i, hi, by rw [g_swap xs i j i (by omega) (by omega), if_neg c2, if_pos rfl, ← c1]; exact h⟩
  ·by_cases c2 : t = i
   ·exact ⟨j, hj, by rw [g_swap xs i j j (by omega) (by omega), if_pos rfl, ← c2]; exact h⟩
   ·exact ⟨t, ht, by rw [g_swap xs i j t (by omega) (by omega), if_neg c1, if_neg c2]; exact h⟩
def Kid (p c : Nat) : Prop := c = 2 * p + 1 ∨ c = 2 * p + 2
def Heap (lo n : Nat) (xs : List S25) : Prop := ∀ p c, lo ≤ p → Kid p c → c < n → ge (g xs p) (g xs c)
/-- A heap but at place i, whose value is to go down. -/
def Hole (lo n i : Nat) (xs : List S25) : Prop := (∀ p c, lo ≤ p → p ≠ i → Kid p c → c < n → ge (g xs p) (g xs c)) ∧ (∀ p c, lo ≤ p → Kid p i → Kid i c → c < n → ge (g xs p) (g xs c))
theorem hole_end {lo n i : Nat} {xs : List S25} (h : Hole lo n i xs) (h2 : ∀ c, Kid i c → c < n → ge (g xs i) (g xs c)) : Heap lo n xs := by
 intro p c hp hk hc
 by_cases e : p = i
 ·subst e; exact h2 c hk hc
 ·exact h.1 p c hp e hk hc
theorem hole_down {lo n i c : Nat} {xs : List S25} (h : Hole lo n i xs) (hlo : lo ≤ i) (hk : Kid i c) (hc : c < n) (hn : n ≤ xs.length) (h1 : ge (g xs c) (g xs i)) (h2 : ∀ d, Kid i d → d < n → ge (g xs c) (g xs d)) : Hole lo n c (swapL xs i c) := by
 have hic : i < c := by unfold Kid at hk; omega
 have gs := fun t => g_swap xs i c t (by omega) (by omega)
 constructor
 ·intro p d hp hpc hpd hd
  rw [gs p, gs d, if_neg hpc]
  by_cases e1 : p = i
  ·subst e1
   rw [if_pos rfl]
   by_cases e2 : d = c
   ·rw [if_pos e2]; exact h1
   ·rw [if_neg e2, if_neg (by unfold Kid at hpd; omega)]; exact h2 d hpd hd
  ·rw [if_neg e1]
   have e2 : d ≠ c := by unfold Kid at *; omega
   rw [if_neg e2]
   by_cases e3 : d = i
   ·rw [if_pos e3]; subst e3; exact h.2 p c hp hpd hk hc
   ·rw [if_neg e3]; exact h.1 p d hp e1 hpd hd
 ·intro p d hp hpc hcd hd
  obtain rfl : p = i := by unfold Kid at *; omega
  rw [gs p, gs d, if_neg (by omega), if_pos rfl, if_neg (by unfold Kid at hcd; omega), if_neg (by unfold Kid at *; omega)]
  exact h.1 c d (by omega) (by omega) hcd hd
/-- What 'down' tells of its answer. -/
def DownOk (lo n : Nat) (xs ys : List S25) : Prop := ys.length = xs.length ∧ Heap lo n ys ∧ (∀ j, n ≤ j → g ys j = g xs j) ∧ ∀ x, has ys n x ↔ has xs n x
theorem dn_ok (lo n : Nat) : ∀ (k i : Nat) (xs : List S25), n - i < k → n ≤ xs.length → lo ≤ i → Hole lo n i xs → ∃ ys, dn k xs i n = some ys ∧ DownOk lo n xs ys
 | 0, _, _, h, _, _, _ => absurd h (by omega)
 | k + 1, i, xs, hk, hn, hlo, h => by
  have stop : (∀ c, Kid i c → c < n → ge (g xs i) (g xs c)) → DownOk lo n xs xs := fun h2 => ⟨rfl, hole_end h h2, fun _ _ => rfl, fun _ => Iff.rfl⟩
  have down : ∀ c, Kid i c → c < n → ge (g xs c) (g xs i) → (∀ d, Kid i d → d < n → ge (g xs c) (g xs d)) → ∃ ys, dn k (swapL xs i c) c n = some ys ∧ DownOk lo n xs ys := by
   intro c hkc hc h1 h2
   have hic : i < c := by unfold Kid at hkc; omega
   obtain ⟨ys, e, l, hh, far, mem⟩ := dn_ok lo n k c (swapL xs i c) (by omega) (by rw [swapL_length]; exact hn) (by omega) (hole_down h hlo hkc hc hn h1 h2)
   refine ⟨ys, e, by rw [l, swapL_length], hh, fun j hj => ?_, fun x => (mem x).trans (has_swap xs i c n (by omega) hc hn x)⟩
   rw [far j hj, g_swap xs i c j (by omega) (by omega), if_neg (by omega), if_neg (by omega)]
  rw [dn]
  by_cases c1 : 2 * i + 1 < n
  ·rw [if_pos c1]
   by_cases c2 : 2 * i + 2 < n
   ·rw [if_pos c2]
    by_cases c3 : lessB (rd_T25 xs ((2 * i + 2 : Nat) : Int)) (rd_T25 xs ((2 * i + 1 : Nat) : Int)) = true
    ·rw [if_pos c3]
     have g3 : ge (g xs (2 * i + 2)) (g xs (2 * i + 1)) := ge_less c3
     by_cases c4 : lessB (rd_T25 xs ((2 * i + 2 : Nat) : Int)) (rd_T25 xs (i : Int)) = true
     ·rw [if_pos c4]
      refine down _ (Or.inr rfl) c2 (ge_less c4) fun d hd _ => ?_
      rcases hd with rfl | rfl
      ·exact g3
      ·exact ge_refl _
     ·rw [if_neg c4]
      refine ⟨xs, rfl, stop fun c hc _ => ?_⟩
      have g4 : ge (g xs i) (g xs (2 * i + 2)) := ge_not c4
      rcases hc with rfl | rfl
      ·exact ge_trans g4 g3
      ·exact g4
    ·rw [if_neg c3]
     have g3 : ge (g xs (2 * i + 1)) (g xs (2 * i + 2)) := ge_not c3
     by_cases c4 : lessB (rd_T25 xs ((2 * i + 1 : Nat) : Int)) (rd_T25 xs (i : Int)) = true
     ·rw [if_pos c4]
      refine down _ (Or.inl rfl) c1 (ge_less c4) fun d hd _ => ?_
      rcases hd with rfl | rfl
      ·exact ge_refl _
      ·exact g3
     ·rw [if_neg c4]
      refine ⟨xs, rfl, stop fun c hc _ => ?_⟩
      have g4 : ge (g xs i) (g xs (2 * i + 1)) := ge_not c4
      rcases hc with rfl | rfl
      ·exact g4
      ·exact ge_trans g4 g3
   ·rw [if_neg c2]
    by_cases c4 : lessB (rd_T25 xs ((2 * i + 1 : Nat) : Int)) (rd_T25 xs (i : Int)) = true
    ·rw [if_pos c4]
     refine down _ (Or.inl rfl) c1 (ge_less c4) fun d hd hdn => ?_
     rcases hd with rfl | rfl
     ·exact ge_refl _
     ·exact absurd hdn c2
    ·rw [if_neg c4]
     refine ⟨xs, rfl, stop fun c hc hcn => ?_⟩
     rcases hc with rfl | rfl
     ·exact ge_not c4
     ·exact absurd hcn c2
  ·rw [if_neg c1]
   exact ⟨xs, rfl, stop fun c hc hcn => by unfold Kid at hc; omega⟩
theorem down_heap {lo n : Nat} {xs : List S25} (h : Heap (lo + 1) n xs) : Hole lo n lo xs :=
 ⟨fun p c hp hne hk hc => h p c (by omega) hk hc, fun p c hp hk _ _ => by unfold Kid at hk; omega⟩
theorem ini_ok (n : Nat) : ∀ (m k : Nat) (xs : List S25), n < k → n ≤ xs.length → Heap m n xs → ∃ ys, ini k m xs n = some ys ∧ DownOk 0 n xs ys
 | 0, k, xs, _, _, h => ⟨xs, rfl, rfl, h, fun _ _ => rfl, fun _ => Iff.rfl⟩
 | m + 1, k, xs, hk, hn, h => by
  obtain ⟨ys, e, l, hh, far, mem⟩ := dn_ok m n k m xs (by omega) hn (Nat.le_refl _) (down_heap h)
  obtain ⟨zs, e2, l2, hh2, far2, mem2⟩ := ini_ok n m k ys hk (by omega) hh
  exact ⟨zs, by rw [ini, e]; exact e2, by omega, hh2, fun j hj => by rw [far2 j hj, far j hj], fun x => (mem2 x).trans (mem x)⟩
theorem heap_half (n : Nat) (xs : List S25) : Heap (n / 2) n xs := fun p c hp hk hc => by unfold Kid at hk; omega
/-- The first one is the greatest. -/
theorem heap_top {n : Nat} {xs : List S25} (h : Heap 0 n xs) : ∀ j, j < n → ge (g xs 0) (g xs j) := by
 intro j
 induction j using Nat.strongRecOn with
 | _ j ih =>
  intro hj
  by_cases c : j = 0
  ·subst c; exact ge_refl _
  ·exact ge_trans (ih ((j - 1) / 2) (by omega) (by omega)) (h ((j - 1) / 2) j (by omega) (by unfold Kid; omega) hj)
theorem g_take (xs : List S25) (m i : Nat) (h : i < m) : g (xs.take m) i = g xs i := by
 rw [g_eq, g_eq, List.getD_eq_getElem?_getD, List.getD_eq_getElem?_getD, List.getElem?_take_of_lt h]
theorem pop_ok (m k : Nat) (xs : List S25) (hk : m < k) (hl : xs.length = m + 1) (h : Heap 0 (m + 1) xs) :
  ∃ ys, popF k xs m = some ys ∧ g ys m = g xs 0 ∧ (ys.take m).length = m ∧ Heap 0 m (ys.take m) ∧ (∀ x, has xs (m + 1) x ↔ has (ys.take m) m x ∨ x = g xs 0) := by
 have hs := fun t => g_swap xs 0 m t (by omega) (by omega)
 have hole : Hole 0 m 0 (swapL xs 0 m) := by
  constructor
  ·intro p c _ hp hk hc
   rw [hs p, hs c, if_neg (by unfold Kid at hk; omega), if_neg hp, if_neg (by omega), if_neg (by unfold Kid at hk; omega)]
   exact h p c (by omega) hk (by omega)
  ·intro p c _ hk; unfold Kid at hk; omega
 obtain ⟨ys, e, l, hh, far, mem⟩ := dn_ok 0 m k 0 (swapL xs 0 m) (by omega) (by rw [swapL_length]; omega) (Nat.le_refl _) hole
 rw [swapL_length] at l
 have top : g ys m = g xs 0 := by rw [far m (Nat.le_refl _), hs m, if_pos rfl]
 refine ⟨ys, e, top, by rw [List.length_take]; omega, ?_, fun x => ?_⟩
 ·intro p c hp hk hc
  rw [g_take _ _ _ (by unfold Kid at hk; omega), g_take _ _ _ hc]
  exact hh p c hp hk hc
 ·have e1 : has (ys.take m) m x ↔ has (swapL xs 0 m) m x := by
   refine Iff.trans ?_ (mem x)
   constructor
   ·rintro ⟨i, hi, hx⟩; exact ⟨i, hi, by rw [← g_take ys m i hi]; exact hx⟩
   ·rintro ⟨i, hi, hx⟩; exact ⟨i, hi, by rw [g_take ys m i hi]; exact hx⟩
  rw [e1, ← has_swap xs 0 m (m + 1) (by omega) (by omega) (by omega) x]
  constructor
  ·rintro ⟨i, hi, hx⟩
   by_cases c : i = m
   ·subst c; rw [hs i, if_pos rfl] at hx; exact Or.inr hx.symm
   ·exact Or.inl ⟨i, by omega, hx⟩
  ·rintro (⟨i, hi, hx⟩ | rfl)
   ·exact ⟨i, by omega, hx⟩
   ·exact ⟨m, by omega, by rw [hs m, if_pos rfl]⟩
/-- The answer of Active, told of a list: the greatest of those that are good. -/
def Best (good : S25 → Bool) (P : S25 → Prop) (r : Option S25) : Prop :=
 (∃ x, r = some x ∧ P x ∧ good x = true ∧ ∀ y, P y → good y = true → ge x y) ∨ (r = none ∧ ∀ y, P y → good y = false)
def ans : Option S25 → Int × Int × Int × Int × Int × Int
 | some x => (x.f0, x.f1.f0, x.f1.f1, x.f1.f2, x.f1.f3, 0)
 | none => (0, 0, 0, 0, 0, 701)
theorem act_ok (f : ByteArray) (good : S25 → Bool) (hg : ∀ x : S25, ∃ e, image_Good.f f x.f1.f0 x.f1.f1 x.f1.f2 x.f1.f3 = some (good x, e)) :
  ∀ (m k : Nat) (xs : List S25), m < k → xs.length = m → Heap 0 m xs → ∃ r, actL k f m xs = some (ans r) ∧ Best good (has xs m) r
 | 0, k, xs, _, _, _ => ⟨none, rfl, Or.inr ⟨rfl, fun y ⟨i, hi, _⟩ => absurd hi (by omega)⟩⟩
 | m + 1, k, xs, hk, hl, h => by
  obtain ⟨ys, e, top, l, hh, mem⟩ := pop_ok m k xs (by omega) hl h
  obtain ⟨er, he⟩ := hg (g xs 0)
  have he2 : image_Good.f f (rd_T25 ys m).f1.f0 (rd_T25 ys m).f1.f1 (rd_T25 ys m).f1.f2 (rd_T25 ys m).f1.f3 = some (good (g xs 0), er) := by
   rw [show rd_T25 ys (m : Int) = g xs 0 from top]; exact he
  rw [actL, e, Option.bind_some, he2, Option.bind_some]
  rw [show rd_T25 ys (m : Int) = g xs 0 from top]
  by_cases c : good (g xs 0) = true
  ·rw [if_pos c]
   refine ⟨some (g xs 0), rfl, Or.inl ⟨_, rfl, ⟨0, by omega, rfl⟩, c, fun y ⟨i, hi, hy⟩ _ => ?_⟩⟩
   rw [← hy]; exact heap_top h i hi
  ·rw [if_neg c]
   obtain ⟨r, e3, hb⟩ := act_ok f good hg m k (ys.take m) (by omega) l hh
   refine ⟨r, e3, ?_⟩
   rcases hb with ⟨x, hr, hx, hgx, hmax⟩ | ⟨hr, hno⟩
   ·refine Or.inl ⟨x, hr, (mem x).2 (Or.inl hx), hgx, fun y hy hgy => ?_⟩
    rcases (mem y).1 hy with h1 | rfl
    ·exact hmax y h1 hgy
    ·exact absurd hgy c
   ·refine Or.inr ⟨hr, fun y hy => ?_⟩
    rcases (mem y).1 hy with h1 | rfl
    ·exact hno y h1
    ·simpa using c
theorem has_mem (xs : List S25) (x : S25) : has xs xs.length x ↔ x ∈ xs := by
 constructor
 ·rintro ⟨i, hi, hx⟩; rw [← hx, g_at xs i hi]; exact List.getElem_mem hi
 ·intro h
  obtain ⟨i, hi, e⟩ := List.getElem_of_mem h
  exact ⟨i, hi, by rw [g_at xs i hi]; exact e⟩
theorem Best_of_iff {good : S25 → Bool} {P Q : S25 → Prop} {r : Option S25} (h : Best good P r) (e : ∀ x, Q x ↔ P x) : Best good Q r := by
 rcases h with ⟨x, hr, hx, hgx, hmax⟩ | ⟨hr, hno⟩
 ·exact Or.inl ⟨x, hr, (e x).2 hx, hgx, fun y hy => hmax y ((e y).1 hy)⟩
 ·exact Or.inr ⟨hr, fun y hy => hno y ((e y).1 hy)⟩
/-- One answer alone is right, where no two places are one. -/
theorem Best_one {good : S25 → Bool} {P : S25 → Prop} {r s : Option S25} (hP : ∀ x y, P x → P y → x.f0 = y.f0 → x = y) (h1 : Best good P r) (h2 : Best good P s) : r = s := by
 rcases h1 with ⟨x, hr, hx, hgx, hmx⟩ | ⟨hr, hn⟩ <;> rcases h2 with ⟨y, hs, hy, hgy, hmy⟩ | ⟨hs, hn2⟩
 ·have a := hmx y hy hgy
  have b := hmy x hx hgx
  have : x.f0 = y.f0 := by unfold ge at a b; omega
  rw [hr, hs, hP x y hx hy this]
 ·rw [hn2 x hx] at hgx; cases hgx
 ·rw [hn y hy] at hgy; cases hgy
 ·rw [hr, hs]
/-- choose.Active behind the scan. -/
theorem queue_ok (f : ByteArray) (good : S25 → Bool) (hg : ∀ x : S25, ∃ e, image_Good.f f x.f1.f0 x.f1.f1 x.f1.f2 x.f1.f3 = some (good x, e)) (xs : List S25) (k : Nat) (hk : xs.length < k) :
  ∃ r, ((ini k (xs.length / 2) xs xs.length).bind fun ys => actL k f xs.length ys) = some (ans r) ∧ Best good (fun x => x ∈ xs) r := by
 obtain ⟨ys, e, l, hh, _, mem⟩ := ini_ok xs.length (xs.length / 2) k xs hk (Nat.le_refl _) (heap_half _ xs)
 obtain ⟨r, e2, hb⟩ := act_ok f good hg xs.length k ys hk l hh
 refine ⟨r, by rw [e]; exact e2, Best_of_iff hb fun x => ?_⟩
 rw [mem x, has_mem]
end Go.Proofs.Ytjadcjkjpkkmkaa.M
/- Plain facts: the sum of a text, by the program and by the reference: the same; no memory in sight. -/
set_option linter.unnecessarySimpa false
set_option linter.unusedSimpArgs false
set_option linter.unusedVariables false
namespace Go.Proofs.Ytjadcjkjpkkmkaa.M
open Go.RowKit Go.Proofs.YtjadcjkjpkkmkaaW.PrintWords Go.Proofs.YtjadcjkjpkkmkaaW.PrintLast Go.Proofs.YtjadcjkjpkkmkaaW.PrintMore Go.Proofs.Ytjadcjkjpkkmkaa.Hand Go.Proofs.Ytjadcjkjpkkmkaa.PAll
abbrev B4 (x : Int) : BitVec 32 := BitVec.ofInt 32 x
theorem wrap32 (b : BitVec 32) : IntKind.u32.wrap (b.toNat : Int) = b.toNat := by
 rw [IntKind.wrap_u32]; have := b.isLt; omega
theorem bits_and_u32 (x y : Int) : Go.bits .and .u32 x y = ((B4 x &&& B4 y).toNat : Int) := wrap32 _
theorem and1_u32 (x : Int) : Go.bits .and .u32 x 1 = 0 ∨ Go.bits .and .u32 x 1 = 1 := by
 rw [bits_and_u32]
 have : (B4 x &&& B4 1).toNat = (B4 x).toNat % 2 := by rw [BitVec.toNat_and, show (B4 1).toNat = 1 from rfl, Nat.and_one_is_mod]
 rw [this]; omega
/-- One bit goes out of the sum. -/
def bitS (x : Int) : Int := if Go.bits .and .u32 x 1 = 0 then x / 2 else Go.bits .xor .u32 (x / 2) 3988292384
def itS : Nat → Int → Int
 | 0, x => x
 | n + 1, x => itS n (bitS x)
theorem stepl (d : Nat) : ∀ (k i : Nat) (x : Int), i + d = 8 → d < k → PBase.crc_step.l0 k x (i : Int) = some (itS d x) := by
 induction d with
 | zero =>
  intro k i x hi hk
  obtain ⟨k, rfl⟩ : ∃ m, k = m + 1 := ⟨k - 1, by omega⟩
  rw [PBase.crc_step.l0, if_neg (by omega)]; rfl
 | succ d ih =>
  intro k i x hi hk
  obtain ⟨k, rfl⟩ : ∃ m, k = m + 1 := ⟨k - 1, by omega⟩
  have hw : wrap64 ((i : Int) + 1) = ((i + 1 : Nat) : Int) := by unfold wrap64; omega
  rw [PBase.crc_step.l0, if_pos (by omega), hw, itS, bitS]
  by_cases c : Go.bits .and .u32 x 1 = 0
  ·rw [if_pos c, if_pos c]; exact ih k (i + 1) _ (by omega) (by omega)
  ·rw [if_neg c, if_neg c]; exact ih k (i + 1) _ (by omega) (by omega)
theorem crcStep_it (x b : Int) : crcStep x b = itS 8 (Go.bits .xor .u32 x (b % 4294967296)) := by
 have h := stepl 8 9 0 (Go.bits .xor .u32 x (b % 4294967296)) (by omega) (by omega)
 have h2 : PBase.crc_step.f 9 x b = some (itS 8 (Go.bits .xor .u32 x (b % 4294967296))) := h
 unfold crcStep
 rw [h2]; rfl
def crcV (s : ByteArray) : Int := wrap64 (Go.bits .xor .u32 IntKind.u32.max (crcL (bytesOf s)))
theorem crc_Sum_eq (s : ByteArray) (h : s.size ≤ 140737488355328) : crc_Sum.f s = some (crcV s) := by
 unfold crc_Sum.f; rw [if_pos h]; rfl
theorem Crc_bits (s : ByteArray) (j : Int) (r : Int) (d : Nat) : ∀ (i : Nat) (x : Int), i + d = 8 → Ev (fun k => skiffref1_Crc.l0 k s (itS d x) (wrap64 (j + 1))) r → Ev (fun k => skiffref1_Crc.l1 k s x j (i : Int)) r := by
 induction d with
 | zero =>
  intro i x hi h
  exact Ev.step (fun k => by rw [skiffref1_Crc.l1, if_neg (by omega)]; rfl) h
 | succ d ih =>
  intro i x hi h
  have hw : wrap64 ((i : Int) + 1) = ((i + 1 : Nat) : Int) := by unfold wrap64; omega
  have h1 := ih (i + 1) (bitS x) (by omega) h
  refine Ev.step (fun k => ?_) h1
  rw [skiffref1_Crc.l1, if_pos (by omega), hw, bitS]
  rcases and1_u32 x with c | c
  ·rw [if_neg (by omega), if_pos c]
  ·rw [if_pos c, if_neg (by omega)]
theorem Crc_go (s : ByteArray) (hs : s.size ≤ 140737488355328) (d : Nat) : ∀ (j : Nat) (x : Int), j + d = s.size → Ev (fun k => skiffref1_Crc.l0 k s x (j : Int)) (wrap64 (Go.bits .xor .u32 IntKind.u32.max (((bytesOf s).drop j).foldl crcStep x))) := by
 induction d with
 | zero =>
  intro j x hj
  refine Ev.one fun k => ?_
  rw [skiffref1_Crc.l0, if_neg (by omega), List.drop_eq_nil_of_le (by rw [bytesOf_length]; omega)]; rfl
 | succ d ih =>
  intro j x hj
  have hl : j < (bytesOf s).length := by rw [bytesOf_length]; omega
  have hw : wrap64 ((j : Int) + 1) = ((j + 1 : Nat) : Int) := by unfold wrap64; omega
  have e : (bytesOf s)[j] = bt s (j : Int) := by
   have := rd_bytesOf s (j : Int)
   rw [← this]; simp [rd, List.getElem?_eq_getElem hl]
  have h1 := ih (j + 1) (crcStep x (bt s (j : Int))) (by omega)
  rw [List.drop_eq_getElem_cons hl, List.foldl_cons, e]
  refine Ev.step (fun k => by rw [skiffref1_Crc.l0, if_pos (by omega), if_pos (by omega)]) ?_
  refine Crc_bits s (j : Int) _ 8 0 _ rfl ?_
  rw [hw, ← crcStep_it]
  exact h1
theorem Crc_ev (s : ByteArray) (hs : s.size ≤ 140737488355328) : Ev (fun k => skiffref1_Crc.f k s) (crcV s) := by
 unfold skiffref1_Crc.f crcV crcL
 exact Crc_go s hs s.size 0 4294967295 (by omega)
end Go.Proofs.Ytjadcjkjpkkmkaa.M
/- Plain facts: which record is active, by the program and by the reference: the same; no memory in sight. -/
set_option linter.unnecessarySimpa false
set_option linter.unusedSimpArgs false
set_option linter.unusedVariables false
namespace Go.Proofs.Ytjadcjkjpkkmkaa.M
open Go.RowKit Go.Proofs.YtjadcjkjpkkmkaaW.PrintWords Go.Proofs.YtjadcjkjpkkmkaaW.PrintLast Go.Proofs.YtjadcjkjpkkmkaaW.PrintMore Go.Proofs.Ytjadcjkjpkkmkaa.Hand Go.Proofs.Ytjadcjkjpkkmkaa.PAll
/-- The bytes of a slot, so many. -/
def imgF (f : ByteArray) (sl sz : Int) : ByteArray := f.extract (192 + 288 * sl).toNat (192 + 288 * sl + sz).toNat
def goodV (f : ByteArray) (q sl sz sm : Int) : Bool × Int := if f.size = 768 ∧ recMay q sl sz sm = true then (crcV (imgF f sl sz) == sm, 0) else (false, 600)
def ofV (f : ByteArray) (q sl sz sm : Int) : ByteArray × Int := if f.size = 768 ∧ recMay q sl sz sm = true then (imgF f sl sz, 0) else (⟨#[]⟩, 600)
theorem recMay_bounds {q sl sz sm : Int} (h : recMay q sl sz sm = true) : 1 ≤ q ∧ q ≤ 1048576 ∧ 0 ≤ sl ∧ sl ≤ 1 ∧ 1 ≤ sz ∧ sz ≤ 288 ∧ 0 ≤ sm ∧ sm ≤ 4294967295 := of_decide_eq_true h
theorem imgF_size (f : ByteArray) (sl sz : Int) : (imgF f sl sz).size ≤ f.size := by unfold imgF; rw [ByteArray.size_extract]; omega
theorem base_eq {sl : Int} (h0 : 0 ≤ sl) (h1 : sl ≤ 1) : wrap64 ((wrap64 (2 + (wrap64 (3 * sl)))) * 96) = 192 + 288 * sl := by
 rw [wrap_id (x := 3 * sl) (by omega), wrap_id (x := 2 + 3 * sl) (by omega), wrap_id (by omega)]; omega
theorem image_Of_eq (f : ByteArray) (q sl sz sm : Int) : PSc.image_Of.f f q sl sz sm = some (ofV f q sl sz sm) := by
 unfold PSc.image_Of.f PSc.nor_May.f ofV
 simp only [Option.bind_some, May_eq]
 by_cases h : f.size = 768
 ·have e : ((f.size : Int) == 768) = true := by simp; omega
  simp only [e, if_true]
  by_cases hr : recMay q sl sz sm = true
  ·obtain ⟨_, _, s0, s1, z0, z1, _, _⟩ := recMay_bounds hr
   simp only [hr, if_true]
   unfold PSc.image_Base.f PSc.entry_Slot.f PSc.image_Sector.f PSc.journal_Begin.f
   simp only [in_eq, Option.bind_some]
   rw [if_pos (by simpa using ⟨s0, s1⟩), if_pos ⟨h, trivial⟩]
   simp only [Option.bind_some, base_eq s0 s1, wrap_id (x := 192 + 288 * sl + sz) (by omega)]
   rw [if_pos (by omega), if_pos (by omega), if_pos (by omega)]; rfl
  ·rw [if_neg hr, if_neg (fun x => hr x.2)]
 ·have e : ((f.size : Int) == 768) = false := by simp; omega
  rw [e, if_neg (by decide), if_neg (fun x => h x.1)]
theorem image_Good_eq (f : ByteArray) (q sl sz sm : Int) : PSc.image_Good.f f q sl sz sm = some (goodV f q sl sz sm) := by
 unfold PSc.image_Good.f
 rw [image_Of_eq, Option.bind_some]
 unfold ofV goodV
 by_cases h : f.size = 768 ∧ recMay q sl sz sm = true
 ·have := imgF_size f sl sz
  rw [if_pos h, if_pos h]
  simp only [if_true]
  rw [crc_Sum_eq _ (by omega)]; rfl
 ·rw [if_neg h, if_neg h]; rfl
theorem ref_Of_eq (f : ByteArray) (q sl sz sm : Int) : skiffref1_ImageOf.f f q sl sz sm = some (ofV f q sl sz sm) := by
 unfold skiffref1_ImageOf.f skiffref1_FlashMay.f ofV
 simp only [Option.bind_some, RecordMay_eq]
 by_cases h : f.size = 768
 ·have e : ((f.size : Int) == 768) = true := by simp; omega
  simp only [e, if_true]
  by_cases hr : recMay q sl sz sm = true
  ·obtain ⟨_, _, s0, s1, z0, z1, _, _⟩ := recMay_bounds hr
   simp only [hr, if_true]
   unfold skiffref1_Base.f
   simp only [upTo_eq, Option.bind_some]
   rw [if_pos (by simpa using ⟨s0, s1⟩), if_pos ⟨h, trivial⟩]
   simp only [Option.bind_some, base_eq s0 s1, wrap_id (x := 192 + 288 * sl + sz) (by omega)]
   rw [if_pos (by omega), if_pos (by omega), if_pos (by omega)]; rfl
  ·rw [if_neg hr, if_neg (fun x => hr x.2)]
 ·have e : ((f.size : Int) == 768) = false := by simp; omega
  rw [e, if_neg (by decide), if_neg (fun x => h x.1)]
theorem ref_Good_ev (f : ByteArray) (q sl sz sm : Int) : Ev (fun k => skiffref1_Good.f k f q sl sz sm) (goodV f q sl sz sm) := by
 unfold skiffref1_Good.f
 rw [ref_Of_eq]
 simp only [Option.bind_some]
 unfold ofV goodV
 by_cases h : f.size = 768 ∧ recMay q sl sz sm = true
 ·have := imgF_size f sl sz
  simp only [if_pos h, if_true]
  exact Ev.bind (Crc_ev _ (by omega)) (Ev.now _)
 ·simp only [if_neg h]
  exact Ev.now _
/-- Is a place's record good? -/
def good (f : ByteArray) (x : S25) : Bool := (goodV f x.f1.f0 x.f1.f1 x.f1.f2 x.f1.f3).1
def goodSc (f : ByteArray) (x : PSc.S25) : Bool := (goodV f x.f1.f0 x.f1.f1 x.f1.f2 x.f1.f3).1
def pickS (p : S25 → Bool) (b : Option S25) (x : S25) : Option S25 := if p x = true then (match b with | none => some x | some y => if x.f1.f0 ≥ y.f1.f0 then some x else some y) else b
/-- The greatest of those that are good; of these the last one. -/
def pick (p : S25 → Bool) (l : List S25) : Option S25 := l.foldl (pickS p) none
def ansV : Option S25 → Int × Int × Int × Int × Int × Int
 | some x => (x.f0, x.f1.f0, x.f1.f1, x.f1.f2, x.f1.f3, 0)
 | none => (0, 0, 0, 0, 0, 701)
def act (f : ByteArray) : Option S25 := pick (good f) (scanL f 8)
def actV (f : ByteArray) : Int × Int × Int × Int × Int × Int := if f.size = 768 then ansV (act f) else (0, 0, 0, 0, 0, 700)
/-- What pick gives: as Best, without the heap. -/
def Top (p : S25 → Bool) (P : S25 → Prop) (r : Option S25) : Prop :=
 (∃ x, r = some x ∧ P x ∧ p x = true ∧ ∀ y, P y → p y = true → y.f1.f0 < x.f1.f0 ∨ (y.f1.f0 = x.f1.f0 ∧ y.f0 ≤ x.f0)) ∨ (r = none ∧ ∀ y, P y → p y = false)
theorem Top_snoc {p : S25 → Bool} {l : List S25} {b : Option S25} {x : S25} (h : Top p (fun y => y ∈ l) b) (hx : ∀ y, y ∈ l → y.f0 ≤ x.f0) : Top p (fun y => y ∈ l ++ [x]) (pickS p b x) := by
 have mem : ∀ y, y ∈ l ++ [x] ↔ y ∈ l ∨ y = x := fun y => by simp
 unfold pickS
 by_cases c : p x = true
 ·rw [if_pos c]
  rcases h with ⟨z, rfl, hz, hgz, hmax⟩ | ⟨rfl, hno⟩
  ·show Top p _ (if x.f1.f0 ≥ z.f1.f0 then some x else some z)
   by_cases c2 : x.f1.f0 ≥ z.f1.f0
   ·rw [if_pos c2]
    refine Or.inl ⟨x, rfl, (mem x).2 (Or.inr rfl), c, fun y hy hgy => ?_⟩
    rcases (mem y).1 hy with h1 | rfl
    ·have := hmax y h1 hgy; have := hx y h1; have := hx z hz; omega
    ·omega
   ·rw [if_neg c2]
    refine Or.inl ⟨z, rfl, (mem z).2 (Or.inl hz), hgz, fun y hy hgy => ?_⟩
    rcases (mem y).1 hy with h1 | rfl
    ·exact hmax y h1 hgy
    ·omega
  ·refine Or.inl ⟨x, rfl, (mem x).2 (Or.inr rfl), c, fun y hy hgy => ?_⟩
   rcases (mem y).1 hy with h1 | rfl
   ·rw [hno y h1] at hgy; cases hgy
   ·omega
 ·rw [if_neg c]
  rcases h with ⟨z, rfl, hz, hgz, hmax⟩ | ⟨rfl, hno⟩
  ·refine Or.inl ⟨z, rfl, (mem z).2 (Or.inl hz), hgz, fun y hy hgy => ?_⟩
   rcases (mem y).1 hy with h1 | rfl
   ·exact hmax y h1 hgy
   ·exact absurd hgy c
  ·refine Or.inr ⟨rfl, fun y hy => ?_⟩
   rcases (mem y).1 hy with h1 | rfl
   ·exact hno y h1
   ·simpa using c
theorem Top_fold {p : S25 → Bool} : ∀ (l2 l1 : List S25) (b : Option S25), (l1 ++ l2).Pairwise (fun a b => a.f0 < b.f0) → Top p (fun y => y ∈ l1) b → Top p (fun y => y ∈ l1 ++ l2) (l2.foldl (pickS p) b)
 | [], l1, b, _, h => by rw [List.append_nil]; exact h
 | x :: l2, l1, b, hs, h => by
  have e : l1 ++ x :: l2 = (l1 ++ [x]) ++ l2 := by simp
  rw [e] at hs ⊢
  have h1 : (l1 ++ [x]).Pairwise (fun a b => a.f0 < b.f0) := (List.pairwise_append.1 hs).1
  have h2 := (List.pairwise_append.1 h1).2.2
  exact Top_fold l2 (l1 ++ [x]) _ hs (Top_snoc h fun y hy => Int.le_of_lt (h2 y hy x (by simp)))
theorem pick_Top {p : S25 → Bool} {l : List S25} (h : l.Pairwise (fun a b => a.f0 < b.f0)) : Top p (fun y => y ∈ l) (pick p l) := by
 have := Top_fold (p := p) l [] none (by simpa using h) (Or.inr ⟨rfl, fun y hy => by simp at hy⟩)
 simpa [pick] using this
theorem mem_told {j : Nat} {g : Int × Int × Int × Int × Int} {x : S25} : x ∈ told j g ↔ g.2.2.2.2 = 0 ∧ x = ⟨24 * (j : Int), ⟨g.1, g.2.1, g.2.2.1, g.2.2.2.1⟩⟩ := by
 unfold told
 by_cases h : g.2.2.2.2 = 0
 ·rw [if_pos h]; simp [h]
 ·rw [if_neg h]; simp [h]
theorem mem_scanL {f : ByteArray} {n : Nat} {x : S25} : x ∈ scanL f n ↔ ∃ j, j < n ∧ x ∈ told j (getV (pl f j)) := by
 induction n with
 | zero => simp [scanL]
 | succ n ih =>
  rw [scanL, List.mem_append, ih]
  constructor
  ·rintro (⟨j, hj, h⟩ | h)
   ·exact ⟨j, by omega, h⟩
   ·exact ⟨n, by omega, h⟩
  ·rintro ⟨j, hj, h⟩
   by_cases c : j = n
   ·subst c; exact Or.inr h
   ·exact Or.inl ⟨j, by omega, h⟩
theorem scanL_at {f : ByteArray} {n : Nat} {x : S25} (h : x ∈ scanL f n) : ∃ j : Nat, j < n ∧ x.f0 = 24 * (j : Int) ∧ (getV (pl f j)) = (x.f1.f0, x.f1.f1, x.f1.f2, x.f1.f3, 0) := by
 obtain ⟨j, hj, hx⟩ := mem_scanL.1 h
 obtain ⟨h0, rfl⟩ := mem_told.1 hx
 refine ⟨j, hj, rfl, ?_⟩
 show getV (pl f j) = ((getV (pl f j)).1, (getV (pl f j)).2.1, (getV (pl f j)).2.2.1, (getV (pl f j)).2.2.2.1, 0)
 rw [← h0]
theorem scanL_sorted (f : ByteArray) (n : Nat) : (scanL f n).Pairwise (fun a b => a.f0 < b.f0) := by
 induction n with
 | zero => exact List.Pairwise.nil
 | succ n ih =>
  rw [scanL, List.pairwise_append]
  refine ⟨ih, ?_, fun a ha b hb => ?_⟩
  ·unfold told; split
   ·exact List.pairwise_singleton _ _
   ·exact List.Pairwise.nil
  ·obtain ⟨j, hj, e, _⟩ := scanL_at ha
   obtain ⟨_, rfl⟩ := mem_told.1 hb
   show a.f0 < 24 * (n : Int)
   omega
theorem scanL_one {f : ByteArray} {n : Nat} {x y : S25} (hx : x ∈ scanL f n) (hy : y ∈ scanL f n) (h : x.f0 = y.f0) : x = y := by
 obtain ⟨i, hi, h1⟩ := mem_scanL.1 hx
 obtain ⟨j, hj, h2⟩ := mem_scanL.1 hy
 obtain ⟨_, rfl⟩ := mem_told.1 h1
 obtain ⟨_, rfl⟩ := mem_told.1 h2
 have : i = j := by
  have h' : 24 * (i : Int) = 24 * (j : Int) := h
  omega
 subst this; rfl
theorem getV_may {s : ByteArray} {q sl sz sm : Int} (h : getV s = (q, sl, sz, sm, 0)) : recMay q sl sz sm = true := by
 unfold getV at h
 by_cases c : getOk s
 ·rw [if_pos c] at h
  injection h with h1 h; injection h with h2 h; injection h with h3 h; injection h with h4 h
  rw [← h1, ← h2, ← h3, ← h4]; exact c.2.2
 ·rw [if_neg c] at h
  injection h with h1 h; injection h with h2 h; injection h with h3 h; injection h with h4 h
  exact absurd h (by decide)
theorem scanL_may {f : ByteArray} {n : Nat} {x : S25} (h : x ∈ scanL f n) : recMay x.f1.f0 x.f1.f1 x.f1.f2 x.f1.f3 = true := by
 obtain ⟨j, _, _, e⟩ := scanL_at h; exact getV_may e
theorem act_Top (f : ByteArray) : Top (good f) (fun x => x ∈ scanL f 8) (act f) := pick_Top (scanL_sorted f 8)
theorem act_mem {f : ByteArray} {x : S25} (h : act f = some x) : x ∈ scanL f 8 ∧ good f x = true ∧ ∀ y, y ∈ scanL f 8 → good f y = true → y.f1.f0 < x.f1.f0 ∨ (y.f1.f0 = x.f1.f0 ∧ y.f0 ≤ x.f0) := by
 rcases act_Top f with ⟨z, hr, hz, hgz, hmax⟩ | ⟨hr, _⟩
 ·rw [h] at hr; injection hr with hr; subst hr; exact ⟨hz, hgz, hmax⟩
 ·rw [h] at hr; cases hr
theorem toSc_Best {f : ByteArray} {l : List S25} {r : Option S25} (h : Top (good f) (fun x => x ∈ l) r) : Best (goodSc f) (fun x => x ∈ l.map toSc) (r.map toSc) := by
 rcases h with ⟨x, rfl, hx, hgx, hmax⟩ | ⟨rfl, hno⟩
 ·refine Or.inl ⟨toSc x, rfl, List.mem_map_of_mem hx, hgx, fun y hy hgy => ?_⟩
  obtain ⟨z, hz, rfl⟩ := List.mem_map.1 hy
  exact hmax z hz hgy
 ·refine Or.inr ⟨rfl, fun y hy => ?_⟩
  obtain ⟨z, hz, rfl⟩ := List.mem_map.1 hy
  exact hno z hz
theorem ans_toSc (r : Option S25) : ans (r.map toSc) = ansV r := by cases r <;> rfl
theorem Active_ev (f : ByteArray) : Ev (fun k => choose_Active.f k f) (actV f) := by
 have hs := Scan_ev f
 unfold choose_Active.f
 refine Ev.bind hs ?_
 unfold scanV actV
 by_cases h : f.size = 768
 ·simp only [if_pos h, if_true]
  have hl := scanL_length f 8
  have hl2 : ((scanL f 8).map toSc).length ≤ 999 := by rw [List.length_map]; omega
  simp only [if_pos hl2]
  have hg : ∀ x : PSc.S25, ∃ e, PSc.image_Good.f f x.f1.f0 x.f1.f1 x.f1.f2 x.f1.f3 = some (goodSc f x, e) := fun x => ⟨_, image_Good_eq f _ _ _ _⟩
  refine ⟨9, fun k hk => ?_⟩
  obtain ⟨r, e, hb⟩ := queue_ok f (goodSc f) hg ((scanL f 8).map toSc) k (by rw [List.length_map]; omega)
  have hb2 := toSc_Best (act_Top f)
  have : r = (act f).map toSc := Best_one (fun x y hx hy hxy => by
   obtain ⟨a, ha, rfl⟩ := List.mem_map.1 hx
   obtain ⟨b, hb, rfl⟩ := List.mem_map.1 hy
   rw [scanL_one ha hb hxy]) hb hb2
  rw [this, ans_toSc] at e
  exact e
 ·simp only [if_neg h, show ¬ ((500 : Int) = 0) by decide, if_false]
  exact Ev.now _
theorem rd25 (l : List S25) (i : Nat) (h : i < l.length) : rd_T25 l (i : Int) = l[i] := by simp [rd_T25, List.getD_eq_getElem?_getD, List.getElem?_eq_getElem h]
theorem ract_go (f : ByteArray) (l : List S25) (hl : l.length ≤ 1000) (d : Nat) : ∀ (i : Nat) (b : Int) (o : Option S25), i + d = l.length → ((b = -1 ∧ o = none) ∨ (∃ j : Nat, j < l.length ∧ b = j ∧ o = some (rd_T25 l j))) →
  Ev (fun k => skiffref1_Active.l0 k f l b (i : Int)) (ansV ((l.drop i).foldl (pickS (good f)) o)) := by
 induction d with
 | zero =>
  intro i b o hi hb
  obtain rfl : i = l.length := by omega
  rw [List.drop_length]
  refine Ev.one fun k => ?_
  rw [skiffref1_Active.l0, if_neg (by omega)]
  rcases hb with ⟨rfl, rfl⟩ | ⟨j, hj, rfl, rfl⟩
  ·rw [if_pos (by omega)]; rfl
  ·rw [if_neg (by omega), if_pos (by omega), if_pos (by omega)]; rfl
 | succ d ih =>
  intro i b o hi hb
  have hil : i < l.length := by omega
  have w : wrap64 ((i : Int) + 1) = ((i + 1 : Nat) : Int) := by rw [wrap_id (by omega)]; omega
  have hg := ref_Good_ev f (rd_T25 l (i : Int)).f1.f0 (rd_T25 l (i : Int)).f1.f1 (rd_T25 l (i : Int)).f1.f2 (rd_T25 l (i : Int)).f1.f3
  rw [List.drop_eq_getElem_cons hil, List.foldl_cons, ← rd25 l i hil]
  refine Ev.step (fun k => by rw [skiffref1_Active.l0, if_pos (by omega), if_pos (by omega), w]) ?_
  refine Ev.bind hg ?_
  by_cases c : good f (rd_T25 l (i : Int)) = true
  ·have c' : (goodV f (rd_T25 l (i : Int)).f1.f0 (rd_T25 l (i : Int)).f1.f1 (rd_T25 l (i : Int)).f1.f2 (rd_T25 l (i : Int)).f1.f3).1 = true := c
   simp only [if_pos c']
   rcases hb with ⟨rfl, rfl⟩ | ⟨j, hj, rfl, rfl⟩
   ·have e : pickS (good f) none (rd_T25 l (i : Int)) = some (rd_T25 l (i : Int)) := by unfold pickS; rw [if_pos c]
    rw [e]
    simp only [if_pos (show (-1 : Int) < 0 by decide)]
    exact ih (i + 1) i _ (by omega) (Or.inr ⟨i, hil, rfl, rfl⟩)
   ·simp only [if_neg (show ¬ ((j : Int) < 0) by omega), if_pos (show (0 : Int) ≤ (j : Int) by omega), if_pos (show (j : Int) < (l.length : Int) by omega)]
    by_cases c2 : (rd_T25 l (i : Int)).f1.f0 ≥ (rd_T25 l (j : Int)).f1.f0
    ·have e : pickS (good f) (some (rd_T25 l (j : Int))) (rd_T25 l (i : Int)) = some (rd_T25 l (i : Int)) := by
      unfold pickS; rw [if_pos c]; show (if _ then _ else _) = _; rw [if_pos c2]
     rw [e]
     simp only [if_pos c2]
     exact ih (i + 1) i _ (by omega) (Or.inr ⟨i, hil, rfl, rfl⟩)
    ·have e : pickS (good f) (some (rd_T25 l (j : Int))) (rd_T25 l (i : Int)) = some (rd_T25 l (j : Int)) := by
      unfold pickS; rw [if_pos c]; show (if _ then _ else _) = _; rw [if_neg c2]
     rw [e]
     simp only [if_neg c2]
     exact ih (i + 1) j _ (by omega) (Or.inr ⟨j, hj, rfl, rfl⟩)
  ·have c' : ¬ (goodV f (rd_T25 l (i : Int)).f1.f0 (rd_T25 l (i : Int)).f1.f1 (rd_T25 l (i : Int)).f1.f2 (rd_T25 l (i : Int)).f1.f3).1 = true := c
   have e : pickS (good f) o (rd_T25 l (i : Int)) = o := by unfold pickS; rw [if_neg c]
   rw [e]
   simp only [if_neg c']
   exact ih (i + 1) b o (by omega) hb
theorem ref_Active_ev (f : ByteArray) : Ev (fun k => skiffref1_Active.f k f) (actV f) := by
 unfold skiffref1_Active.f
 refine Ev.bind (ref_Scan_ev f) ?_
 unfold scanV actV
 by_cases h : f.size = 768
 ·simp only [if_pos h, if_true]
  have hl := scanL_length f 8
  have := ract_go f (scanL f 8) (by omega) (scanL f 8).length 0 (-1) none (by omega) (Or.inl ⟨rfl, rfl⟩)
  rw [List.drop_zero] at this
  exact this
 ·simp only [if_neg h, show ¬ ((500 : Int) = 0) by decide, if_false]
  exact Ev.now _
end Go.Proofs.Ytjadcjkjpkkmkaa.M
/- Plain facts: what every program answers that is one, of package upload; no memory in sight. -/
set_option linter.unnecessarySimpa false
set_option linter.unusedSimpArgs false
set_option linter.unusedVariables false
namespace Go.Proofs.Ytjadcjkjpkkmkaa.M
open Go.RowKit Go.Proofs.YtjadcjkjpkkmkaaW.PrintWords Go.Proofs.YtjadcjkjpkkmkaaW.PrintLast Go.Proofs.YtjadcjkjpkkmkaaW.PrintMore Go.Proofs.Ytjadcjkjpkkmkaa.Hand Go.Proofs.Ytjadcjkjpkkmkaa.PAll
theorem Num_eq (x : Int) : skifflaw0_Num.f x = some x := rfl
theorem held20_l1 (l : List S87) (hl : l.length ≤ 1000) (d : Nat) : ∀ (i : Nat) (F : ByteArray), i + d = l.length → Ev (fun k => skifflaw20_held.l1 k F l (i : Int)) (doL F (l.drop i)) := by
 induction d with
 | zero =>
  intro i F hi
  obtain rfl : i = l.length := by omega
  rw [doL_end]
  exact Ev.one fun k => by rw [skifflaw20_held.l1, if_neg (by omega)]
 | succ d ih =>
  intro i F hi
  rw [doL_at F l i (by omega)]
  have w : wrap64 ((i : Int) + 1) = ((i + 1 : Nat) : Int) := by rw [wrap_id (by omega)]; omega
  refine Ev.step (fun k => by rw [skifflaw20_held.l1, if_pos (by omega), if_pos (by omega), w]) ?_
  refine Ev.bind (ref_Do_ev F _ _ _) ?_
  exact ih (i + 1) _ (by omega)
theorem held20_l0 (l : List S87) (hl : l.length ≤ 1000) (r : ByteArray) (hr : Ev (fun k => skifflaw20_held.l0 k (doL (ff 768) l) l (l.length : Int)) r) (d : Nat) : ∀ (i : Nat) (F : ByteArray), i + d = l.length → doL F (l.drop i) = doL (ff 768) l → Ev (fun k => skifflaw20_held.l0 k F l (i : Int)) r := by
 induction d with
 | zero =>
  intro i F hi he
  obtain rfl : i = l.length := by omega
  rw [doL_end] at he
  rw [he]; exact hr
 | succ d ih =>
  intro i F hi he
  rw [doL_at F l i (by omega)] at he
  have w : wrap64 ((i : Int) + 1) = ((i + 1 : Nat) : Int) := by rw [wrap_id (by omega)]; omega
  refine Ev.step (fun k => by rw [skifflaw20_held.l0, if_pos (by omega), if_pos (by omega), w]) ?_
  refine Ev.bind (ref_Do_ev F _ _ _) ?_
  exact ih (i + 1) _ (by omega) he
theorem held20 : Ev (fun k => skifflaw20_held.f k) heldF := by
 have hw := ref_Words_ev 192 ab (by omega) (by rw [ab_size]; omega)
 rw [wordsV_ab] at hw
 unfold skifflaw20_held.f
 refine Ev.bind Blank_ev ?_
 refine Ev.bind hw ?_
 have hl : (wl (192 : Nat) ab (many ab)).length ≤ 1000 := by rw [wl_length, ab_many]; omega
 refine held20_l0 _ hl heldF ?_ (wl (192 : Nat) ab (many ab)).length 0 (ff 768) (by omega) rfl
 refine Ev.step (fun k => by rw [skifflaw20_held.l0, if_neg (by omega)]) ?_
 refine Ev.bind RecordOf_held1 ?_
 refine Ev.bind Append_held1 ?_
 have hl2 : (wl (0 : Nat) rec1 (many rec1)).length ≤ 1000 := by rw [wl_length, rec1_many]; omega
 exact held20_l1 _ hl2 (wl (0 : Nat) rec1 (many rec1)).length 0 held1 (by omega)
theorem Ev.same {α : Type} {g : Nat → Option α} {r s : α} (h1 : Ev g r) (h2 : Ev g s) : r = s := by
 obtain ⟨a, ha⟩ := h1; obtain ⟨b, hb⟩ := h2
 have e1 := ha (max a b) (Nat.le_max_left _ _)
 have e2 := hb (max a b) (Nat.le_max_right _ _)
 rw [e1] at e2; exact Option.some.inj e2
theorem crcV_ab : crcV ab = abSum := Ev.same (Crc_ev ab (by rw [ab_size]; omega)) ab_crc
theorem imgF_at (f : ByteArray) (sz : Int) (n : Nat) (h : sz = (n : Int)) : imgF f 0 sz = f.extract 192 (192 + n) := by
 subst h; unfold imgF; congr 1
theorem heldF_ab : imgF heldF 0 12 = ab := by
 rw [imgF_at heldF 12 12 rfl]
 apply bt_ext
 ·rw [ByteArray.size_extract, heldF_size, ab_size]; omega
 ·intro i hi
  rw [ByteArray.size_extract, heldF_size] at hi
  rw [bt_extract _ _ _ _ (by rw [heldF_size]; omega), heldF_bt _ (by omega), if_neg (by omega), if_pos (by omega), show 192 + i - 192 = i by omega]
theorem good_of (f : ByteArray) (x : S25) (q sl sz sm : Int) (hs : f.size = 768) (hx : x.f1 = ⟨q, sl, sz, sm⟩) (hr : recMay q sl sz sm = true) : good f x = (crcV (imgF f sl sz) == sm) := by
 unfold good goodV
 rw [hx]
 show (if f.size = 768 ∧ recMay q sl sz sm = true then (crcV (imgF f sl sz) == sm, (0 : Int)) else (false, 600)).1 = _
 rw [if_pos ⟨hs, hr⟩]
theorem good_held : good heldF place1 = true := by
 rw [good_of heldF place1 1 0 12 abSum heldF_size rfl rec1_may, heldF_ab, crcV_ab]
 exact beq_self_eq_true _
theorem pick_one (p : S25 → Bool) (x : S25) (h : p x = true) : pick p [x] = some x := by
 show pickS p none x = _
 unfold pickS; rw [if_pos h]
theorem act_held : act heldF = some place1 := by
 unfold act
 rw [scanL_heldF 8 (by omega) (by omega)]
 exact pick_one _ _ good_held
theorem actV_some {f : ByteArray} {x : S25} (hs : f.size = 768) (h : act f = some x) : actV f = (x.f0, x.f1.f0, x.f1.f1, x.f1.f2, x.f1.f3, 0) := by unfold actV; rw [if_pos hs, h]; rfl
theorem actV_none {f : ByteArray} (hs : f.size = 768) (h : act f = none) : actV f = (0, 0, 0, 0, 0, 701) := by unfold actV; rw [if_pos hs, h]; rfl
theorem act_blank : act (ff 768) = none := by
 unfold act
 rw [scanL_blank (ff 768) 8 (fun j hj => pl_blank _ j (ff_size 768) hj (fun i h1 h2 => ff_bt 768 i (by omega)))]; rfl
end Go.Proofs.Ytjadcjkjpkkmkaa.M
/- Plain facts: may a device be, copies and comparisons of devices, and what a reading back gives: by program and reference the same; no memory in sight. -/
set_option linter.unnecessarySimpa false
set_option linter.unusedSimpArgs false
set_option linter.unusedVariables false
namespace Go.Proofs.Ytjadcjkjpkkmkaa.M
open Go.RowKit Go.Proofs.YtjadcjkjpkkmkaaW.PrintWords Go.Proofs.YtjadcjkjpkkmkaaW.PrintLast Go.Proofs.YtjadcjkjpkkmkaaW.PrintMore Go.Proofs.Ytjadcjkjpkkmkaa.Hand Go.Proofs.Ytjadcjkjpkkmkaa.PAll
theorem ops_May_eq (e : Bool) (a : Int) (t : ByteArray) (ha : I64 a) : ops_May.f e a t = some (opMay e a t) := by
 unfold ops_May.f opMay
 cases e with
 | true =>
  rw [if_pos rfl, if_pos rfl]
  by_cases h0 : a ≥ 0
  ·rw [if_pos h0]
   rw [Int.tmod_eq_emod_of_nonneg h0]
   by_cases h1 : a % 96 = 0
   ·rw [if_pos h1, Int.tdiv_eq_ediv_of_nonneg h0, wrap_id (by omega)]
    unfold nor_Sector.f
    rw [if_pos (by omega)]
    simp only [Option.bind_some]
    by_cases h2 : a / 96 < 8
    ·rw [if_pos (by simpa using h2), toList_nil]
     congr 1
     exact decide_eq_decide.mpr ⟨fun h => ⟨by omega, by omega, h1, h⟩, fun h => h.2.2.2⟩
    ·rw [if_neg (by simpa using h2)]
     congr 1
     symm
     simp
     omega
   ·rw [if_neg h1]
    congr 1; symm; simp; omega
  ·rw [if_neg h0]
   congr 1; symm; simp; omega
 | false =>
  rw [if_neg (by decide), if_neg (by decide)]
  unfold nor_Begins.f
  by_cases h0 : a ≥ 0
  ·rw [if_pos h0]
   by_cases h1 : a < 768
   ·rw [if_pos h1, Int.tmod_eq_emod_of_nonneg h0]
    simp only [Option.bind_some]
    by_cases h2 : a % 4 = 0
    ·rw [if_pos (by simpa using h2)]
     congr 1
     rw [Bool.eq_iff_iff]; simp; omega
    ·rw [if_neg (by simpa using h2)]
     congr 1; symm; simp; omega
   ·rw [if_neg h1]
    simp only [Option.bind_some]
    rw [if_neg (by decide)]
    congr 1; symm; simp; omega
  ·rw [if_neg h0]
   simp only [Option.bind_some]
   rw [if_neg (by decide)]
   congr 1; symm; simp; omega
def okOp (x : S87) : Prop := I64 x.f1
theorem mayB_opMay (x : S87) (h : okOp x) : mayB x = opMay x.f0 x.f1 x.f2 := by
 have := mayB_eq x
 rw [ops_May_eq x.f0 x.f1 x.f2 h] at this
 exact (Option.some.inj this).symm
theorem oddB_eq (l : List S87) : oddB l = l.any (fun x => !mayB x) := ixL_ge l 0
theorem upTo16_eq (a b c : Int) : skiffref16_upTo.f a b c = some (decide (b ≤ a ∧ a ≤ c)) := by
 unfold skiffref16_upTo.f
 by_cases h : a ≥ b
 ·rw [if_pos h]; congr 1; simp; omega
 ·rw [if_neg h]; congr 1; symm; simp; omega
theorem StateMay_eq (a : Int) : skiffref1_StateMay.f a = some (decide (0 ≤ a ∧ a ≤ 7)) := by unfold skiffref1_StateMay.f; rw [upTo_eq]; rfl
theorem StatusMay_eq (a : Int) : skiffref1_StatusMay.f a = some (decide (0 ≤ a ∧ a ≤ 6)) := by unfold skiffref1_StatusMay.f; rw [upTo_eq]; rfl
theorem rd87 (l : List S87) (i : Nat) (h : i < l.length) : rd_T87 l (i : Int) = l[i] := by simp [rd_T87, List.getD_eq_getElem?_getD, List.getElem?_eq_getElem h]
theorem devMay_go (a0 a1 a2 a3 a4 : Int) (l : List S87) (hl : l.length ≤ 4611686018427387904) (ok : ∀ x, x ∈ l → okOp x) (d : Nat) : ∀ (i : Nat), i + d = l.length → (l.take i).any (fun x => !mayB x) = false → Ev (fun k => skiffref16_DeviceMay.l0 k (i : Int) a0 a1 a2 a3 a4 l) (devMay a0 a1 a2 a3 a4 l) := by
 induction d with
 | zero =>
  intro i hi ha
  obtain rfl : i = l.length := by omega
  rw [List.take_length] at ha
  refine Ev.one fun k => ?_
  rw [skiffref16_DeviceMay.l0, if_neg (by omega)]
  unfold devMay
  rw [oddB_eq, ha, StateMay_eq, StatusMay_eq, upTo16_eq, upTo16_eq, upTo16_eq]
  simp only [Option.bind_some]
  by_cases c0 : 0 ≤ a0 ∧ a0 ≤ 7
  ·rw [if_pos (decide_eq_true c0), decide_eq_true c0]
   by_cases c1 : 0 ≤ a1 ∧ a1 ≤ 6
   ·rw [if_pos (decide_eq_true c1), decide_eq_true c1]
    by_cases c2 : 0 ≤ a2 ∧ a2 ≤ 16
    ·rw [if_pos (decide_eq_true c2), decide_eq_true c2]
     by_cases c3 : 0 ≤ a3 ∧ a3 ≤ 288
     ·have e3 : (decide (a3 = 0) || decide (1 ≤ a3 ∧ a3 ≤ 288)) = true := by rw [Bool.or_eq_true, decide_eq_true_eq, decide_eq_true_eq]; omega
      rw [if_pos (decide_eq_true c3), e3]
      by_cases c4 : 0 ≤ a4 ∧ a4 ≤ 1
      ·rw [if_pos (decide_eq_true c4), decide_eq_true c4]
       congr 1
       rw [Bool.eq_iff_iff]; simp; omega
      ·rw [if_neg (by simpa using c4), decide_eq_false c4]; rfl
     ·have e3 : (decide (a3 = 0) || decide (1 ≤ a3 ∧ a3 ≤ 288)) = false := by rw [Bool.or_eq_false_iff, decide_eq_false_iff_not, decide_eq_false_iff_not]; omega
      rw [if_neg (by simpa using c3), e3]; rfl
    ·rw [if_neg (by simpa using c2), decide_eq_false c2]; rfl
   ·rw [if_neg (by simpa using c1), decide_eq_false c1]; rfl
  ·rw [if_neg (by simpa using c0), decide_eq_false c0]; rfl
 | succ d ih =>
  intro i hi ha
  have hil : i < l.length := by omega
  have w : wrap64 ((i : Int) + 1) = ((i + 1 : Nat) : Int) := by rw [wrap_id (by omega)]; omega
  have hm := mayB_opMay l[i] (ok _ (List.getElem_mem hil))
  rw [← rd87 l i hil] at hm
  by_cases c : mayB (rd_T87 l (i : Int)) = true
  ·have ha2 : (l.take (i + 1)).any (fun x => !mayB x) = false := by
    rw [List.take_succ_eq_append_getElem hil, List.any_append, ha, ← rd87 l i hil]
    simp [c]
   refine Ev.step (fun k => ?_) (ih (i + 1) (by omega) ha2)
   rw [skiffref16_DeviceMay.l0, if_pos (by omega), if_pos (by omega), ref_OpMay_eq, Option.bind_some, ← hm, if_pos c, w]
  ·have hodd : oddB l = true := by
    rw [oddB_eq, List.any_eq_true]
    exact ⟨l[i], List.getElem_mem hil, by rw [← rd87 l i hil]; simpa using c⟩
   refine Ev.one fun k => ?_
   rw [skiffref16_DeviceMay.l0, if_pos (by omega), if_pos (by omega), ref_OpMay_eq, Option.bind_some, ← hm, if_neg c]
   unfold devMay
   rw [hodd]; simp
theorem ref_DeviceMay_ev (a0 a1 a2 a3 a4 : Int) (l : List S87) (hl : l.length ≤ 4611686018427387904) (ok : ∀ x, x ∈ l → okOp x) : Ev (fun k => skiffref16_DeviceMay.f k a0 a1 a2 a3 a4 l) (devMay a0 a1 a2 a3 a4 l) := by
 unfold skiffref16_DeviceMay.f
 exact devMay_go a0 a1 a2 a3 a4 l hl ok l.length 0 (by omega) rfl
theorem both_ev (f : ByteArray) (a0 a1 a2 a3 a4 : Int) (l : List S87) (hl : l.length ≤ 4611686018427387904) (ok : ∀ x, x ∈ l → okOp x) : Ev (fun k => skiffref16_both.f k f a0 a1 a2 a3 a4 l) (decide (f.size = 768) && devMay a0 a1 a2 a3 a4 l) := by
 unfold skiffref16_both.f skiffref1_FlashMay.f
 by_cases h : f.size = 768
 ·have e : ((f.size : Int) == 768) = true := by simp; omega
  simp only [Option.bind_some, e, if_true, decide_eq_true h, Bool.true_and]
  exact Ev.bind (ref_DeviceMay_ev a0 a1 a2 a3 a4 l hl ok) (Ev.now _)
 ·have e : ((f.size : Int) == 768) = false := by simp; omega
  simp only [Option.bind_some, e, Bool.false_eq_true, if_false, decide_eq_false h, Bool.false_and]
  exact Ev.now _
theorem Copy_eq (a0 a1 a2 a3 a4 : Int) (l : List S87) (hl : l.length < 4398046511104) : device_Copy.f a0 a1 a2 a3 a4 l = some (a0, a1, a2, a3, a4, l) := by
 unfold device_Copy.f slices_Clone.f; rw [if_pos hl]; rfl
theorem copyDevice_eq (a0 a1 a2 a3 a4 : Int) (l : List S87) (hl : l.length < 4398046511104) : skiffref16_copyDevice.f a0 a1 a2 a3 a4 l = some (a0, a1, a2, a3, a4, l) := by
 unfold skiffref16_copyDevice.f; rw [Option.bind_some, List.length_nil, Nat.zero_add, if_pos hl, List.nil_append]
theorem CopyDevice_eq (a0 a1 a2 a3 a4 : Int) (l : List S87) (hl : l.length < 4398046511104) : skifflaw0_CopyDevice.f a0 a1 a2 a3 a4 l = some (a0, a1, a2, a3, a4, l) := by
 unfold skifflaw0_CopyDevice.f; rw [Option.bind_some, List.length_nil, Nat.zero_add, if_pos hl, List.nil_append]
theorem sameOps_go (l : List S87) (hl : l.length ≤ 4611686018427387904) (d : Nat) : ∀ (i : Nat), i + d = l.length → Ev (fun k => skifflaw0_SameOps.l0 k l l (i : Int)) true := by
 induction d with
 | zero =>
  intro i hi
  exact Ev.one fun k => by rw [skifflaw0_SameOps.l0, if_neg (by omega)]
 | succ d ih =>
  intro i hi
  have w : wrap64 ((i : Int) + 1) = ((i + 1 : Nat) : Int) := by rw [wrap_id (by omega)]; omega
  exact Ev.step (fun k => by rw [skifflaw0_SameOps.l0, if_pos (by omega), if_pos (by omega), if_pos (by omega), if_neg (by simp), w]) (ih (i + 1) (by omega))
theorem sameOps (l : List S87) (hl : l.length ≤ 4611686018427387904) : Ev (fun k => skifflaw0_SameOps.f k l l) true := by
 unfold skifflaw0_SameOps.f
 simp only [if_true]
 exact sameOps_go l hl l.length 0 (by omega)
theorem sameDevice (a0 a1 a2 a3 a4 : Int) (l : List S87) (hl : l.length ≤ 4611686018427387904) : Ev (fun k => skifflaw0_SameDevice.f k a0 a1 a2 a3 a4 l a0 a1 a2 a3 a4 l) true := by
 unfold skifflaw0_SameDevice.f
 simp only [if_true]
 exact Ev.bind (sameOps l hl) (Ev.now _)
theorem spoil_go (d : Nat) : ∀ (i : Nat) (l : List S87), l.length ≤ 4611686018427387904 → i + d = l.length → ∃ r, Ev (fun k => skifflaw0_SpoilOps.l0 k l (i : Int)) r := by
 induction d with
 | zero =>
  intro i l hl hi
  exact ⟨l, Ev.one fun k => by rw [skifflaw0_SpoilOps.l0, if_neg (by omega)]⟩
 | succ d ih =>
  intro i l hl hi
  have w : wrap64 ((i : Int) + 1) = ((i + 1 : Nat) : Int) := by rw [wrap_id (by omega)]; omega
  obtain ⟨r, hr⟩ := ih (i + 1) (l.set (i : Int).toNat ⟨(rd_T87 l (i : Int)).f0, Go.bits .xor .i64 ((rd_T87 l (i : Int)).f1) 90, (rd_T87 l (i : Int)).f2⟩) (by rw [List.length_set]; exact hl) (by rw [List.length_set]; omega)
  exact ⟨r, Ev.step (fun k => by rw [skifflaw0_SpoilOps.l0, if_pos (by omega), if_pos (by omega), w]) hr⟩
theorem spoilDevice (a0 a1 a2 a3 a4 : Int) (l : List S87) (hl : l.length ≤ 4611686018427387904) : ∃ r, Ev (fun k => skifflaw0_SpoilDevice.f k a0 a1 a2 a3 a4 l) r := by
 obtain ⟨r, hr⟩ := spoil_go l.length 0 l hl (by omega)
 refine ⟨r, ?_⟩
 unfold skifflaw0_SpoilDevice.f skifflaw0_SpoilOps.f
 exact Ev.bind hr (Ev.now _)
abbrev Dev := Int × Int × Int × Int × Int × List S87
def failD (s : Int) : Dev := (7, s, 0, 0, 0, [])
def newD : Dev := (0, 0, 0, 0, 0, [])
def nextB (a0 a2 : Int) : Int := if a0 = 0 then 0 else a2
def giveOk (f : ByteArray) (a0 a1 a2 a3 a4 : Int) (l : List S87) (b n : Int) : Prop := f.size = 768 ∧ devMay a0 a1 a2 a3 a4 l = true ∧ (a0 = 0 ∨ a0 = 6) ∧ 0 ≤ b ∧ b ≤ 65535 ∧ 0 ≤ n ∧ n ≤ 32
instance (f : ByteArray) (a0 a1 a2 a3 a4 : Int) (l : List S87) (b n : Int) : Decidable (giveOk f a0 a1 a2 a3 a4 l b n) := by unfold giveOk; exact inferInstance
/-- So many bytes of a text, of a block. -/
def blockOf (s : ByteArray) (nx n : Int) : ByteArray := s.extract (mn (s.size : Int) (32 * nx)).toNat (mn (s.size : Int) (mn (s.size : Int) (32 * nx) + n)).toNat
def flat8 (d : Dev) (s : ByteArray) (e : Int) : Int × Int × Int × Int × Int × List S87 × ByteArray × Int := (d.1, d.2.1, d.2.2.1, d.2.2.2.1, d.2.2.2.2.1, d.2.2.2.2.2, s, e)
def giveV (f : ByteArray) (a0 a1 a2 a3 a4 : Int) (l : List S87) (b n : Int) : Int × Int × Int × Int × Int × List S87 × ByteArray × Int :=
 if giveOk f a0 a1 a2 a3 a4 l b n then
  (match act f with
  | none => flat8 (failD 2) ⟨#[]⟩ 0
  | some x => if b = nextB a0 a2 then (if (blockOf (imgF f x.f1.f1 x.f1.f2) (nextB a0 a2) n).size < 32 then flat8 newD (blockOf (imgF f x.f1.f1 x.f1.f2) (nextB a0 a2) n) 0 else flat8 (6, a1, mn (nextB a0 a2 + 1) 16, a3, a4, l) (blockOf (imgF f x.f1.f1 x.f1.f2) (nextB a0 a2) n) 0) else flat8 (failD 4) ⟨#[]⟩ 0)
 else flat8 newD ⟨#[]⟩ 2000
theorem devMay_b {a0 a1 a2 a3 a4 : Int} {l : List S87} (h : devMay a0 a1 a2 a3 a4 l = true) : 0 ≤ a0 ∧ a0 ≤ 7 ∧ 0 ≤ a1 ∧ a1 ≤ 6 ∧ 0 ≤ a2 ∧ a2 ≤ 16 ∧ 0 ≤ a3 ∧ a3 ≤ 288 ∧ 0 ≤ a4 ∧ a4 ≤ 1 ∧ l.length ≤ 768 := by
 unfold devMay at h
 simp only [Bool.and_eq_true, Bool.or_eq_true, decide_eq_true_eq] at h
 omega
theorem mn_le (a b : Int) : mn a b ≤ a ∧ mn a b ≤ b := by unfold mn; split <;> omega
theorem mn_ge {a b c : Int} (h1 : c ≤ a) (h2 : c ≤ b) : c ≤ mn a b := by unfold mn; split <;> omega
theorem mn_comm (a b : Int) : mn a b = mn b a := by unfold mn; split <;> split <;> omega
theorem act_img {f : ByteArray} {x : S25} (hs : f.size = 768) (h : act f = some x) : ofV f x.f1.f0 x.f1.f1 x.f1.f2 x.f1.f3 = (imgF f x.f1.f1 x.f1.f2, 0) := by
 unfold ofV; rw [if_pos ⟨hs, scanL_may (act_mem h).1⟩]
/-- The program's two cuts are the reference's one. -/
theorem cut_two (s : ByteArray) (p n : Int) (h0 : 0 ≤ p) (h1 : p ≤ s.size) (hn : 0 ≤ n) : (s.extract p.toNat s.size).extract 0 (mn n ((s.extract p.toNat s.size).size : Int)).toNat = s.extract p.toNat (mn (s.size : Int) (p + n)).toNat := by
 have z : (s.extract p.toNat s.size).size = s.size - p.toNat := by rw [ByteArray.size_extract]; omega
 rw [z]
 have e : mn n ((s.size - p.toNat : Nat) : Int) = mn (s.size : Int) (p + n) - p := by unfold mn; split <;> split <;> omega
 have b := mn_le (s.size : Int) (p + n)
 have g := mn_ge (a := (s.size : Int)) (b := p + n) (c := p) h1 (by omega)
 rw [e]
 apply bt_ext
 ·rw [ByteArray.size_extract, z, ByteArray.size_extract]; omega
 ·intro i hi
  rw [ByteArray.size_extract, z] at hi
  rw [bt_extract _ _ _ _ (by omega), bt_extract _ _ _ _ (by omega), bt_extract _ _ _ _ (by omega), Nat.zero_add]
theorem Value_eq (b : Int) : setup_Value.f b = some (decide (0 ≤ b ∧ b ≤ 65535)) := by
 unfold setup_Value.f; split <;> (congr 1; rw [Bool.eq_iff_iff]; simp; omega)
theorem Length_eq (b : Int) : setup_Length.f b = some (decide (0 ≤ b ∧ b ≤ 32)) := by
 unfold setup_Length.f; split <;> (congr 1; rw [Bool.eq_iff_iff]; simp; omega)
theorem Failed_eq (s : Int) : device_Failed.f s = some (failD s) := rfl
theorem failed16_eq (s : Int) : skiffref16_failed.f s = some (failD s) := rfl
theorem give_one (f : ByteArray) (a0 a1 a2 a3 a4 : Int) (l : List S87) (b n nx : Int) (x : S25) (hs : f.size = 768) (ha : act f = some x) (x0 : 0 ≤ nx) (x1 : nx ≤ 16) (n0 : 0 ≤ n) (n1 : n ≤ 32) :
  Ev (fun k => upload_Give.j1 k f b n x.f0 x.f1.f0 x.f1.f1 x.f1.f2 x.f1.f3 a0 a1 nx a3 a4 l) (if b = nx then (if (blockOf (imgF f x.f1.f1 x.f1.f2) nx n).size < 32 then flat8 newD (blockOf (imgF f x.f1.f1 x.f1.f2) nx n) 0 else flat8 (6, a1, mn (nx + 1) 16, a3, a4, l) (blockOf (imgF f x.f1.f1 x.f1.f2) nx n) 0) else flat8 (failD 4) ⟨#[]⟩ 0) := by
 refine Ev.one fun k => ?_
 rw [upload_Give.j1]
 by_cases c : b = nx
 ·rw [if_pos c, if_pos c, image_Of_eq, act_img hs ha, Option.bind_some]
  have sz := imgF_size f x.f1.f1 x.f1.f2
  obtain ⟨s, hsv⟩ : ∃ s, imgF f x.f1.f1 x.f1.f2 = s := ⟨_, rfl⟩
  rw [hsv] at sz ⊢
  rw [wrap_id (x := 32 * nx) (by omega), wrap_id (x := nx + 1) (by omega), mn_comm (32 * nx)]
  obtain ⟨p, hp⟩ : ∃ p, mn (s.size : Int) (32 * nx) = p := ⟨_, rfl⟩
  have p0 : 0 ≤ p := by rw [← hp]; exact mn_ge (by omega) (by omega)
  have p1 : p ≤ s.size := by rw [← hp]; exact (mn_le _ _).1
  have e := cut_two s p n p0 p1 n0
  have q := mn_le n ((s.extract p.toNat s.size).size : Int)
  have q0 := mn_ge (a := n) (b := ((s.extract p.toNat s.size).size : Int)) (c := 0) n0 (by omega)
  have eb : blockOf s nx n = s.extract p.toNat (mn (s.size : Int) (p + n)).toNat := by unfold blockOf; rw [hp]
  rw [eb]
  simp only [hp, if_pos p0, if_pos p1, if_pos q0, if_pos q.2]
  rw [e]
  by_cases c2 : (s.extract p.toNat (mn (s.size : Int) (p + n)).toNat).size < 32
  ·rw [if_pos (by omega), if_pos c2]; rfl
  ·rw [if_neg (by omega), if_neg c2]; rfl
 ·rw [if_neg c, if_neg c, Failed_eq]; rfl
theorem ref_one (f : ByteArray) (a0 a1 a2 a3 a4 : Int) (l : List S87) (b n nx : Int) (x : S25) (hs : f.size = 768) (ha : act f = some x) (hl : l.length < 4398046511104) (x0 : 0 ≤ nx) (x1 : nx ≤ 16) (n0 : 0 ≤ n) (n1 : n ≤ 32) :
  Ev (fun k => skiffref16_Upload.j1 k f b n nx a0 a1 a2 a3 a4 l x.f0 x.f1.f0 x.f1.f1 x.f1.f2 x.f1.f3) (if b = nx then (if (blockOf (imgF f x.f1.f1 x.f1.f2) nx n).size < 32 then flat8 newD (blockOf (imgF f x.f1.f1 x.f1.f2) nx n) 0 else flat8 (6, a1, mn (nx + 1) 16, a3, a4, l) (blockOf (imgF f x.f1.f1 x.f1.f2) nx n) 0) else flat8 (failD 4) ⟨#[]⟩ 0) := by
 refine Ev.one fun k => ?_
 rw [skiffref16_Upload.j1]
 by_cases c : b = nx
 ·rw [if_pos c, if_pos c, ref_Of_eq, act_img hs ha, Option.bind_some]
  have sz := imgF_size f x.f1.f1 x.f1.f2
  obtain ⟨s, hsv⟩ : ∃ s, imgF f x.f1.f1 x.f1.f2 = s := ⟨_, rfl⟩
  rw [hsv] at sz ⊢
  rw [wrap_id (x := 32 * nx) (by omega), wrap_id (x := nx + 1) (by omega)]
  obtain ⟨p, hp⟩ : ∃ p, mn (s.size : Int) (32 * nx) = p := ⟨_, rfl⟩
  have p0 : 0 ≤ p := by rw [← hp]; exact mn_ge (by omega) (by omega)
  have p1 : p ≤ s.size := by rw [← hp]; exact (mn_le _ _).1
  have q := mn_le (s.size : Int) (p + n)
  have q0 := mn_ge (a := (s.size : Int)) (b := p + n) (c := p) p1 (by omega)
  have eb : blockOf s nx n = s.extract p.toNat (mn (s.size : Int) (p + n)).toNat := by unfold blockOf; rw [hp]
  rw [eb]
  simp only [hp, wrap_id (x := p + n) (by omega), if_pos p0, if_pos q0, if_pos q.1]
  by_cases c2 : (s.extract p.toNat (mn (s.size : Int) (p + n)).toNat).size < 32
  ·rw [if_pos (by omega), if_pos c2]; rfl
  ·rw [if_neg (by omega), if_neg c2, copyDevice_eq _ _ _ _ _ _ hl]; rfl
 ·rw [if_neg c, if_neg c, failed16_eq]; rfl
theorem Give_ev (f : ByteArray) (a0 a1 a2 a3 a4 : Int) (l : List S87) (b n : Int) : Ev (fun k => upload_Give.f k f a0 a1 a2 a3 a4 l b n) (giveV f a0 a1 a2 a3 a4 l b n) := by
 have no : ¬ giveOk f a0 a1 a2 a3 a4 l b n → Ev (fun k => upload_Give.j0 k f b n true a0 a1 a2 a3 a4 l) (giveV f a0 a1 a2 a3 a4 l b n) := fun h => Ev.one fun k => by
  rw [upload_Give.j0, if_pos rfl]; unfold giveV; rw [if_neg h]; rfl
 have yes : giveOk f a0 a1 a2 a3 a4 l b n → Ev (fun k => upload_Give.j0 k f b n false a0 a1 a2 a3 a4 l) (giveV f a0 a1 a2 a3 a4 l b n) := fun h => by
  have hh := h
  obtain ⟨hs, hd, h0, b0, b1, n0, n1⟩ := h
  have db := devMay_b hd
  refine Ev.step (fun k => by rw [upload_Give.j0, if_neg (by decide)]) ?_
  refine Ev.bind (Active_ev f) ?_
  unfold giveV
  rw [if_pos hh]
  cases ha : act f with
  | none =>
   simp only [actV_none hs ha, show ¬ ((701 : Int) = 0) by decide, if_false]
   exact Ev.always fun k => rfl
  | some x =>
   simp only [actV_some hs ha, if_true, Copy_eq a0 a1 a2 a3 a4 l (by omega), Option.bind_some]
   by_cases c : a0 = 0
   ·simp only [if_pos c]
    have e : nextB a0 a2 = 0 := by unfold nextB; rw [if_pos c]
    rw [e]
    exact give_one f a0 a1 a2 a3 a4 l b n 0 x hs ha (by omega) (by omega) n0 n1
   ·simp only [if_neg c]
    have e : nextB a0 a2 = a2 := by unfold nextB; rw [if_neg c]
    rw [e]
    exact give_one f a0 a1 a2 a3 a4 l b n a2 x hs ha (by omega) (by omega) n0 n1
 unfold upload_Give.f PSc.nor_May.f device_May.f
 simp only [Option.bind_some, Value_eq, Length_eq]
 by_cases h : f.size = 768
 ·have e : ((f.size : Int) == 768) = true := by simp; omega
  simp only [e, if_true]
  by_cases hd : devMay a0 a1 a2 a3 a4 l = true
  ·simp only [if_pos hd]
   by_cases hb : 0 ≤ b ∧ b ≤ 65535
   ·simp only [decide_eq_true hb, if_true]
    by_cases hn : 0 ≤ n ∧ n ≤ 32
    ·simp only [decide_eq_true hn, Bool.not_true]
     by_cases c : a0 = 0
     ·simp only [if_pos c]; exact yes ⟨h, hd, Or.inl c, hb.1, hb.2, hn.1, hn.2⟩
     ·simp only [if_neg c]
      by_cases c6 : a0 = 6
      ·simp only [if_pos c6]; exact yes ⟨h, hd, Or.inr c6, hb.1, hb.2, hn.1, hn.2⟩
      ·simp only [if_neg c6]; exact no (fun x => by rcases x.2.2.1 with y | y; exact c y; exact c6 y)
    ·have hno : ¬ giveOk f a0 a1 a2 a3 a4 l b n := fun x => hn ⟨x.2.2.2.2.2.1, x.2.2.2.2.2.2⟩
     simp only [decide_eq_false hn, Bool.not_false]
     by_cases c : a0 = 0
     ·simp only [if_pos c]; exact no hno
     ·simp only [if_neg c]
      by_cases c6 : a0 = 6
      ·simp only [if_pos c6]; exact no hno
      ·simp only [if_neg c6]; exact no hno
   ·have hno : ¬ giveOk f a0 a1 a2 a3 a4 l b n := fun x => hb ⟨x.2.2.2.1, x.2.2.2.2.1⟩
    simp only [decide_eq_false hb, Bool.false_eq_true, if_false]
    by_cases c : a0 = 0
    ·simp only [if_pos c]; exact no hno
    ·simp only [if_neg c]
     by_cases c6 : a0 = 6
     ·simp only [if_pos c6]; exact no hno
     ·simp only [if_neg c6]; exact no hno
  ·simp only [if_neg hd]; exact no (fun x => hd x.2.1)
 ·have e : ((f.size : Int) == 768) = false := by simp; omega
  simp only [e, Bool.false_eq_true, if_false]
  exact no (fun x => h x.1)
theorem ref_Upload_ev (f : ByteArray) (a0 a1 a2 a3 a4 : Int) (l : List S87) (b n : Int) (hl : l.length ≤ 4611686018427387904) (ok : ∀ x, x ∈ l → okOp x) : Ev (fun k => skiffref16_Upload.f k f a0 a1 a2 a3 a4 l b n) (giveV f a0 a1 a2 a3 a4 l b n) := by
 have no : ¬ giveOk f a0 a1 a2 a3 a4 l b n → Ev (fun k => skiffref16_Upload.j0 k f b n true a0 a1 a2 a3 a4 l) (giveV f a0 a1 a2 a3 a4 l b n) := fun h => Ev.one fun k => by
  rw [skiffref16_Upload.j0, if_pos rfl]; unfold giveV; rw [if_neg h]; rfl
 have yes : giveOk f a0 a1 a2 a3 a4 l b n → Ev (fun k => skiffref16_Upload.j0 k f b n false a0 a1 a2 a3 a4 l) (giveV f a0 a1 a2 a3 a4 l b n) := fun h => by
  have hh := h
  obtain ⟨hs, hd, h0, b0, b1, n0, n1⟩ := h
  have db := devMay_b hd
  refine Ev.step (fun k => by rw [skiffref16_Upload.j0, if_neg (by decide)]) ?_
  refine Ev.bind (ref_Active_ev f) ?_
  unfold giveV
  rw [if_pos hh]
  cases ha : act f with
  | none =>
   simp only [actV_none hs ha, show ¬ ((701 : Int) = 0) by decide, if_false]
   exact Ev.always fun k => rfl
  | some x =>
   simp only [actV_some hs ha, if_true]
   by_cases c : a0 = 0
   ·simp only [if_pos c]
    have e : nextB a0 a2 = 0 := by unfold nextB; rw [if_pos c]
    rw [e]
    exact ref_one f a0 a1 a2 a3 a4 l b n 0 x hs ha (by omega) (by omega) (by omega) n0 n1
   ·simp only [if_neg c]
    have e : nextB a0 a2 = a2 := by unfold nextB; rw [if_neg c]
    rw [e]
    exact ref_one f a0 a1 a2 a3 a4 l b n a2 x hs ha (by omega) (by omega) (by omega) n0 n1
 unfold skiffref16_Upload.f
 refine Ev.bind (both_ev f a0 a1 a2 a3 a4 l hl ok) ?_
 simp only [upTo16_eq, Option.bind_some]
 by_cases h : f.size = 768 ∧ devMay a0 a1 a2 a3 a4 l = true
 ·simp only [decide_eq_true h.1, h.2, Bool.and_self, if_true]
  by_cases hb : 0 ≤ b ∧ b ≤ 65535
  ·simp only [decide_eq_true hb, if_true]
   by_cases hn : 0 ≤ n ∧ n ≤ 32
   ·simp only [decide_eq_true hn, Bool.not_true]
    by_cases c : a0 = 0
    ·simp only [if_pos c]; exact yes ⟨h.1, h.2, Or.inl c, hb.1, hb.2, hn.1, hn.2⟩
    ·simp only [if_neg c]
     by_cases c6 : a0 = 6
     ·simp only [if_pos c6]; exact yes ⟨h.1, h.2, Or.inr c6, hb.1, hb.2, hn.1, hn.2⟩
     ·simp only [if_neg c6]; exact no (fun x => by rcases x.2.2.1 with y | y; exact c y; exact c6 y)
   ·have hno : ¬ giveOk f a0 a1 a2 a3 a4 l b n := fun x => hn ⟨x.2.2.2.2.2.1, x.2.2.2.2.2.2⟩
    simp only [decide_eq_false hn, Bool.not_false]
    by_cases c : a0 = 0
    ·simp only [if_pos c]; exact no hno
    ·simp only [if_neg c]
     by_cases c6 : a0 = 6
     ·simp only [if_pos c6]; exact no hno
     ·simp only [if_neg c6]; exact no hno
  ·have hno : ¬ giveOk f a0 a1 a2 a3 a4 l b n := fun x => hb ⟨x.2.2.2.1, x.2.2.2.2.1⟩
   simp only [decide_eq_false hb, Bool.false_eq_true, if_false]
   by_cases c : a0 = 0
   ·simp only [if_pos c]; exact no hno
   ·simp only [if_neg c]
    by_cases c6 : a0 = 6
    ·simp only [if_pos c6]; exact no hno
    ·simp only [if_neg c6]; exact no hno
 ·have e : (decide (f.size = 768) && devMay a0 a1 a2 a3 a4 l) = false := by
   rw [Bool.and_eq_false_iff, decide_eq_false_iff_not]
   by_cases h1 : f.size = 768
   ·right; simpa using fun x => h ⟨h1, x⟩
   ·exact Or.inl h1
  simp only [e, Bool.false_eq_true, if_false]
  exact no (fun x => h ⟨x.1, x.2.1⟩)
end Go.Proofs.Ytjadcjkjpkkmkaa.M
/- Uploads: what the program reads back is what the reference reads back, of any flash and any device that lies in memory: told of plain numbers and lists, no memory in sight. -/
set_option linter.unusedSimpArgs false
set_option linter.unusedVariables false
namespace Go.Proofs.Ytjadcjkjpkkmkaa.Pure
open Go.RowKit Go.Proofs.Ytjadcjkjpkkmkaa.PAll Go.Proofs.YtjadcjkjpkkmkaaW.PrintWords Go.Proofs.YtjadcjkjpkkmkaaW.PrintLast Go.Proofs.YtjadcjkjpkkmkaaW.PrintMore Go.Proofs.Ytjadcjkjpkkmkaa.M Go.Proofs.Ytjadcjkjpkkmkaa.Hand
theorem giveV_none {f : ByteArray} {a0 a1 a2 a3 a4 : Int} {l : List S87} {b n : Int} (h : giveOk f a0 a1 a2 a3 a4 l b n) (ha : act f = none) : giveV f a0 a1 a2 a3 a4 l b n = flat8 (failD 2) ⟨#[]⟩ 0 := by
 unfold giveV; rw [if_pos h, ha]
theorem giveV_addr {f : ByteArray} {a0 a1 a2 a3 a4 : Int} {l : List S87} {b n : Int} {x : S25} (h : giveOk f a0 a1 a2 a3 a4 l b n) (ha : act f = some x) (hb : ¬ b = nextB a0 a2) : giveV f a0 a1 a2 a3 a4 l b n = flat8 (failD 4) ⟨#[]⟩ 0 := by
 unfold giveV; rw [if_pos h, ha]; exact if_neg hb
theorem giveV_end {f : ByteArray} {a0 a1 a2 a3 a4 : Int} {l : List S87} {b n : Int} {x : S25} {q sl sz sm : Int} (h : giveOk f a0 a1 a2 a3 a4 l b n) (ha : act f = some x) (hx : x.f1 = ⟨q, sl, sz, sm⟩) (hb : b = nextB a0 a2)
  {s : ByteArray} (hs : blockOf (imgF f sl sz) (nextB a0 a2) n = s) (hz : s.size < 32) : giveV f a0 a1 a2 a3 a4 l b n = flat8 newD s 0 := by
 unfold giveV; rw [if_pos h, ha]
 show (if b = nextB a0 a2 then (if (blockOf (imgF f x.f1.f1 x.f1.f2) (nextB a0 a2) n).size < 32 then flat8 newD (blockOf (imgF f x.f1.f1 x.f1.f2) (nextB a0 a2) n) 0 else flat8 (6, a1, mn (nextB a0 a2 + 1) 16, a3, a4, l) (blockOf (imgF f x.f1.f1 x.f1.f2) (nextB a0 a2) n) 0) else flat8 (failD 4) ⟨#[]⟩ 0) = _
 rw [if_pos hb, hx]
 show (if (blockOf (imgF f sl sz) (nextB a0 a2) n).size < 32 then flat8 newD (blockOf (imgF f sl sz) (nextB a0 a2) n) 0 else flat8 (6, a1, mn (nextB a0 a2 + 1) 16, a3, a4, l) (blockOf (imgF f sl sz) (nextB a0 a2) n) 0) = _
 rw [hs, if_pos hz]
theorem giveV_no {f : ByteArray} {a0 a1 a2 a3 a4 : Int} {l : List S87} {b n : Int} (h : ¬ giveOk f a0 a1 a2 a3 a4 l b n) : giveV f a0 a1 a2 a3 a4 l b n = flat8 newD ⟨#[]⟩ 2000 := by
 unfold giveV; rw [if_neg h]
theorem giveV_len (f : ByteArray) (a0 a1 a2 a3 a4 : Int) (l : List S87) (b n : Int) : (giveV f a0 a1 a2 a3 a4 l b n).2.2.2.2.2.1.length ≤ l.length := by
 unfold giveV
 split
 ·split
  ·exact Nat.zero_le _
  ·split
   ·split
    ·exact Nat.zero_le _
    ·exact Nat.le_refl _
   ·exact Nat.zero_le _
 ·exact Nat.zero_le _
theorem idle_may : devMay 0 0 0 0 0 [] = true := by decide
theorem give_held0 : giveV heldF 0 0 0 0 0 [] 0 32 = flat8 newD ab 0 := by
 refine giveV_end (x := place1) (q := 1) (sl := 0) (sz := 12) (sm := abSum) ⟨heldF_size, idle_may, by omega, by omega, by omega, by omega, by omega⟩ act_held rfl (by decide) (s := ab) ?_ (by decide)
 rw [heldF_ab]; decide +kernel
theorem give_held1 : giveV heldF 0 0 0 0 0 [] 1 32 = flat8 (failD 4) ⟨#[]⟩ 0 :=
 giveV_addr ⟨heldF_size, idle_may, by omega, by omega, by omega, by omega, by omega⟩ act_held (by decide)
theorem give_blank : giveV (ff 768) 0 0 0 0 0 [] 0 32 = flat8 (failD 2) ⟨#[]⟩ 0 :=
 giveV_none ⟨ff_size 768, idle_may, by omega, by omega, by omega, by omega, by omega⟩ act_blank
theorem give_busy : giveV heldF 2 0 0 0 0 [] 0 32 = flat8 newD ⟨#[]⟩ 2000 := giveV_no (fun h => by have := h.2.2.1; omega)
theorem ab_list : ab.toList = ([97, 98, 97, 98, 97, 98, 97, 98, 97, 98, 97, 98] : List UInt8) := by decide +kernel
theorem nil_list : (⟨#[]⟩ : ByteArray).toList = ([] : List UInt8) := by decide +kernel
theorem awake20 : Ev (fun k => skifflaw20_awake.f k) true := by
 have h0 := Give_ev heldF 0 0 0 0 0 [] 0 32
 rw [give_held0] at h0
 have h1 := Give_ev heldF 0 0 0 0 0 [] 1 32
 rw [give_held1] at h1
 have h2 := Give_ev (ff 768) 0 0 0 0 0 [] 0 32
 rw [give_blank] at h2
 have h3 := Give_ev heldF 2 0 0 0 0 [] 0 32
 rw [give_busy] at h3
 unfold skifflaw20_awake.f
 refine Ev.bind held20 (Ev.bind h0 (Ev.bind held20 (Ev.bind h1 (Ev.bind Blank_ev (Ev.bind h2 (Ev.bind held20 (Ev.bind h3 ?_)))))))
 have e : skiffref16_NewDevice.f = some newD := rfl
 simp only [e, Option.bind_some]
 refine Ev.bind (sameDevice 0 0 0 0 0 [] (by simp)) ?_
 exact Ev.always fun k => by
  simp only [Num_eq, Option.bind_some, flat8, failD, newD, ab_list, nil_list]
  simp
theorem Uploads_ev (f : ByteArray) (a0 a1 a2 a3 a4 : Int) (l : List S87) (b n : Int) (hl : l.length < 4398046511104) (ok : ∀ x, x ∈ l → okOp x) : Ev (fun k => skifflaw20_Uploads.f k f a0 a1 a2 a3 a4 l b n) true := by
 have hL := giveV_len f a0 a1 a2 a3 a4 l b n
 have h1 := Give_ev f a0 a1 a2 a3 a4 l b n
 have h2 := ref_Upload_ev f a0 a1 a2 a3 a4 l b n (by omega) ok
 revert hL h1 h2
 generalize giveV f a0 a1 a2 a3 a4 l b n = g
 obtain ⟨g0, g1, g2, g3, g4, gl, gs, ge⟩ := g
 intro hL h1 h2
 have hL' : gl.length ≤ l.length := hL
 unfold skifflaw20_Uploads.f
 simp only [CopyDevice_eq a0 a1 a2 a3 a4 l hl, Option.bind_some]
 refine Ev.bind h1 (Ev.bind h2 (Ev.bind (sameDevice g0 g1 g2 g3 g4 gl (by omega)) ?_))
 simp only [if_true, Num_eq, Option.bind_some, bne_self_eq_false]
 obtain ⟨r, hr⟩ := spoilDevice g0 g1 g2 g3 g4 gl (by omega)
 refine Ev.step (fun k => by rw [skifflaw20_Uploads.j0, if_neg (by decide)]) ?_
 refine Ev.bind hr (Ev.bind (sameDevice a0 a1 a2 a3 a4 l (by omega)) ?_)
 simp only [if_true]
 exact Ev.bind awake20 (Ev.now _)
theorem Uploads (f : ByteArray) (a0 a1 a2 a3 a4 : Int) (l : List S87) (b n : Int) (hl : l.length < 4398046511104) (ok : ∀ x, x ∈ l → okOp x) : ∃ k, skifflaw20_Uploads.f k f a0 a1 a2 a3 a4 l b n = some true := by
 obtain ⟨k, hk⟩ := Uploads_ev f a0 a1 a2 a3 a4 l b n hl ok
 exact ⟨k, hk k (Nat.le_refl k)⟩
end Go.Proofs.Ytjadcjkjpkkmkaa.Pure
