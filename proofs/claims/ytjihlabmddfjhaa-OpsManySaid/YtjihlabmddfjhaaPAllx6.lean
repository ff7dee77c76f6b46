-- Written by this session's own program (wip/tools/myprint.py), which runs the kit's print over functions proved by hand.
import Derived.Test.YtjihlabmddfjhaaPAllx0
import Derived.Test.YtjihlabmddfjhaaPAllx3
import Derived.Test.YtjihlabmddfjhaaPAllx4
import Derived.Test.YtjihlabmddfjhaaPAllx5
namespace Go.Proofs.Ytjihlabmddfjhaa.PAll
open Go.RowKit Go.Proofs.YtjihlabmddfjhaaW.PrintWords Go.Proofs.YtjihlabmddfjhaaW.PrintLast Go.Proofs.YtjihlabmddfjhaaW.PrintMore
attribute [local go_sem] max2_int min2_int max_two min_two max_three min_three max_four min_four   -- for this text's walks alone
set_option linter.unusedVariables false
set_option linter.unusedSimpArgs false

/-! ### skifflaw3_awake: function 26 -/
def skifflaw3_awake.j0 : Nat → ByteArray → List (S35) → Int → ByteArray → Int → ByteArray → Int → ByteArray → Int → Int → Int → Bool → Option (Bool)
  | 0, _, _, _, _, _, _, _, _, _, _, _, _ => none
  | k + 1, x1, x2, x3, x4, x5, x6, x7, x8, x9, x11, x13, x65 => if x65 = true then (none) else ((skifflaw0_SameOps.f k x2 (([(⟨false, 8, (⟨#[97, 98, 99, 100]⟩ : ByteArray)⟩ : S35), (⟨false, 12, (⟨#[101, 255, 255, 255]⟩ : ByteArray)⟩ : S35)] : List (S35)))).bind fun t180 => (if t180 = true then ((skifflaw0_Num.f x3).bind fun t181 => (if t181 = 0 then (if 12 ≤ 16 then (if 16 ≤ (x4.size : Int) then (if (x4.extract 12 16).toList = ([101, 255, 255, 255] : List UInt8) then ((skifflaw0_Num.f x5).bind fun t182 => (if t182 = 0 then (if 12 < (x6.size : Int) then (if (bt x6 12) = 253 then ((skifflaw0_Num.f x7).bind fun t183 => (if t183 = 0 then (if x8.toList = x1.toList then ((skifflaw0_Num.f x9).bind fun t184 => (if t184 = 0 then ((skifflaw0_Num.f x11).bind fun t185 => (if t185 = 300 then ((skifflaw0_Num.f x13).bind fun t186 => (if t186 = 300 then (if 0 < (x2.length : Int) then ((ops_May.f ((rd_T35 x2 0).f0) ((rd_T35 x2 0).f1) ((rd_T35 x2 0).f2)).bind fun t188 => (some t188)) else (none)) else (none))) else (none))) else (none))) else (none)) else (none))) else (none)) else (none)) else (none))) else (none)) else (none)) else (none)) else (none))) else (none)))
def skifflaw3_awake.f (k : Nat)  : Option (Bool) := (skiffref1_Blank.f k).bind fun t158 => ((ops_Words.f k 8 (⟨#[97, 98, 99, 100, 101]⟩ : ByteArray)).bind fun bt159 => (if (bt159.1.length : Int) = 2 then (if 1 < (bt159.1.length : Int) then ((ops_Do.f k t158 ((rd_T35 bt159.1 1).f0) ((rd_T35 bt159.1 1).f1) ((rd_T35 bt159.1 1).f2)).bind fun bt164 => ((ops_Cut.f k t158 ((rd_T35 bt159.1 1).f0) ((rd_T35 bt159.1 1).f1) ((rd_T35 bt159.1 1).f2) 3).bind fun bt167 => ((ops_Do.f k bt164.1 true 0 (⟨#[]⟩ : ByteArray)).bind fun bt169 => ((ops_Words.f k 6 (⟨#[97, 98, 99, 100]⟩ : ByteArray)).bind fun bt171 => ((ops_Do.f k t158 true 4 (⟨#[]⟩ : ByteArray)).bind fun bt175 => (if (bt164.1.size : Int) = (t158.size : Int) then (skifflaw3_awake.j0 k t158 bt159.1 bt159.2 bt164.1 bt164.2 bt167.1 bt167.2 bt169.1 bt169.2 bt171.2 bt175.2 ((bt167.1.size : Int) != (t158.size : Int))) else (skifflaw3_awake.j0 k t158 bt159.1 bt159.2 bt164.1 bt164.2 bt167.1 bt167.2 bt169.1 bt169.2 bt171.2 bt175.2 true))))))) else (none)) else (none)))
theorem skifflaw3_awake.mono_l : ∀ k, (∀ y0 y1 y2 y3 y4 y5 y6 y7 y8 y9 y10 y11, LeO (skifflaw3_awake.j0 k y0 y1 y2 y3 y4 y5 y6 y7 y8 y9 y10 y11) (skifflaw3_awake.j0 (k + 1) y0 y1 y2 y3 y4 y5 y6 y7 y8 y9 y10 y11))
  | 0 => fun _ _ _ _ _ _ _ _ _ _ _ _ r h => by simp [skifflaw3_awake.j0] at h
  | k + 1 => by
    have ih0 := skifflaw3_awake.mono_l k
    · intro y0 y1 y2 y3 y4 y5 y6 y7 y8 y9 y10 y11
      unfold skifflaw3_awake.j0
      repeat' first
      | (with_reducible exact ih0 _ _ _ _ _ _ _ _ _ _ _ _)
      | (with_reducible exact ops_Cut.mono _ _ _ _ _ _)
      | (with_reducible exact ops_Do.mono _ _ _ _ _)
      | (with_reducible exact ops_Words.mono _ _ _)
      | (with_reducible exact skifflaw0_SameOps.mono _ _ _)
      | (with_reducible exact skiffref1_Blank.mono _)
      | (with_reducible exact LeO.refl _)
      | (with_reducible exact LeO.none _)
      | (with_reducible refine LeO.ite ?_ ?_)
      | (with_reducible refine LeO.bind ?_ (fun _ => ?_))
      | exact ih0 _ _ _ _ _ _ _ _ _ _ _ _
      | exact ops_Cut.mono _ _ _ _ _ _
      | exact ops_Do.mono _ _ _ _ _
      | exact ops_Words.mono _ _ _
      | exact skifflaw0_SameOps.mono _ _ _
      | exact skiffref1_Blank.mono _
      | exact LeO.none _
      | refine LeO.ite ?_ ?_
      | refine LeO.bind ?_ (fun _ => ?_)
theorem skifflaw3_awake.mono : ∀ k, LeO (skifflaw3_awake.f k ) (skifflaw3_awake.f (k + 1) ) := by
  intro  k
  have ih0 := skifflaw3_awake.mono_l k
  unfold skifflaw3_awake.f
  repeat' first
      | (with_reducible exact ih0 _ _ _ _ _ _ _ _ _ _ _ _)
      | (with_reducible exact ops_Cut.mono _ _ _ _ _ _)
      | (with_reducible exact ops_Do.mono _ _ _ _ _)
      | (with_reducible exact ops_Words.mono _ _ _)
      | (with_reducible exact skifflaw0_SameOps.mono _ _ _)
      | (with_reducible exact skiffref1_Blank.mono _)
      | (with_reducible exact LeO.refl _)
      | (with_reducible exact LeO.none _)
      | (with_reducible refine LeO.ite ?_ ?_)
      | (with_reducible refine LeO.bind ?_ (fun _ => ?_))
      | exact ih0 _ _ _ _ _ _ _ _ _ _ _ _
      | exact ops_Cut.mono _ _ _ _ _ _
      | exact ops_Do.mono _ _ _ _ _
      | exact ops_Words.mono _ _ _
      | exact skifflaw0_SameOps.mono _ _ _
      | exact skiffref1_Blank.mono _
      | exact LeO.none _
      | refine LeO.ite ?_ ?_
      | refine LeO.bind ?_ (fun _ => ?_)
set_option maxHeartbeats 8000000 in
set_option maxRecDepth 100000 in
theorem skifflaw3_awake.calls (k : Nat)  (r : Bool) (w : World) (h : skifflaw3_awake.f k  = some r) :
    Calls Try.prog 26 #[] w fun e w' => e = .returned (.bool r) ∧ Below w.heap.size w w' := by
  have hu35 := Try.underlying35
  have HB := Aside0.mk (Below.refl w.heap.size w)
  have H : ((skiffref1_Blank.f k).bind fun t158 => ((ops_Words.f k 8 (⟨#[97, 98, 99, 100, 101]⟩ : ByteArray)).bind fun bt159 => (if (bt159.1.length : Int) = 2 then (if 1 < (bt159.1.length : Int) then ((ops_Do.f k t158 ((rd_T35 bt159.1 1).f0) ((rd_T35 bt159.1 1).f1) ((rd_T35 bt159.1 1).f2)).bind fun bt164 => ((ops_Cut.f k t158 ((rd_T35 bt159.1 1).f0) ((rd_T35 bt159.1 1).f1) ((rd_T35 bt159.1 1).f2) 3).bind fun bt167 => ((ops_Do.f k bt164.1 true 0 (⟨#[]⟩ : ByteArray)).bind fun bt169 => ((ops_Words.f k 6 (⟨#[97, 98, 99, 100]⟩ : ByteArray)).bind fun bt171 => ((ops_Do.f k t158 true 4 (⟨#[]⟩ : ByteArray)).bind fun bt175 => (if (bt164.1.size : Int) = (t158.size : Int) then (skifflaw3_awake.j0 k t158 bt159.1 bt159.2 bt164.1 bt164.2 bt167.1 bt167.2 bt169.1 bt169.2 bt171.2 bt175.2 ((bt167.1.size : Int) != (t158.size : Int))) else (skifflaw3_awake.j0 k t158 bt159.1 bt159.2 bt164.1 bt164.2 bt167.1 bt167.2 bt169.1 bt169.2 bt171.2 bt175.2 true))))))) else (none)) else (none)))) = some r := h
  clear h
  replace H := Option.bind_eq_some_iff.mp H
  obtain ⟨t158, A10, H⟩ := H
  replace H : ((ops_Words.f k 8 (⟨#[97, 98, 99, 100, 101]⟩ : ByteArray)).bind fun bt159 => (if (bt159.1.length : Int) = 2 then (if 1 < (bt159.1.length : Int) then ((ops_Do.f k t158 ((rd_T35 bt159.1 1).f0) ((rd_T35 bt159.1 1).f1) ((rd_T35 bt159.1 1).f2)).bind fun bt164 => ((ops_Cut.f k t158 ((rd_T35 bt159.1 1).f0) ((rd_T35 bt159.1 1).f1) ((rd_T35 bt159.1 1).f2) 3).bind fun bt167 => ((ops_Do.f k bt164.1 true 0 (⟨#[]⟩ : ByteArray)).bind fun bt169 => ((ops_Words.f k 6 (⟨#[97, 98, 99, 100]⟩ : ByteArray)).bind fun bt171 => ((ops_Do.f k t158 true 4 (⟨#[]⟩ : ByteArray)).bind fun bt175 => (if (bt164.1.size : Int) = (t158.size : Int) then (skifflaw3_awake.j0 k t158 bt159.1 bt159.2 bt164.1 bt164.2 bt167.1 bt167.2 bt169.1 bt169.2 bt171.2 bt175.2 ((bt167.1.size : Int) != (t158.size : Int))) else (skifflaw3_awake.j0 k t158 bt159.1 bt159.2 bt164.1 bt164.2 bt167.1 bt167.2 bt169.1 bt169.2 bt171.2 bt175.2 true))))))) else (none)) else (none))) = some r := H
  have A1 := Aside0.mk A10
  clear A10
  replace H := Option.bind_eq_some_iff.mp H
  obtain ⟨⟨t159, t160⟩, A20, H⟩ := H
  replace H : (if (t159.length : Int) = 2 then (if 1 < (t159.length : Int) then ((ops_Do.f k t158 ((rd_T35 t159 1).f0) ((rd_T35 t159 1).f1) ((rd_T35 t159 1).f2)).bind fun bt164 => ((ops_Cut.f k t158 ((rd_T35 t159 1).f0) ((rd_T35 t159 1).f1) ((rd_T35 t159 1).f2) 3).bind fun bt167 => ((ops_Do.f k bt164.1 true 0 (⟨#[]⟩ : ByteArray)).bind fun bt169 => ((ops_Words.f k 6 (⟨#[97, 98, 99, 100]⟩ : ByteArray)).bind fun bt171 => ((ops_Do.f k t158 true 4 (⟨#[]⟩ : ByteArray)).bind fun bt175 => (if (bt164.1.size : Int) = (t158.size : Int) then (skifflaw3_awake.j0 k t158 t159 t160 bt164.1 bt164.2 bt167.1 bt167.2 bt169.1 bt169.2 bt171.2 bt175.2 ((bt167.1.size : Int) != (t158.size : Int))) else (skifflaw3_awake.j0 k t158 t159 t160 bt164.1 bt164.2 bt167.1 bt167.2 bt169.1 bt169.2 bt171.2 bt175.2 true))))))) else (none)) else (none)) = some r := H
  have A2 := Aside0.mk A20
  clear A20
  by_cases c3 : (t159.length : Int) = 2
  · rw [if_pos c3] at H
    have c3b0 : ((t159.length : Int) == 2) = true := beq_iff_eq.mpr c3
    have c3b1 : ((t159.length : Int) != 2) = false := bne_eq_false_iff_eq.mpr c3
    clear c3
    by_cases c4 : 1 < (t159.length : Int)
    · rw [if_pos c4] at H
      have c4b0 : decide (1 < (t159.length : Int)) = true := decide_eq_true c4
      have c4b1 : decide (1 < t159.length) = true := decide_eq_true (by omega)
      clear c4
      replace H := Option.bind_eq_some_iff.mp H
      obtain ⟨⟨t164, t165⟩, A50, H⟩ := H
      replace H : ((ops_Cut.f k t158 ((rd_T35 t159 1).f0) ((rd_T35 t159 1).f1) ((rd_T35 t159 1).f2) 3).bind fun bt167 => ((ops_Do.f k t164 true 0 (⟨#[]⟩ : ByteArray)).bind fun bt169 => ((ops_Words.f k 6 (⟨#[97, 98, 99, 100]⟩ : ByteArray)).bind fun bt171 => ((ops_Do.f k t158 true 4 (⟨#[]⟩ : ByteArray)).bind fun bt175 => (if (t164.size : Int) = (t158.size : Int) then (skifflaw3_awake.j0 k t158 t159 t160 t164 t165 bt167.1 bt167.2 bt169.1 bt169.2 bt171.2 bt175.2 ((bt167.1.size : Int) != (t158.size : Int))) else (skifflaw3_awake.j0 k t158 t159 t160 t164 t165 bt167.1 bt167.2 bt169.1 bt169.2 bt171.2 bt175.2 true)))))) = some r := H
      have A5 := Aside0.mk A50
      clear A50
      replace H := Option.bind_eq_some_iff.mp H
      obtain ⟨⟨t167, t168⟩, A60, H⟩ := H
      replace H : ((ops_Do.f k t164 true 0 (⟨#[]⟩ : ByteArray)).bind fun bt169 => ((ops_Words.f k 6 (⟨#[97, 98, 99, 100]⟩ : ByteArray)).bind fun bt171 => ((ops_Do.f k t158 true 4 (⟨#[]⟩ : ByteArray)).bind fun bt175 => (if (t164.size : Int) = (t158.size : Int) then (skifflaw3_awake.j0 k t158 t159 t160 t164 t165 t167 t168 bt169.1 bt169.2 bt171.2 bt175.2 ((t167.size : Int) != (t158.size : Int))) else (skifflaw3_awake.j0 k t158 t159 t160 t164 t165 t167 t168 bt169.1 bt169.2 bt171.2 bt175.2 true))))) = some r := H
      have A6 := Aside0.mk A60
      clear A60
      replace H := Option.bind_eq_some_iff.mp H
      obtain ⟨⟨t169, t170⟩, A70, H⟩ := H
      replace H : ((ops_Words.f k 6 (⟨#[97, 98, 99, 100]⟩ : ByteArray)).bind fun bt171 => ((ops_Do.f k t158 true 4 (⟨#[]⟩ : ByteArray)).bind fun bt175 => (if (t164.size : Int) = (t158.size : Int) then (skifflaw3_awake.j0 k t158 t159 t160 t164 t165 t167 t168 t169 t170 bt171.2 bt175.2 ((t167.size : Int) != (t158.size : Int))) else (skifflaw3_awake.j0 k t158 t159 t160 t164 t165 t167 t168 t169 t170 bt171.2 bt175.2 true)))) = some r := H
      have A7 := Aside0.mk A70
      clear A70
      replace H := Option.bind_eq_some_iff.mp H
      obtain ⟨⟨t171, t172⟩, A80, H⟩ := H
      replace H : ((ops_Do.f k t158 true 4 (⟨#[]⟩ : ByteArray)).bind fun bt175 => (if (t164.size : Int) = (t158.size : Int) then (skifflaw3_awake.j0 k t158 t159 t160 t164 t165 t167 t168 t169 t170 t172 bt175.2 ((t167.size : Int) != (t158.size : Int))) else (skifflaw3_awake.j0 k t158 t159 t160 t164 t165 t167 t168 t169 t170 t172 bt175.2 true))) = some r := H
      have A8 := Aside0.mk A80
      clear A80
      replace H := Option.bind_eq_some_iff.mp H
      obtain ⟨⟨t175, t176⟩, A90, H⟩ := H
      replace H : (if (t164.size : Int) = (t158.size : Int) then (skifflaw3_awake.j0 k t158 t159 t160 t164 t165 t167 t168 t169 t170 t172 t176 ((t167.size : Int) != (t158.size : Int))) else (skifflaw3_awake.j0 k t158 t159 t160 t164 t165 t167 t168 t169 t170 t172 t176 true)) = some r := H
      have A9 := Aside0.mk A90
      clear A90
      have HC10 := Aside0.mk H
      clear H
      go_enter Try.func26, Try.ntmps26
      go_upto_region 10 with (first | ((with_reducible refine gate_callee (f := 27) rfl ?_); refine goesL_ (some 14) rfl rfl Try.func27 (by kernel_rfl) rfl #[] rfl (by (try simp only [List.map_toArray, List.map_cons, List.map_nil]); first | done | rfl | (simp only [List.length_drop, List.length_take]; rfl)) ?_; (with_reducible refine (skiffref1_Blank.calls k  t158 _ A1.out).mono ?_); rintro e w11 ⟨rfl, hb⟩; refine ⟨_, rfl, ?_⟩; have n0_ := Aside0.mk (below_step (by repeat (first | (with_reducible first | exact HB.out | apply below_alloc | apply pw_below_drewN | apply below_drew1) | exact HB.out)) hb); clear HB; have HB := n0_; clear n0_; (try clear hb); (try clear hb2); (try clear hk); (try clear hi)) | ((with_reducible refine gate_callee (f := 16) rfl ?_); refine goesL_ (some 16) rfl rfl Try.func16 (by kernel_rfl) rfl #[.int .i64 8, .string (⟨#[97, 98, 99, 100, 101]⟩ : ByteArray)] rfl (by (try simp only [List.map_toArray, List.map_cons, List.map_nil]); first | done | rfl | (simp only [List.length_drop, List.length_take]; rfl)) ?_; (with_reducible refine (ops_Words.calls k 8 (⟨#[97, 98, 99, 100, 101]⟩ : ByteArray) t159 t160 _ A2.out).mono ?_); rintro e w12 ⟨v161, rfl, ho0, hb⟩; refine ⟨_, rfl, ?_⟩; have n0_ := Aside0.mk (Kd.R_lower ho0 (below_size (by repeat (first | (with_reducible first | exact HB.out | apply below_alloc | apply pw_below_drewN | apply below_drew1) | exact HB.out)))); have n1_ := Aside0.mk (below_step (by repeat (first | (with_reducible first | exact HB.out | apply below_alloc | apply pw_below_drewN | apply below_drew1) | exact HB.out)) hb); clear HB; have HO162 := n0_; have HB := n1_; clear n0_ n1_; (try clear hb); (try clear hb2); (try clear hk); (try clear hi); (try clear ho0); obtain ⟨Ao13, co13, eo13⟩ := Kd.R_slice HO162.out; subst eo13; have p163 : 0 ≤ (1 : Int) := (by omega); have q163 : 1 < (t159.length : Int) := of_decide_eq_true (by first | (with_reducible assumption) | assumption); obtain ⟨ad163, e163, hx163_0, hx163_1, hx163_2⟩ := at_T35 (Kd.R_reads' HO162.out).2.2 1 p163 q163; cases e163; (try simp only [show (1 : Int).toNat = 1 from rfl, Nat.reduceMul, Nat.reduceEqDiff, Go.Addr.add, ↓reduceIte] at hx163_0); (try simp only [show (1 : Int).toNat = 1 from rfl, Nat.reduceMul, Nat.reduceEqDiff, Go.Addr.add, ↓reduceIte] at hx163_1); (try simp only [show (1 : Int).toNat = 1 from rfl, Nat.reduceMul, Nat.reduceEqDiff, Go.Addr.add, ↓reduceIte] at hx163_2); have qi163 : (1 < t159.length) = True := eq_true (by omega); (try rw [show ((1 : Int)).toNat = 1 from rfl] at hx163_0); (try rw [show 1 * 3 = 3 from rfl] at hx163_0); (try rw [show ((1 : Int)).toNat = 1 from rfl] at hx163_1); (try rw [show 1 * 3 = 3 from rfl] at hx163_1); (try rw [show ((1 : Int)).toNat = 1 from rfl] at hx163_2); (try rw [show 1 * 3 = 3 from rfl] at hx163_2); replace p163 := eq_true p163; replace q163 := eq_true q163) | ((with_reducible refine gate_callee (f := 18) rfl ?_); refine goesL_ (some 27) rfl rfl Try.func18 (by kernel_rfl) rfl #[.string t158, .agg #[.bool ((rd_T35 t159 1).f0), .int .i64 ((rd_T35 t159 1).f1), .string ((rd_T35 t159 1).f2)]] rfl (by (try simp only [List.map_toArray, List.map_cons, List.map_nil]); first | done | rfl | (simp only [List.length_drop, List.length_take]; rfl)) ?_; (with_reducible refine (ops_Do.calls k t158 ((rd_T35 t159 1).f0) ((rd_T35 t159 1).f1) ((rd_T35 t159 1).f2) t164 t165 _ A5.out).mono ?_); rintro e w14 ⟨rfl, hb⟩; refine ⟨_, rfl, ?_⟩; have n0_ := Aside0.mk (Kd.R_below (by (with_reducible repeat (first | apply Kd.R_alloc | apply Kd.R_drewN | apply Kd.R_drew)); exact HO162.out) hb); have n1_ := Aside0.mk (below_step (by repeat (first | (with_reducible first | exact HB.out | apply below_alloc | apply pw_below_drewN | apply below_drew1) | exact HB.out)) hb); clear HO162; clear HB; have HO162 := n0_; have HB := n1_; clear n0_ n1_; (try clear hb); (try clear hb2); (try clear hk); (try clear hi); have p166 : 0 ≤ (1 : Int) := (by omega); have q166 : 1 < (t159.length : Int) := of_decide_eq_true (by first | (with_reducible assumption) | assumption); obtain ⟨ad166, e166, hx166_0, hx166_1, hx166_2⟩ := at_T35 (Kd.R_reads' HO162.out).2.2 1 p166 q166; obtain rfl : ad163 = ad166 := (by injection e166); (try simp only [show (1 : Int).toNat = 1 from rfl, Nat.reduceMul, Nat.reduceEqDiff, Go.Addr.add, ↓reduceIte] at hx166_0); (try simp only [show (1 : Int).toNat = 1 from rfl, Nat.reduceMul, Nat.reduceEqDiff, Go.Addr.add, ↓reduceIte] at hx166_1); (try simp only [show (1 : Int).toNat = 1 from rfl, Nat.reduceMul, Nat.reduceEqDiff, Go.Addr.add, ↓reduceIte] at hx166_2); have qi166 : (1 < t159.length) = True := eq_true (by omega); (try rw [show ((1 : Int)).toNat = 1 from rfl] at hx166_0); (try rw [show 1 * 3 = 3 from rfl] at hx166_0); (try rw [show ((1 : Int)).toNat = 1 from rfl] at hx166_1); (try rw [show 1 * 3 = 3 from rfl] at hx166_1); (try rw [show ((1 : Int)).toNat = 1 from rfl] at hx166_2); (try rw [show 1 * 3 = 3 from rfl] at hx166_2); replace p166 := eq_true p166; replace q166 := eq_true q166) | ((with_reducible refine gate_callee (f := 21) rfl ?_); refine goesL_ (some 35) rfl rfl Try.func21 (by kernel_rfl) rfl #[.string t158, .agg #[.bool ((rd_T35 t159 1).f0), .int .i64 ((rd_T35 t159 1).f1), .string ((rd_T35 t159 1).f2)], .int .i64 3] rfl (by (try simp only [List.map_toArray, List.map_cons, List.map_nil]); first | done | rfl | (simp only [List.length_drop, List.length_take]; rfl)) ?_; (with_reducible refine (ops_Cut.calls k t158 ((rd_T35 t159 1).f0) ((rd_T35 t159 1).f1) ((rd_T35 t159 1).f2) 3 t167 t168 _ A6.out).mono ?_); rintro e w15 ⟨rfl, hb⟩; refine ⟨_, rfl, ?_⟩; have n0_ := Aside0.mk (Kd.R_below (by (with_reducible repeat (first | apply Kd.R_alloc | apply Kd.R_drewN | apply Kd.R_drew)); exact HO162.out) hb); have n1_ := Aside0.mk (below_step (by repeat (first | (with_reducible first | exact HB.out | apply below_alloc | apply pw_below_drewN | apply below_drew1) | exact HB.out)) hb); clear HO162; clear HB; have HO162 := n0_; have HB := n1_; clear n0_ n1_; (try clear hb); (try clear hb2); (try clear hk); (try clear hi)) | ((with_reducible refine gate_callee (f := 18) rfl ?_); refine goesL_ (some 41) rfl rfl Try.func18 (by kernel_rfl) rfl #[.string t164, .agg #[.bool true, .int .i64 0, .string (⟨#[]⟩ : ByteArray)]] rfl (by (try simp only [List.map_toArray, List.map_cons, List.map_nil]); first | done | rfl | (simp only [List.length_drop, List.length_take]; rfl)) ?_; (with_reducible refine (ops_Do.calls k t164 true 0 (⟨#[]⟩ : ByteArray) t169 t170 _ A7.out).mono ?_); rintro e w16 ⟨rfl, hb⟩; refine ⟨_, rfl, ?_⟩; have n0_ := Aside0.mk (Kd.R_below (by (with_reducible repeat (first | apply Kd.R_alloc | apply Kd.R_drewN | apply Kd.R_drew)); exact HO162.out) hb); have n1_ := Aside0.mk (below_step (by repeat (first | (with_reducible first | exact HB.out | apply below_alloc | apply pw_below_drewN | apply below_drew1) | exact HB.out)) hb); clear HO162; clear HB; have HO162 := n0_; have HB := n1_; clear n0_ n1_; (try clear hb); (try clear hb2); (try clear hk); (try clear hi)) | ((with_reducible refine gate_callee (f := 16) rfl ?_); refine goesL_ (some 45) rfl rfl Try.func16 (by kernel_rfl) rfl #[.int .i64 6, .string (⟨#[97, 98, 99, 100]⟩ : ByteArray)] rfl (by (try simp only [List.map_toArray, List.map_cons, List.map_nil]); first | done | rfl | (simp only [List.length_drop, List.length_take]; rfl)) ?_; (with_reducible refine (ops_Words.calls k 6 (⟨#[97, 98, 99, 100]⟩ : ByteArray) t171 t172 _ A8.out).mono ?_); rintro e w17 ⟨v173, rfl, ho0, hb⟩; refine ⟨_, rfl, ?_⟩; have n0_ := Aside0.mk (Kd.R_elder' (by (with_reducible repeat (first | apply Kd.R_alloc | apply Kd.R_drewN | apply Kd.R_drew)); exact HO162.out) (Kd.R_base ho0) hb); have n1_ := Aside0.mk (Kd.R_lower (Kd.R_new' ho0 (Kd.R_lt (by (with_reducible repeat (first | apply Kd.R_alloc | apply Kd.R_drewN | apply Kd.R_drew)); exact HO162.out))) (below_size (by repeat (first | (with_reducible first | exact HB.out | apply below_alloc | apply pw_below_drewN | apply below_drew1) | exact HB.out)))); have n2_ := Aside0.mk (below_step (by repeat (first | (with_reducible first | exact HB.out | apply below_alloc | apply pw_below_drewN | apply below_drew1) | exact HB.out)) hb); clear HO162; clear HB; have HO162 := n0_; have HO174 := n1_; have HB := n2_; clear n0_ n1_ n2_; (try clear hb); (try clear hb2); (try clear hk); (try clear hi); (try clear ho0)) | ((with_reducible refine gate_callee (f := 18) rfl ?_); refine goesL_ (some 51) rfl rfl Try.func18 (by kernel_rfl) rfl #[.string t158, .agg #[.bool true, .int .i64 4, .string (⟨#[]⟩ : ByteArray)]] rfl (by (try simp only [List.map_toArray, List.map_cons, List.map_nil]); first | done | rfl | (simp only [List.length_drop, List.length_take]; rfl)) ?_; (with_reducible refine (ops_Do.calls k t158 true 4 (⟨#[]⟩ : ByteArray) t175 t176 _ A9.out).mono ?_); rintro e w18 ⟨rfl, hb⟩; refine ⟨_, rfl, ?_⟩; have n0_ := Aside0.mk (Kd.R_below (by (with_reducible repeat (first | apply Kd.R_alloc | apply Kd.R_drewN | apply Kd.R_drew)); exact HO162.out) hb); have n1_ := Aside0.mk (Kd.R_below (by (with_reducible repeat (first | apply Kd.R_alloc | apply Kd.R_drewN | apply Kd.R_drew)); exact HO174.out) hb); have n2_ := Aside0.mk (below_step (by repeat (first | (with_reducible first | exact HB.out | apply below_alloc | apply pw_below_drewN | apply below_drew1) | exact HB.out)) hb); clear HO162; clear HO174; clear HB; have HO162 := n0_; have HO174 := n1_; have HB := n2_; clear n0_ n1_ n2_; (try clear hb); (try clear hb2); (try clear hk); (try clear hi)))
      (try simp only [Act.put, List.setIfInBounds_toArray, List.set_cons_zero, List.set_cons_succ])
      go_cut [65] (fun v65 wc => ∃ (kq : Nat) (x65_9 : Bool), v65 = .bool x65_9 ∧ Aside0 (skifflaw3_awake.j0 kq t158 t159 t160 t164 t165 t167 t168 t169 t170 t172 t176 x65_9 = some r) ∧ Aside0 (kq ≤ k) ∧ Aside0 (Kd.R k35 35 wc w.heap.size (fun _ => True) (.slice (some ad163) t159.length co13) t159) ∧ Aside0 (Below w.heap.size w wc))
      case first =>
        have H := HC10.out
        clear HC10
        by_cases c19 : (t164.size : Int) = (t158.size : Int)
        · rw [if_pos c19] at H
          have c19b0 : ((t164.size : Int) == (t158.size : Int)) = true := beq_iff_eq.mpr c19
          have c19b1 : ((t164.size : Int) != (t158.size : Int)) = false := bne_eq_false_iff_eq.mpr c19
          have c19b2 : (t164.size == t158.size) = true := by first | simpa using c19 | (simp at c19 ⊢; omega)
          clear c19
          (first | rw [c19b0] | (simp only [i64_w, i32_w]; rw [c19b0]) | skip)
          have H' := Aside0.mk H
          clear H
          go_wp2
          go_meet
          case rel => exact ⟨_, (((t167.size : Int) != (t158.size : Int))), (by first | rfl | (simp; done) | (simp [*]; done)), H', ⟨by first | omega | exact Nat.le_refl _⟩, ⟨by (with_reducible repeat (first | apply Kd.R_alloc | apply Kd.R_drewN | apply Kd.R_drew)); exact Kd.R_mono HO162.out (fun _ hk => trivial)⟩, ⟨by repeat (first | (with_reducible first | exact HB.out | apply below_alloc | apply pw_below_drewN | apply below_drew1) | exact HB.out)⟩⟩
        · rw [if_neg c19] at H
          have c19b0 : ((t164.size : Int) == (t158.size : Int)) = false := beq_eq_false_iff_ne.mpr c19
          have c19b1 : ((t164.size : Int) != (t158.size : Int)) = true := bne_iff_ne.mpr c19
          have c19b2 : (t164.size == t158.size) = false := by first | simpa using c19 | (simp at c19 ⊢; omega)
          (first | rw [c19b0] | (simp only [i64_w, i32_w]; rw [c19b0]) | skip)
          have H' := Aside0.mk H
          clear H
          go_wp2
          go_meet
          case rel => exact ⟨_, (true), (by first | rfl | (simp; done) | (simp [*]; done)), H', ⟨by first | omega | exact Nat.le_refl _⟩, ⟨by (with_reducible repeat (first | apply Kd.R_alloc | apply Kd.R_drewN | apply Kd.R_drew)); exact Kd.R_mono HO162.out (fun _ hk => trivial)⟩, ⟨by repeat (first | (with_reducible first | exact HB.out | apply below_alloc | apply pw_below_drewN | apply below_drew1) | exact HB.out)⟩⟩
      case rest =>
        clear HC10
        try clear c1
        try clear p1
        try clear q1
        try clear hx1
        try clear qi1
        try clear c2
        try clear p2
        try clear c3
        try clear c3b0
        try clear c3b1
        try clear c4
        try clear c4b0
        try clear c4b1
        try clear c16
        try clear p16
        try clear q16
        try clear hx16
        try clear qi16
        try clear c18
        try clear c19
        try clear c19b0
        try clear c19b1
        try clear c19b2
        try clear hx163_0
        try clear hx163_1
        try clear hx163_2
        try clear hx166_0
        try clear hx166_1
        try clear hx166_2
        try clear p163
        try clear p166
        try clear q163
        try clear q166
        obtain ⟨kq, x65_9, rfl, HA, HJ9, HO_2, HB⟩ := hcut
        cases kq with
        | zero => exact absurd HA.out (by simp [skifflaw3_awake.j0])
        | succ kj9 =>
          have H := HA.out
          clear HA
          simp only [skifflaw3_awake.j0] at H
          by_cases c20 : x65_9 = true
          · subst c20
            have H1 : (none) = some r := by rw [if_pos rfl] at H; exact H
            clear H
            have H := H1
            clear H1
            exact absurd H (by simp)
          · replace c20 := Bool.eq_false_iff.mpr c20
            subst c20
            have H1 : ((skifflaw0_SameOps.f kj9 t159 (([(⟨false, 8, (⟨#[97, 98, 99, 100]⟩ : ByteArray)⟩ : S35), (⟨false, 12, (⟨#[101, 255, 255, 255]⟩ : ByteArray)⟩ : S35)] : List (S35)))).bind fun t180 => (if t180 = true then ((skifflaw0_Num.f t160).bind fun t181 => (if t181 = 0 then (if 12 ≤ 16 then (if 16 ≤ (t164.size : Int) then (if (t164.extract 12 16).toList = ([101, 255, 255, 255] : List UInt8) then ((skifflaw0_Num.f t165).bind fun t182 => (if t182 = 0 then (if 12 < (t167.size : Int) then (if (bt t167 12) = 253 then ((skifflaw0_Num.f t168).bind fun t183 => (if t183 = 0 then (if t169.toList = t158.toList then ((skifflaw0_Num.f t170).bind fun t184 => (if t184 = 0 then ((skifflaw0_Num.f t172).bind fun t185 => (if t185 = 300 then ((skifflaw0_Num.f t176).bind fun t186 => (if t186 = 300 then (if 0 < (t159.length : Int) then ((ops_May.f ((rd_T35 t159 0).f0) ((rd_T35 t159 0).f1) ((rd_T35 t159 0).f2)).bind fun t188 => (some t188)) else (none)) else (none))) else (none))) else (none))) else (none)) else (none))) else (none)) else (none)) else (none))) else (none)) else (none)) else (none)) else (none))) else (none))) = some r := by rw [if_neg (show ¬ (false = true) by decide)] at H; exact H
            clear H
            have H := H1
            clear H1
            obtain ⟨y177, hy177⟩ : ∃ y_ : List (S35), y_ = (([(⟨false, 8, (⟨#[97, 98, 99, 100]⟩ : ByteArray)⟩ : S35), (⟨false, 12, (⟨#[101, 255, 255, 255]⟩ : ByteArray)⟩ : S35)] : List (S35))) := ⟨_, rfl⟩
            replace H : ((skifflaw0_SameOps.f kj9 t159 y177).bind fun t180 => (if t180 = true then ((skifflaw0_Num.f t160).bind fun t181 => (if t181 = 0 then (if 12 ≤ 16 then (if 16 ≤ (t164.size : Int) then (if (t164.extract 12 16).toList = ([101, 255, 255, 255] : List UInt8) then ((skifflaw0_Num.f t165).bind fun t182 => (if t182 = 0 then (if 12 < (t167.size : Int) then (if (bt t167 12) = 253 then ((skifflaw0_Num.f t168).bind fun t183 => (if t183 = 0 then (if t169.toList = t158.toList then ((skifflaw0_Num.f t170).bind fun t184 => (if t184 = 0 then ((skifflaw0_Num.f t172).bind fun t185 => (if t185 = 300 then ((skifflaw0_Num.f t176).bind fun t186 => (if t186 = 300 then (if 0 < (t159.length : Int) then ((ops_May.f ((rd_T35 t159 0).f0) ((rd_T35 t159 0).f1) ((rd_T35 t159 0).f2)).bind fun t188 => (some t188)) else (none)) else (none))) else (none))) else (none))) else (none)) else (none))) else (none)) else (none)) else (none))) else (none)) else (none)) else (none)) else (none))) else (none))) = some r := by first | (rw [hy177]; with_reducible exact H) | (have H2_ := (Option.bind_some _ _).symm.trans H; rw [hy177]; with_reducible exact H2_) | (have H2_ := (Option.bind_some _ _).symm.trans H; with_reducible exact H2_) | with_reducible exact H | (rw [hy177]; exact H) | exact H
            have Ny177 := Aside0.mk hy177
            clear hy177
            replace H := Option.bind_eq_some_iff.mp H
            obtain ⟨t180, A210, H⟩ := H
            replace H : (if t180 = true then ((skifflaw0_Num.f t160).bind fun t181 => (if t181 = 0 then (if 12 ≤ 16 then (if 16 ≤ (t164.size : Int) then (if (t164.extract 12 16).toList = ([101, 255, 255, 255] : List UInt8) then ((skifflaw0_Num.f t165).bind fun t182 => (if t182 = 0 then (if 12 < (t167.size : Int) then (if (bt t167 12) = 253 then ((skifflaw0_Num.f t168).bind fun t183 => (if t183 = 0 then (if t169.toList = t158.toList then ((skifflaw0_Num.f t170).bind fun t184 => (if t184 = 0 then ((skifflaw0_Num.f t172).bind fun t185 => (if t185 = 300 then ((skifflaw0_Num.f t176).bind fun t186 => (if t186 = 300 then (if 0 < (t159.length : Int) then ((ops_May.f ((rd_T35 t159 0).f0) ((rd_T35 t159 0).f1) ((rd_T35 t159 0).f2)).bind fun t188 => (some t188)) else (none)) else (none))) else (none))) else (none))) else (none)) else (none))) else (none)) else (none)) else (none))) else (none)) else (none)) else (none)) else (none))) else (none)) = some r := H
            have A21 := Aside0.mk A210
            clear A210
            by_cases c22 : t180 = true
            · subst c22
              have H1 : ((skifflaw0_Num.f t160).bind fun t181 => (if t181 = 0 then (if 12 ≤ 16 then (if 16 ≤ (t164.size : Int) then (if (t164.extract 12 16).toList = ([101, 255, 255, 255] : List UInt8) then ((skifflaw0_Num.f t165).bind fun t182 => (if t182 = 0 then (if 12 < (t167.size : Int) then (if (bt t167 12) = 253 then ((skifflaw0_Num.f t168).bind fun t183 => (if t183 = 0 then (if t169.toList = t158.toList then ((skifflaw0_Num.f t170).bind fun t184 => (if t184 = 0 then ((skifflaw0_Num.f t172).bind fun t185 => (if t185 = 300 then ((skifflaw0_Num.f t176).bind fun t186 => (if t186 = 300 then (if 0 < (t159.length : Int) then ((ops_May.f ((rd_T35 t159 0).f0) ((rd_T35 t159 0).f1) ((rd_T35 t159 0).f2)).bind fun t188 => (some t188)) else (none)) else (none))) else (none))) else (none))) else (none)) else (none))) else (none)) else (none)) else (none))) else (none)) else (none)) else (none)) else (none))) = some r := by rw [if_pos rfl] at H; exact H
              clear H
              have H := H1
              clear H1
              replace H := Option.bind_eq_some_iff.mp H
              obtain ⟨t181, A230, H⟩ := H
              replace H : (if t181 = 0 then (if 12 ≤ 16 then (if 16 ≤ (t164.size : Int) then (if (t164.extract 12 16).toList = ([101, 255, 255, 255] : List UInt8) then ((skifflaw0_Num.f t165).bind fun t182 => (if t182 = 0 then (if 12 < (t167.size : Int) then (if (bt t167 12) = 253 then ((skifflaw0_Num.f t168).bind fun t183 => (if t183 = 0 then (if t169.toList = t158.toList then ((skifflaw0_Num.f t170).bind fun t184 => (if t184 = 0 then ((skifflaw0_Num.f t172).bind fun t185 => (if t185 = 300 then ((skifflaw0_Num.f t176).bind fun t186 => (if t186 = 300 then (if 0 < (t159.length : Int) then ((ops_May.f ((rd_T35 t159 0).f0) ((rd_T35 t159 0).f1) ((rd_T35 t159 0).f2)).bind fun t188 => (some t188)) else (none)) else (none))) else (none))) else (none))) else (none)) else (none))) else (none)) else (none)) else (none))) else (none)) else (none)) else (none)) else (none)) = some r := H
              have A23 := Aside0.mk A230
              clear A230
              by_cases c24 : t181 = 0
              · rw [if_pos c24] at H
                have c24b0 : (t181 == 0) = true := beq_iff_eq.mpr c24
                have c24b1 : (t181 != 0) = false := bne_eq_false_iff_eq.mpr c24
                clear c24
                by_cases c25 : 12 ≤ 16
                · rw [if_pos c25] at H
                  have c25b0 := eq_true c25
                  have c25b1 : decide (12 ≤ 16) = true := decide_eq_true c25
                  clear c25
                  by_cases c26 : 16 ≤ (t164.size : Int)
                  · rw [if_pos c26] at H
                    have c26b0 := eq_true c26
                    have c26b1 : decide (16 ≤ (t164.size : Int)) = true := decide_eq_true c26
                    clear c26
                    by_cases c27 : (t164.extract 12 16).toList = ([101, 255, 255, 255] : List UInt8)
                    · rw [if_pos c27] at H
                      have c27b0 : ((t164.extract 12 16).toList == ([101, 255, 255, 255] : List UInt8)) = true := beq_iff_eq.mpr c27
                      have c27b1 : ((t164.extract 12 16).toList != ([101, 255, 255, 255] : List UInt8)) = false := bne_eq_false_iff_eq.mpr c27
                      clear c27
                      replace H := Option.bind_eq_some_iff.mp H
                      obtain ⟨t182, A280, H⟩ := H
                      replace H : (if t182 = 0 then (if 12 < (t167.size : Int) then (if (bt t167 12) = 253 then ((skifflaw0_Num.f t168).bind fun t183 => (if t183 = 0 then (if t169.toList = t158.toList then ((skifflaw0_Num.f t170).bind fun t184 => (if t184 = 0 then ((skifflaw0_Num.f t172).bind fun t185 => (if t185 = 300 then ((skifflaw0_Num.f t176).bind fun t186 => (if t186 = 300 then (if 0 < (t159.length : Int) then ((ops_May.f ((rd_T35 t159 0).f0) ((rd_T35 t159 0).f1) ((rd_T35 t159 0).f2)).bind fun t188 => (some t188)) else (none)) else (none))) else (none))) else (none))) else (none)) else (none))) else (none)) else (none)) else (none)) = some r := H
                      have A28 := Aside0.mk A280
                      clear A280
                      by_cases c29 : t182 = 0
                      · rw [if_pos c29] at H
                        have c29b0 : (t182 == 0) = true := beq_iff_eq.mpr c29
                        have c29b1 : (t182 != 0) = false := bne_eq_false_iff_eq.mpr c29
                        clear c29
                        by_cases c30 : 12 < (t167.size : Int)
                        · rw [if_pos c30] at H
                          have c30b0 : decide (12 < (t167.size : Int)) = true := decide_eq_true c30
                          have c30b1 : decide (12 < t167.size) = true := decide_eq_true (by omega)
                          clear c30
                          by_cases c32 : (bt t167 12) = 253
                          · rw [if_pos c32] at H
                            have c32b0 : ((bt t167 12) == 253) = true := beq_iff_eq.mpr c32
                            have c32b1 : ((bt t167 12) != 253) = false := bne_eq_false_iff_eq.mpr c32
                            clear c32
                            replace H := Option.bind_eq_some_iff.mp H
                            obtain ⟨t183, A330, H⟩ := H
                            replace H : (if t183 = 0 then (if t169.toList = t158.toList then ((skifflaw0_Num.f t170).bind fun t184 => (if t184 = 0 then ((skifflaw0_Num.f t172).bind fun t185 => (if t185 = 300 then ((skifflaw0_Num.f t176).bind fun t186 => (if t186 = 300 then (if 0 < (t159.length : Int) then ((ops_May.f ((rd_T35 t159 0).f0) ((rd_T35 t159 0).f1) ((rd_T35 t159 0).f2)).bind fun t188 => (some t188)) else (none)) else (none))) else (none))) else (none))) else (none)) else (none)) = some r := H
                            have A33 := Aside0.mk A330
                            clear A330
                            by_cases c34 : t183 = 0
                            · rw [if_pos c34] at H
                              have c34b0 : (t183 == 0) = true := beq_iff_eq.mpr c34
                              have c34b1 : (t183 != 0) = false := bne_eq_false_iff_eq.mpr c34
                              clear c34
                              by_cases c35 : t169.toList = t158.toList
                              · rw [if_pos c35] at H
                                have c35b0 : (t169.toList == t158.toList) = true := beq_iff_eq.mpr c35
                                have c35b1 : (t169.toList != t158.toList) = false := bne_eq_false_iff_eq.mpr c35
                                clear c35
                                replace H := Option.bind_eq_some_iff.mp H
                                obtain ⟨t184, A360, H⟩ := H
                                replace H : (if t184 = 0 then ((skifflaw0_Num.f t172).bind fun t185 => (if t185 = 300 then ((skifflaw0_Num.f t176).bind fun t186 => (if t186 = 300 then (if 0 < (t159.length : Int) then ((ops_May.f ((rd_T35 t159 0).f0) ((rd_T35 t159 0).f1) ((rd_T35 t159 0).f2)).bind fun t188 => (some t188)) else (none)) else (none))) else (none))) else (none)) = some r := H
                                have A36 := Aside0.mk A360
                                clear A360
                                by_cases c37 : t184 = 0
                                · rw [if_pos c37] at H
                                  have c37b0 : (t184 == 0) = true := beq_iff_eq.mpr c37
                                  have c37b1 : (t184 != 0) = false := bne_eq_false_iff_eq.mpr c37
                                  clear c37
                                  replace H := Option.bind_eq_some_iff.mp H
                                  obtain ⟨t185, A380, H⟩ := H
                                  replace H : (if t185 = 300 then ((skifflaw0_Num.f t176).bind fun t186 => (if t186 = 300 then (if 0 < (t159.length : Int) then ((ops_May.f ((rd_T35 t159 0).f0) ((rd_T35 t159 0).f1) ((rd_T35 t159 0).f2)).bind fun t188 => (some t188)) else (none)) else (none))) else (none)) = some r := H
                                  have A38 := Aside0.mk A380
                                  clear A380
                                  by_cases c39 : t185 = 300
                                  · rw [if_pos c39] at H
                                    have c39b0 : (t185 == 300) = true := beq_iff_eq.mpr c39
                                    have c39b1 : (t185 != 300) = false := bne_eq_false_iff_eq.mpr c39
                                    clear c39
                                    replace H := Option.bind_eq_some_iff.mp H
                                    obtain ⟨t186, A400, H⟩ := H
                                    replace H : (if t186 = 300 then (if 0 < (t159.length : Int) then ((ops_May.f ((rd_T35 t159 0).f0) ((rd_T35 t159 0).f1) ((rd_T35 t159 0).f2)).bind fun t188 => (some t188)) else (none)) else (none)) = some r := H
                                    have A40 := Aside0.mk A400
                                    clear A400
                                    by_cases c41 : t186 = 300
                                    · rw [if_pos c41] at H
                                      have c41b0 : (t186 == 300) = true := beq_iff_eq.mpr c41
                                      have c41b1 : (t186 != 300) = false := bne_eq_false_iff_eq.mpr c41
                                      clear c41
                                      by_cases c42 : 0 < (t159.length : Int)
                                      · rw [if_pos c42] at H
                                        have c42b0 : decide (0 < (t159.length : Int)) = true := decide_eq_true c42
                                        have c42b1 : decide (0 < t159.length) = true := decide_eq_true (by omega)
                                        clear c42
                                        replace H := Option.bind_eq_some_iff.mp H
                                        obtain ⟨t188, A430, H⟩ := H
                                        replace H : (some t188) = some r := H
                                        have A43 := Aside0.mk A430
                                        clear A430
                                        obtain rfl := Option.some.inj H
                                        go_wp2_with (first | ((with_reducible refine gate_dst (N := 69) rfl ?_); (try (refine gate_guard (by rfl) ?_; dsimp only)); refine Kd.R_lit k35 _ 35 ?hg (N := 69) ?hd (xs := ([(⟨false, 8, (⟨#[97, 98, 99, 100]⟩ : ByteArray)⟩ : S35), (⟨false, 12, (⟨#[101, 255, 255, 255]⟩ : ByteArray)⟩ : S35)] : List (S35))) (inner := [.bool false, .int .i64 8, .string (⟨#[97, 98, 99, 100]⟩ : ByteArray), .bool false, .int .i64 12, .string (⟨#[101, 255, 255, 255]⟩ : ByteArray)]) (ok := fun _ => True) (okp := fun _ => True) ?hr ?hp (fun _ hk => hk) trivial (Below.refl _ _) (Nat.le_refl _) (by simp) ?_; (case hd => rfl); (case hg => rfl); (case hr => first | (go_simp; done) | (go_simp; rfl)); (case hp => exact (Reps.c3 (show Kd.M k35 _ _ _ (⟨false, 8, (⟨#[97, 98, 99, 100]⟩ : ByteArray)⟩ : S35) [.bool false, .int .i64 8, .string (⟨#[97, 98, 99, 100]⟩ : ByteArray)] from (k35_mkM _ _ _ (⟨false, 8, (⟨#[97, 98, 99, 100]⟩ : ByteArray)⟩ : S35) )) (Reps.c3 (show Kd.M k35 _ _ _ (⟨false, 12, (⟨#[101, 255, 255, 255]⟩ : ByteArray)⟩ : S35) [.bool false, .int .i64 12, .string (⟨#[101, 255, 255, 255]⟩ : ByteArray)] from (k35_mkM _ _ _ (⟨false, 12, (⟨#[101, 255, 255, 255]⟩ : ByteArray)⟩ : S35) )) (Reps.none _ _)))); intro v178 w44 ho45 hb hg_ hnew_; clear hg_ hnew_; (first | rw [← Ny177.out] at ho45 | (simp only [Int.reduceToNat] at ho45; rw [← Ny177.out] at ho45)); have n0_ := Aside0.mk (Kd.R_elder' (by (with_reducible repeat (first | apply Kd.R_alloc | apply Kd.R_drewN | apply Kd.R_drew)); exact HO_2.out) (Kd.R_base ho45) hb); have n1_ := Aside0.mk (Kd.R_lower (Kd.R_new' ho45 (Kd.R_lt (by (with_reducible repeat (first | apply Kd.R_alloc | apply Kd.R_drewN | apply Kd.R_drew)); exact HO_2.out))) (below_size (by repeat (first | (with_reducible first | exact HB.out | apply below_alloc | apply pw_below_drewN | apply below_drew1) | exact HB.out)))); have n2_ := Aside0.mk (below_step (by repeat (first | (with_reducible first | exact HB.out | apply below_alloc | apply pw_below_drewN | apply below_drew1) | exact HB.out)) hb); clear HO_2; clear HB; have HO_2 := n0_; have HO179 := n1_; have HB := n2_; clear n0_ n1_ n2_; clear hb ho45; obtain ⟨Ao46, co46, eo46⟩ := Kd.R_slice HO179.out; subst eo46) | ((with_reducible refine gate_callee (f := 23) rfl ?_); refine goesL_ (some 70) rfl rfl Try.func23 (by kernel_rfl) rfl #[.slice (some ad163) t159.length co13, .slice Ao46 y177.length co46] rfl (by (try simp only [List.map_toArray, List.map_cons, List.map_nil]); first | done | rfl | (simp only [List.length_drop, List.length_take]; rfl)) ?_; (with_reducible refine (skifflaw0_SameOps.calls kj9 _ _ t159 _ _ y177 true _ ?side1 ?side2 ?side3 ?side4 A21.out).mono ?_); (case side1 => repeat (first | exact (Kd.R_reads' HO_2.out).2.2 | (with_reducible refine Kd.C_alloc ?_ _) | (with_reducible refine Kd.C_drewN ?_ _) | (with_reducible refine Kd.C_drew ?_))); (case side2 => exact (Kd.R_reads' HO_2.out).2.1); (case side3 => repeat (first | exact (Kd.R_reads' HO179.out).2.2 | (with_reducible refine Kd.C_alloc ?_ _) | (with_reducible refine Kd.C_drewN ?_ _) | (with_reducible refine Kd.C_drew ?_))); (case side4 => exact (Kd.R_reads' HO179.out).2.1); rintro e w' ⟨rfl, ⟨nd, rfl⟩⟩; refine ⟨_, rfl, ?_⟩) | (go_at_call 13; (with_reducible refine (skifflaw0_Num.calls t160 t181 _ A23.out).mono ?_); rintro e w' ⟨rfl, ⟨nd, rfl⟩⟩) | (go_at_call 13; (with_reducible refine (skifflaw0_Num.calls t165 t182 _ A28.out).mono ?_); rintro e w' ⟨rfl, ⟨nd, rfl⟩⟩; have p31 : 0 ≤ (12 : Int) := (by omega); have q31 : 12 < t167.size := (by have : (12 : Int) < (t167.size : Int) := of_decide_eq_true (by first | (with_reducible assumption) | assumption); omega); have hx31 : ∀ h : 12 < t167.size, ((t167[12]'h).toNat : Int) = bt t167 12 := bt_at t167 12; clear p31; have qi31 : (12 < (t167.size : Int)) = True := eq_true (of_decide_eq_true (by first | (with_reducible assumption) | assumption)); replace q31 := eq_true q31) | (go_at_call 13; (with_reducible refine (skifflaw0_Num.calls t168 t183 _ A33.out).mono ?_); rintro e w' ⟨rfl, ⟨nd, rfl⟩⟩) | (go_at_call 13; (with_reducible refine (skifflaw0_Num.calls t170 t184 _ A36.out).mono ?_); rintro e w' ⟨rfl, ⟨nd, rfl⟩⟩) | (go_at_call 13; (with_reducible refine (skifflaw0_Num.calls t172 t185 _ A38.out).mono ?_); rintro e w' ⟨rfl, ⟨nd, rfl⟩⟩) | (go_at_call 13; (with_reducible refine (skifflaw0_Num.calls t176 t186 _ A40.out).mono ?_); rintro e w' ⟨rfl, ⟨nd, rfl⟩⟩; have p187 : 0 ≤ (0 : Int) := (by omega); have q187 : 0 < (t159.length : Int) := of_decide_eq_true (by first | (with_reducible assumption) | assumption); obtain ⟨ad187, e187, hx187_0, hx187_1, hx187_2⟩ := at_T35 (Kd.R_reads' HO_2.out).2.2 0 p187 q187; obtain rfl : ad163 = ad187 := (by injection e187); have qi187 : (0 < t159.length) = True := eq_true (by omega); (try rw [show ((0 : Int)).toNat = 0 from rfl] at hx187_0); (try rw [show 0 * 3 = 0 from rfl] at hx187_0); (try rw [Addr.add_zero'] at hx187_0); (try rw [show ((0 : Int)).toNat = 0 from rfl] at hx187_1); (try rw [show 0 * 3 = 0 from rfl] at hx187_1); (try rw [Addr.add_zero'] at hx187_1); (try rw [show ((0 : Int)).toNat = 0 from rfl] at hx187_2); (try rw [show 0 * 3 = 0 from rfl] at hx187_2); (try rw [Addr.add_zero'] at hx187_2); replace p187 := eq_true p187; replace q187 := eq_true q187) | (go_at_call 24; (with_reducible refine (ops_May.calls ((rd_T35 t159 0).f0) ((rd_T35 t159 0).f1) ((rd_T35 t159 0).f2) t188 _ A43.out).mono ?_); rintro e w47 ⟨rfl, hb⟩; have n0_ := Aside0.mk (Kd.R_below (by (with_reducible repeat (first | apply Kd.R_alloc | apply Kd.R_drewN | apply Kd.R_drew)); exact HO_2.out) hb); have n1_ := Aside0.mk (Kd.R_below (by (with_reducible repeat (first | apply Kd.R_alloc | apply Kd.R_drewN | apply Kd.R_drew)); exact HO179.out) hb); have n2_ := Aside0.mk (below_step (by repeat (first | (with_reducible first | exact HB.out | apply below_alloc | apply pw_below_drewN | apply below_drew1) | exact HB.out)) hb); clear HO_2; clear HO179; clear HB; have HO_2 := n0_; have HO179 := n1_; have HB := n2_; clear n0_ n1_ n2_; (try clear hb); (try clear hb2); (try clear hk); (try clear hi)))
                                        go_ret
                                        exact ⟨by first | rfl | (simp [errW_none, errW_some] <;> rfl) | (simp [*, errW_none, errW_some] <;> rfl), by repeat (first | (with_reducible first | exact HB.out | apply below_alloc | apply pw_below_drewN | apply below_drew1) | exact HB.out)⟩
                                      · rw [if_neg c42] at H
                                        exact absurd H (by simp)
                                    · rw [if_neg c41] at H
                                      exact absurd H (by simp)
                                  · rw [if_neg c39] at H
                                    exact absurd H (by simp)
                                · rw [if_neg c37] at H
                                  exact absurd H (by simp)
                              · rw [if_neg c35] at H
                                exact absurd H (by simp)
                            · rw [if_neg c34] at H
                              exact absurd H (by simp)
                          · rw [if_neg c32] at H
                            exact absurd H (by simp)
                        · rw [if_neg c30] at H
                          exact absurd H (by simp)
                      · rw [if_neg c29] at H
                        exact absurd H (by simp)
                    · rw [if_neg c27] at H
                      exact absurd H (by simp)
                  · rw [if_neg c26] at H
                    exact absurd H (by simp)
                · rw [if_neg c25] at H
                  exact absurd H (by simp)
              · rw [if_neg c24] at H
                exact absurd H (by simp)
            · replace c22 := Bool.eq_false_iff.mpr c22
              subst c22
              have H1 : (none) = some r := by rw [if_neg (show ¬ (false = true) by decide)] at H; exact H
              clear H
              have H := H1
              clear H1
              exact absurd H (by simp)
    · rw [if_neg c4] at H
      exact absurd H (by simp)
  · rw [if_neg c3] at H
    exact absurd H (by simp)

end Go.Proofs.Ytjihlabmddfjhaa.PAll
