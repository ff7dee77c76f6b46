import Derived.Test.YtjadcjkjpkkmkaaShT6
-- Laid together from this session's own texts by its program wip/tools/shake.py.
-- Written by this session's own program (wip/tools/myprint.py), which runs the kit's print over functions proved by hand.
namespace Go.Proofs.Ytjadcjkjpkkmkaa.PAll
open Go.RowKit Go.Proofs.YtjadcjkjpkkmkaaW.PrintWords Go.Proofs.YtjadcjkjpkkmkaaW.PrintLast Go.Proofs.YtjadcjkjpkkmkaaW.PrintMore
attribute [local go_sem] max2_int min2_int max_two min_two max_three min_three max_four min_four   -- for this text's walks alone
set_option linter.unusedVariables false
set_option linter.unusedSimpArgs false
attribute [local go_sem high] eqA25
mutual
def skifflaw7_ChooseTable.j0 : Nat → Int → Int → Int → ByteArray → Int → Int → Int → Int → Int → Int → Int → Int → Option (Bool)
 | 0, _, _, _, _, _, _, _, _, _, _, _, _ => none
 | k + 1, x0, x7, x8, x9, x355000, x355001, x355002, x355003, x357000, x357001, x357002, x357003 => if (Go.bits .and .i64 x0 2) = 2 then (skifflaw7_ChooseTable.j1 k x0 x7 x8 x9 x355000 x355001 x355002 x355003 x357000 x357001 x357002 (Go.bits .xor .i64 x357003 1)) else (skifflaw7_ChooseTable.j1 k x0 x7 x8 x9 x355000 x355001 x355002 x355003 x357000 x357001 x357002 x357003)
def skifflaw7_ChooseTable.j1 : Nat → Int → Int → Int → ByteArray → Int → Int → Int → Int → Int → Int → Int → Int → Option (Bool)
 | 0, _, _, _, _, _, _, _, _, _, _, _, _ => none
 | k + 1, x0, x7, x8, x9, x355000, x355001, x355002, x355003, x357000, x357001, x357002, x357003 => (Hand.skiffref1_PutEntry.f k x355000 x355001 x355002 x355003).bind fun bt357 => ((Hand.skiffref1_PutEntry.f k x357000 x357001 x357002 x357003).bind fun bt359 => (if 24 ≤ 96 then (if 96 ≤ (x9.size : Int) then (if bt357.1.size + (x9.extract 24 96).size ≤ 9223372036854775807 then (if (bt357.1 ++ (x9.extract 24 96)).size + bt359.1.size ≤ 9223372036854775807 then (if 120 ≤ (x9.size : Int) then (if ((bt357.1 ++ (x9.extract 24 96)) ++ bt359.1).size + (x9.extract 120 x9.size).size ≤ 9223372036854775807 then ((Hand.choose_Active.f k (((bt357.1 ++ (x9.extract 24 96)) ++ bt359.1) ++ (x9.extract 120 x9.size))).bind fun bt361 => ((choose_Other.f k (((bt357.1 ++ (x9.extract 24 96)) ++ bt359.1) ++ (x9.extract 120 x9.size))).bind fun bt368 => (if (Go.bits .and .i64 x0 2) = 2 then (skifflaw7_ChooseTable.j2 k x0 bt361.2.2.2.2.2 bt368.1 bt368.2 0 true x355000 x355001 x355002 x355003 bt361.1 bt361.2.1 bt361.2.2.1 bt361.2.2.2.1 bt361.2.2.2.2.1 96 x357000 x357001 x357002 x357003) else (if (Go.bits .and .i64 x0 1) = 0 then (skifflaw7_ChooseTable.j2 k x0 bt361.2.2.2.2.2 bt368.1 bt368.2 0 (decide (x7 > x8)) x355000 x355001 x355002 x355003 bt361.1 bt361.2.1 bt361.2.2.1 bt361.2.2.2.1 bt361.2.2.2.2.1 96 x357000 x357001 x357002 x357003) else (skifflaw7_ChooseTable.j2 k x0 bt361.2.2.2.2.2 bt368.1 bt368.2 0 false x355000 x355001 x355002 x355003 bt361.1 bt361.2.1 bt361.2.2.1 bt361.2.2.2.1 bt361.2.2.2.2.1 96 x357000 x357001 x357002 x357003))))) else (none)) else (none)) else (none)) else (none)) else (none)) else (none)))
def skifflaw7_ChooseTable.j2 : Nat → Int → Int → Int → Int → Int → Bool → Int → Int → Int → Int → Int → Int → Int → Int → Int → Int → Int → Int → Int → Int → Option (Bool)
 | 0, _, _, _, _, _, _, _, _, _, _, _, _, _, _, _, _, _, _, _, _ => none
 | k + 1, x0, x17, x18, x19, x21, x104, x355000, x355001, x355002, x355003, x368000, x368001, x368002, x368003, x368004, x371000, x371001, x371002, x371003, x371004 => if x104 = true then (skifflaw7_ChooseTable.j3 k x0 x17 x18 x19 1 x368000 x368001 x368002 x368003 x368004 0 x355000 x355001 x355002 x355003) else (skifflaw7_ChooseTable.j3 k x0 x17 x18 x19 x21 x368000 x368001 x368002 x368003 x368004 x371000 x371001 x371002 x371003 x371004)
def skifflaw7_ChooseTable.j3 : Nat → Int → Int → Int → Int → Int → Int → Int → Int → Int → Int → Int → Int → Int → Int → Int → Option (Bool)
 | 0, _, _, _, _, _, _, _, _, _, _, _, _, _, _, _ => none
 | k + 1, x0, x17, x18, x19, x21, x368000, x368001, x368002, x368003, x368004, x371000, x371001, x371002, x371003, x371004 => if (Go.bits .and .i64 x0 3) = 3 then ((skifflaw0_Num.f x17).bind fun t371 => (if t371 = 701 then (if (x368000 == 0 && ((x368001 == 0 && (x368002 == 0 && (x368003 == 0 && (x368004 == 0)))))) = true then (if x18 = 0 then ((skifflaw0_Num.f x19).bind fun t372 => (some (t372 == 0))) else (none)) else (none)) else (none))) else ((skifflaw0_Num.f x17).bind fun t373 => (if t373 = 0 then (if (x368000 == x371000 && ((x368001 == x371001 && (x368002 == x371002 && (x368003 == x371003 && (x368004 == x371004)))))) = true then (if x18 = x21 then ((skifflaw0_Num.f x19).bind fun t374 => (some (t374 == 0))) else (none)) else (none)) else (none)))
end
def skifflaw7_ChooseTable.f (k : Nat) (a0 : Int) (a1 : Int) (a2 : Int) : Option (Bool) := (skifflaw7_awake.f k).bind fun t351 => (if t351 = true then ((skiffref1_Blank.f k).bind fun t352 => (if 0 ≤ 192 then (if 192 ≤ (t352.size : Int) then (if (t352.extract 0 192).size + 5 ≤ 9223372036854775807 then (if 197 ≤ 480 then (if 480 ≤ (t352.size : Int) then (if ((t352.extract 0 192) ++ (⟨#[102, 105, 114, 115, 116]⟩ : ByteArray)).size + (t352.extract 197 480).size ≤ 9223372036854775807 then (if (((t352.extract 0 192) ++ (⟨#[102, 105, 114, 115, 116]⟩ : ByteArray)) ++ (t352.extract 197 480)).size + 6 ≤ 9223372036854775807 then (if 486 ≤ (t352.size : Int) then (if ((((t352.extract 0 192) ++ (⟨#[102, 105, 114, 115, 116]⟩ : ByteArray)) ++ (t352.extract 197 480)) ++ (⟨#[115, 101, 99, 111, 110, 100]⟩ : ByteArray)).size + (t352.extract 486 t352.size).size ≤ 9223372036854775807 then ((skiffref1_Crc.f k (⟨#[102, 105, 114, 115, 116]⟩ : ByteArray)).bind fun t353 => ((skiffref1_Crc.f k (⟨#[115, 101, 99, 111, 110, 100]⟩ : ByteArray)).bind fun t355 => (if (Go.bits .and .i64 a0 1) = 1 then (skifflaw7_ChooseTable.j0 k a0 (wrap64 (1 + (Go.bits .and .i64 a1 7))) (wrap64 (1 + (Go.bits .and .i64 a2 7))) (((((t352.extract 0 192) ++ (⟨#[102, 105, 114, 115, 116]⟩ : ByteArray)) ++ (t352.extract 197 480)) ++ (⟨#[115, 101, 99, 111, 110, 100]⟩ : ByteArray)) ++ (t352.extract 486 t352.size)) (wrap64 (1 + (Go.bits .and .i64 a1 7))) 0 5 (Go.bits .xor .i64 t353 1) (wrap64 (1 + (Go.bits .and .i64 a2 7))) 1 6 t355) else (skifflaw7_ChooseTable.j0 k a0 (wrap64 (1 + (Go.bits .and .i64 a1 7))) (wrap64 (1 + (Go.bits .and .i64 a2 7))) (((((t352.extract 0 192) ++ (⟨#[102, 105, 114, 115, 116]⟩ : ByteArray)) ++ (t352.extract 197 480)) ++ (⟨#[115, 101, 99, 111, 110, 100]⟩ : ByteArray)) ++ (t352.extract 486 t352.size)) (wrap64 (1 + (Go.bits .and .i64 a1 7))) 0 5 t353 (wrap64 (1 + (Go.bits .and .i64 a2 7))) 1 6 t355)))) else (none)) else (none)) else (none)) else (none)) else (none)) else (none)) else (none)) else (none)) else (none))) else (none))
set_option maxHeartbeats 8000000 in
set_option maxRecDepth 100000 in
theorem skifflaw7_ChooseTable.calls (k : Nat) (a0 : Int) (a1 : Int) (a2 : Int) (r : Bool) (w : World) (h : skifflaw7_ChooseTable.f k a0 a1 a2 = some r) :
  Calls Try.prog 5 #[.int .i64 a0, .int .i64 a1, .int .i64 a2] w fun e w' => e = .returned (.bool r) ∧ Below w.heap.size w w' := by
 have hu23 := Try.underlying23
 have hu25 := Try.underlying25
 have HB := Aside0.mk (Below.refl w.heap.size w)
 have H : ((skifflaw7_awake.f k).bind fun t351 => (if t351 = true then ((skiffref1_Blank.f k).bind fun t352 => (if 0 ≤ 192 then (if 192 ≤ (t352.size : Int) then (if (t352.extract 0 192).size + 5 ≤ 9223372036854775807 then (if 197 ≤ 480 then (if 480 ≤ (t352.size : Int) then (if ((t352.extract 0 192) ++ (⟨#[102, 105, 114, 115, 116]⟩ : ByteArray)).size + (t352.extract 197 480).size ≤ 9223372036854775807 then (if (((t352.extract 0 192) ++ (⟨#[102, 105, 114, 115, 116]⟩ : ByteArray)) ++ (t352.extract 197 480)).size + 6 ≤ 9223372036854775807 then (if 486 ≤ (t352.size : Int) then (if ((((t352.extract 0 192) ++ (⟨#[102, 105, 114, 115, 116]⟩ : ByteArray)) ++ (t352.extract 197 480)) ++ (⟨#[115, 101, 99, 111, 110, 100]⟩ : ByteArray)).size + (t352.extract 486 t352.size).size ≤ 9223372036854775807 then ((skiffref1_Crc.f k (⟨#[102, 105, 114, 115, 116]⟩ : ByteArray)).bind fun t353 => ((skiffref1_Crc.f k (⟨#[115, 101, 99, 111, 110, 100]⟩ : ByteArray)).bind fun t355 => (if (Go.bits .and .i64 a0 1) = 1 then (skifflaw7_ChooseTable.j0 k a0 (wrap64 (1 + (Go.bits .and .i64 a1 7))) (wrap64 (1 + (Go.bits .and .i64 a2 7))) (((((t352.extract 0 192) ++ (⟨#[102, 105, 114, 115, 116]⟩ : ByteArray)) ++ (t352.extract 197 480)) ++ (⟨#[115, 101, 99, 111, 110, 100]⟩ : ByteArray)) ++ (t352.extract 486 t352.size)) (wrap64 (1 + (Go.bits .and .i64 a1 7))) 0 5 (Go.bits .xor .i64 t353 1) (wrap64 (1 + (Go.bits .and .i64 a2 7))) 1 6 t355) else (skifflaw7_ChooseTable.j0 k a0 (wrap64 (1 + (Go.bits .and .i64 a1 7))) (wrap64 (1 + (Go.bits .and .i64 a2 7))) (((((t352.extract 0 192) ++ (⟨#[102, 105, 114, 115, 116]⟩ : ByteArray)) ++ (t352.extract 197 480)) ++ (⟨#[115, 101, 99, 111, 110, 100]⟩ : ByteArray)) ++ (t352.extract 486 t352.size)) (wrap64 (1 + (Go.bits .and .i64 a1 7))) 0 5 t353 (wrap64 (1 + (Go.bits .and .i64 a2 7))) 1 6 t355)))) else (none)) else (none)) else (none)) else (none)) else (none)) else (none)) else (none)) else (none)) else (none))) else (none))) = some r := h
 clear h
 replace H := Option.bind_eq_some_iff.mp H
 obtain ⟨t351, A40, H⟩ := H
 replace H : (if t351 = true then ((skiffref1_Blank.f k).bind fun t352 => (if 0 ≤ 192 then (if 192 ≤ (t352.size : Int) then (if (t352.extract 0 192).size + 5 ≤ 9223372036854775807 then (if 197 ≤ 480 then (if 480 ≤ (t352.size : Int) then (if ((t352.extract 0 192) ++ (⟨#[102, 105, 114, 115, 116]⟩ : ByteArray)).size + (t352.extract 197 480).size ≤ 9223372036854775807 then (if (((t352.extract 0 192) ++ (⟨#[102, 105, 114, 115, 116]⟩ : ByteArray)) ++ (t352.extract 197 480)).size + 6 ≤ 9223372036854775807 then (if 486 ≤ (t352.size : Int) then (if ((((t352.extract 0 192) ++ (⟨#[102, 105, 114, 115, 116]⟩ : ByteArray)) ++ (t352.extract 197 480)) ++ (⟨#[115, 101, 99, 111, 110, 100]⟩ : ByteArray)).size + (t352.extract 486 t352.size).size ≤ 9223372036854775807 then ((skiffref1_Crc.f k (⟨#[102, 105, 114, 115, 116]⟩ : ByteArray)).bind fun t353 => ((skiffref1_Crc.f k (⟨#[115, 101, 99, 111, 110, 100]⟩ : ByteArray)).bind fun t355 => (if (Go.bits .and .i64 a0 1) = 1 then (skifflaw7_ChooseTable.j0 k a0 (wrap64 (1 + (Go.bits .and .i64 a1 7))) (wrap64 (1 + (Go.bits .and .i64 a2 7))) (((((t352.extract 0 192) ++ (⟨#[102, 105, 114, 115, 116]⟩ : ByteArray)) ++ (t352.extract 197 480)) ++ (⟨#[115, 101, 99, 111, 110, 100]⟩ : ByteArray)) ++ (t352.extract 486 t352.size)) (wrap64 (1 + (Go.bits .and .i64 a1 7))) 0 5 (Go.bits .xor .i64 t353 1) (wrap64 (1 + (Go.bits .and .i64 a2 7))) 1 6 t355) else (skifflaw7_ChooseTable.j0 k a0 (wrap64 (1 + (Go.bits .and .i64 a1 7))) (wrap64 (1 + (Go.bits .and .i64 a2 7))) (((((t352.extract 0 192) ++ (⟨#[102, 105, 114, 115, 116]⟩ : ByteArray)) ++ (t352.extract 197 480)) ++ (⟨#[115, 101, 99, 111, 110, 100]⟩ : ByteArray)) ++ (t352.extract 486 t352.size)) (wrap64 (1 + (Go.bits .and .i64 a1 7))) 0 5 t353 (wrap64 (1 + (Go.bits .and .i64 a2 7))) 1 6 t355)))) else (none)) else (none)) else (none)) else (none)) else (none)) else (none)) else (none)) else (none)) else (none))) else (none)) = some r := H
 have A4 := Aside0.mk A40
 clear A40
 by_cases c5 : t351 = true
 ·subst c5
  have H1 : ((skiffref1_Blank.f k).bind fun t352 => (if 0 ≤ 192 then (if 192 ≤ (t352.size : Int) then (if (t352.extract 0 192).size + 5 ≤ 9223372036854775807 then (if 197 ≤ 480 then (if 480 ≤ (t352.size : Int) then (if ((t352.extract 0 192) ++ (⟨#[102, 105, 114, 115, 116]⟩ : ByteArray)).size + (t352.extract 197 480).size ≤ 9223372036854775807 then (if (((t352.extract 0 192) ++ (⟨#[102, 105, 114, 115, 116]⟩ : ByteArray)) ++ (t352.extract 197 480)).size + 6 ≤ 9223372036854775807 then (if 486 ≤ (t352.size : Int) then (if ((((t352.extract 0 192) ++ (⟨#[102, 105, 114, 115, 116]⟩ : ByteArray)) ++ (t352.extract 197 480)) ++ (⟨#[115, 101, 99, 111, 110, 100]⟩ : ByteArray)).size + (t352.extract 486 t352.size).size ≤ 9223372036854775807 then ((skiffref1_Crc.f k (⟨#[102, 105, 114, 115, 116]⟩ : ByteArray)).bind fun t353 => ((skiffref1_Crc.f k (⟨#[115, 101, 99, 111, 110, 100]⟩ : ByteArray)).bind fun t355 => (if (Go.bits .and .i64 a0 1) = 1 then (skifflaw7_ChooseTable.j0 k a0 (wrap64 (1 + (Go.bits .and .i64 a1 7))) (wrap64 (1 + (Go.bits .and .i64 a2 7))) (((((t352.extract 0 192) ++ (⟨#[102, 105, 114, 115, 116]⟩ : ByteArray)) ++ (t352.extract 197 480)) ++ (⟨#[115, 101, 99, 111, 110, 100]⟩ : ByteArray)) ++ (t352.extract 486 t352.size)) (wrap64 (1 + (Go.bits .and .i64 a1 7))) 0 5 (Go.bits .xor .i64 t353 1) (wrap64 (1 + (Go.bits .and .i64 a2 7))) 1 6 t355) else (skifflaw7_ChooseTable.j0 k a0 (wrap64 (1 + (Go.bits .and .i64 a1 7))) (wrap64 (1 + (Go.bits .and .i64 a2 7))) (((((t352.extract 0 192) ++ (⟨#[102, 105, 114, 115, 116]⟩ : ByteArray)) ++ (t352.extract 197 480)) ++ (⟨#[115, 101, 99, 111, 110, 100]⟩ : ByteArray)) ++ (t352.extract 486 t352.size)) (wrap64 (1 + (Go.bits .and .i64 a1 7))) 0 5 t353 (wrap64 (1 + (Go.bits .and .i64 a2 7))) 1 6 t355)))) else (none)) else (none)) else (none)) else (none)) else (none)) else (none)) else (none)) else (none)) else (none))) = some r := by rw [if_pos rfl] at H; exact H
  clear H
  have H := H1
  clear H1
  replace H := Option.bind_eq_some_iff.mp H
  obtain ⟨t352, A60, H⟩ := H
  replace H : (if 0 ≤ 192 then (if 192 ≤ (t352.size : Int) then (if (t352.extract 0 192).size + 5 ≤ 9223372036854775807 then (if 197 ≤ 480 then (if 480 ≤ (t352.size : Int) then (if ((t352.extract 0 192) ++ (⟨#[102, 105, 114, 115, 116]⟩ : ByteArray)).size + (t352.extract 197 480).size ≤ 9223372036854775807 then (if (((t352.extract 0 192) ++ (⟨#[102, 105, 114, 115, 116]⟩ : ByteArray)) ++ (t352.extract 197 480)).size + 6 ≤ 9223372036854775807 then (if 486 ≤ (t352.size : Int) then (if ((((t352.extract 0 192) ++ (⟨#[102, 105, 114, 115, 116]⟩ : ByteArray)) ++ (t352.extract 197 480)) ++ (⟨#[115, 101, 99, 111, 110, 100]⟩ : ByteArray)).size + (t352.extract 486 t352.size).size ≤ 9223372036854775807 then ((skiffref1_Crc.f k (⟨#[102, 105, 114, 115, 116]⟩ : ByteArray)).bind fun t353 => ((skiffref1_Crc.f k (⟨#[115, 101, 99, 111, 110, 100]⟩ : ByteArray)).bind fun t355 => (if (Go.bits .and .i64 a0 1) = 1 then (skifflaw7_ChooseTable.j0 k a0 (wrap64 (1 + (Go.bits .and .i64 a1 7))) (wrap64 (1 + (Go.bits .and .i64 a2 7))) (((((t352.extract 0 192) ++ (⟨#[102, 105, 114, 115, 116]⟩ : ByteArray)) ++ (t352.extract 197 480)) ++ (⟨#[115, 101, 99, 111, 110, 100]⟩ : ByteArray)) ++ (t352.extract 486 t352.size)) (wrap64 (1 + (Go.bits .and .i64 a1 7))) 0 5 (Go.bits .xor .i64 t353 1) (wrap64 (1 + (Go.bits .and .i64 a2 7))) 1 6 t355) else (skifflaw7_ChooseTable.j0 k a0 (wrap64 (1 + (Go.bits .and .i64 a1 7))) (wrap64 (1 + (Go.bits .and .i64 a2 7))) (((((t352.extract 0 192) ++ (⟨#[102, 105, 114, 115, 116]⟩ : ByteArray)) ++ (t352.extract 197 480)) ++ (⟨#[115, 101, 99, 111, 110, 100]⟩ : ByteArray)) ++ (t352.extract 486 t352.size)) (wrap64 (1 + (Go.bits .and .i64 a1 7))) 0 5 t353 (wrap64 (1 + (Go.bits .and .i64 a2 7))) 1 6 t355)))) else (none)) else (none)) else (none)) else (none)) else (none)) else (none)) else (none)) else (none)) else (none)) = some r := H
  have A6 := Aside0.mk A60
  clear A60
  by_cases c7 : 0 ≤ 192
  ·rw [if_pos c7] at H
   have c7b0 := eq_true c7
   have c7b1 : decide (0 ≤ 192) = true := decide_eq_true c7
   clear c7
   by_cases c8 : 192 ≤ (t352.size : Int)
   ·rw [if_pos c8] at H
    have c8b0 := eq_true c8
    have c8b1 : decide (192 ≤ (t352.size : Int)) = true := decide_eq_true c8
    clear c8
    by_cases c9 : (t352.extract 0 192).size + 5 ≤ 9223372036854775807
    ·rw [if_pos c9] at H
     have c9b0 := eq_true c9
     have c9b1 : decide ((t352.extract 0 192).size + 5 ≤ 9223372036854775807) = true := decide_eq_true c9
     try have c9b2 : (9223372036854775807 < (t352.extract 0 192).size + 5) = False := eq_false (Nat.not_lt.2 c9)
     by_cases c10 : 197 ≤ 480
     ·rw [if_pos c10] at H
      have c10b0 := eq_true c10
      have c10b1 : decide (197 ≤ 480) = true := decide_eq_true c10
      clear c10
      by_cases c11 : 480 ≤ (t352.size : Int)
      ·rw [if_pos c11] at H
       have c11b0 := eq_true c11
       have c11b1 : decide (480 ≤ (t352.size : Int)) = true := decide_eq_true c11
       clear c11
       by_cases c12 : ((t352.extract 0 192) ++ (⟨#[102, 105, 114, 115, 116]⟩ : ByteArray)).size + (t352.extract 197 480).size ≤ 9223372036854775807
       ·rw [if_pos c12] at H
        have c12b0 := eq_true c12
        have c12b1 : decide (((t352.extract 0 192) ++ (⟨#[102, 105, 114, 115, 116]⟩ : ByteArray)).size + (t352.extract 197 480).size ≤ 9223372036854775807) = true := decide_eq_true c12
        try have c12b2 : (9223372036854775807 < ((t352.extract 0 192) ++ (⟨#[102, 105, 114, 115, 116]⟩ : ByteArray)).size + (t352.extract 197 480).size) = False := eq_false (Nat.not_lt.2 c12)
        by_cases c13 : (((t352.extract 0 192) ++ (⟨#[102, 105, 114, 115, 116]⟩ : ByteArray)) ++ (t352.extract 197 480)).size + 6 ≤ 9223372036854775807
        ·rw [if_pos c13] at H
         have c13b0 := eq_true c13
         have c13b1 : decide ((((t352.extract 0 192) ++ (⟨#[102, 105, 114, 115, 116]⟩ : ByteArray)) ++ (t352.extract 197 480)).size + 6 ≤ 9223372036854775807) = true := decide_eq_true c13
         try have c13b2 : (9223372036854775807 < (((t352.extract 0 192) ++ (⟨#[102, 105, 114, 115, 116]⟩ : ByteArray)) ++ (t352.extract 197 480)).size + 6) = False := eq_false (Nat.not_lt.2 c13)
         by_cases c14 : 486 ≤ (t352.size : Int)
         ·rw [if_pos c14] at H
          have c14b0 := eq_true c14
          have c14b1 : decide (486 ≤ (t352.size : Int)) = true := decide_eq_true c14
          clear c14
          by_cases c15 : ((((t352.extract 0 192) ++ (⟨#[102, 105, 114, 115, 116]⟩ : ByteArray)) ++ (t352.extract 197 480)) ++ (⟨#[115, 101, 99, 111, 110, 100]⟩ : ByteArray)).size + (t352.extract 486 t352.size).size ≤ 9223372036854775807
          ·rw [if_pos c15] at H
           have c15b0 := eq_true c15
           have c15b1 : decide (((((t352.extract 0 192) ++ (⟨#[102, 105, 114, 115, 116]⟩ : ByteArray)) ++ (t352.extract 197 480)) ++ (⟨#[115, 101, 99, 111, 110, 100]⟩ : ByteArray)).size + (t352.extract 486 t352.size).size ≤ 9223372036854775807) = true := decide_eq_true c15
           try have c15b2 : (9223372036854775807 < ((((t352.extract 0 192) ++ (⟨#[102, 105, 114, 115, 116]⟩ : ByteArray)) ++ (t352.extract 197 480)) ++ (⟨#[115, 101, 99, 111, 110, 100]⟩ : ByteArray)).size + (t352.extract 486 t352.size).size) = False := eq_false (Nat.not_lt.2 c15)
           replace H := Option.bind_eq_some_iff.mp H
           obtain ⟨t353, A160, H⟩ := H
           replace H : ((skiffref1_Crc.f k (⟨#[115, 101, 99, 111, 110, 100]⟩ : ByteArray)).bind fun t355 => (if (Go.bits .and .i64 a0 1) = 1 then (skifflaw7_ChooseTable.j0 k a0 (wrap64 (1 + (Go.bits .and .i64 a1 7))) (wrap64 (1 + (Go.bits .and .i64 a2 7))) (((((t352.extract 0 192) ++ (⟨#[102, 105, 114, 115, 116]⟩ : ByteArray)) ++ (t352.extract 197 480)) ++ (⟨#[115, 101, 99, 111, 110, 100]⟩ : ByteArray)) ++ (t352.extract 486 t352.size)) (wrap64 (1 + (Go.bits .and .i64 a1 7))) 0 5 (Go.bits .xor .i64 t353 1) (wrap64 (1 + (Go.bits .and .i64 a2 7))) 1 6 t355) else (skifflaw7_ChooseTable.j0 k a0 (wrap64 (1 + (Go.bits .and .i64 a1 7))) (wrap64 (1 + (Go.bits .and .i64 a2 7))) (((((t352.extract 0 192) ++ (⟨#[102, 105, 114, 115, 116]⟩ : ByteArray)) ++ (t352.extract 197 480)) ++ (⟨#[115, 101, 99, 111, 110, 100]⟩ : ByteArray)) ++ (t352.extract 486 t352.size)) (wrap64 (1 + (Go.bits .and .i64 a1 7))) 0 5 t353 (wrap64 (1 + (Go.bits .and .i64 a2 7))) 1 6 t355))) = some r := H
           have A16 := Aside0.mk A160
           clear A160
           replace H := Option.bind_eq_some_iff.mp H
           obtain ⟨t355, A170, H⟩ := H
           replace H : (if (Go.bits .and .i64 a0 1) = 1 then (skifflaw7_ChooseTable.j0 k a0 (wrap64 (1 + (Go.bits .and .i64 a1 7))) (wrap64 (1 + (Go.bits .and .i64 a2 7))) (((((t352.extract 0 192) ++ (⟨#[102, 105, 114, 115, 116]⟩ : ByteArray)) ++ (t352.extract 197 480)) ++ (⟨#[115, 101, 99, 111, 110, 100]⟩ : ByteArray)) ++ (t352.extract 486 t352.size)) (wrap64 (1 + (Go.bits .and .i64 a1 7))) 0 5 (Go.bits .xor .i64 t353 1) (wrap64 (1 + (Go.bits .and .i64 a2 7))) 1 6 t355) else (skifflaw7_ChooseTable.j0 k a0 (wrap64 (1 + (Go.bits .and .i64 a1 7))) (wrap64 (1 + (Go.bits .and .i64 a2 7))) (((((t352.extract 0 192) ++ (⟨#[102, 105, 114, 115, 116]⟩ : ByteArray)) ++ (t352.extract 197 480)) ++ (⟨#[115, 101, 99, 111, 110, 100]⟩ : ByteArray)) ++ (t352.extract 486 t352.size)) (wrap64 (1 + (Go.bits .and .i64 a1 7))) 0 5 t353 (wrap64 (1 + (Go.bits .and .i64 a2 7))) 1 6 t355)) = some r := H
           have A17 := Aside0.mk A170
           clear A170
           have HC18 := Aside0.mk H
           clear H
           go_enter Try.func5, Try.ntmps5
           go_upto_if 49 with (first | (go_at_call 14; (with_reducible refine (skifflaw7_awake.calls k  true _ A4.out).mono ?_); rintro e w19 ⟨rfl, hb⟩; have n0_ := Aside0.mk (below_step q2_ hb); clear HB; have HB := n0_; clear n0_; (try clear hb); (try clear hb2); (try clear hk); (try clear hi)) | (go_at_call 17; (with_reducible refine (skiffref1_Blank.calls k  t352 _ A6.out).mono ?_); rintro e w20 ⟨rfl, hb⟩; have n0_ := Aside0.mk (below_step q2_ hb); clear HB; have HB := n0_; clear n0_; (try clear hb); (try clear hb2); (try clear hk); (try clear hi)) | (go_at_call 18; (with_reducible refine (skiffref1_Crc.calls k (⟨#[102, 105, 114, 115, 116]⟩ : ByteArray) t353 _ A16.out).mono ?_); rintro e w' ⟨rfl, ⟨nd, rfl⟩⟩; (try first | exact ⟨rfl, _, World.drewN_drewN _ _ _⟩ | exact ⟨rfl, _, Eq.trans (World.drewN_drewN _ _ _) (congrArg (World.drewN _) (Nat.add_assoc _ _ _))⟩)) | ((with_reducible refine gate_dst (N := 10) rfl ?_); refine box_event ?hg (N := 10) ?hd (cs := #[.int .i64 0, .int .i64 0, .int .i64 0, .int .i64 0]) (t := 23) ?hr ?_; (case hd => rfl); (case hg => rfl); (case hr => first | (go_simp; done) | (go_simp; rfl)); intro gb354 hg w21 hbox hb; have n0_ := Aside0.mk (below_step q2_ hb); have n1_ := Aside0.mk (hbox); have n2_ := Aside0.mk ((by rw [hg]; exact (below_size q2_) : w.heap.size ≤ gb354)); have n3_ := Aside0.mk ((by rw [hg]; exact (below_size q2_) : w.heap.size ≤ gb354)); clear HB; have HB := n0_; have BK354 := n1_; have GW354 := n2_; have GE354 := n3_; clear n0_ n1_ n2_ n3_; clear hb hbox hg; have hcz22_0 : w21.cell? ⟨gb354, 0, none⟩ = some (.int .i64 0) := (blk_cell BK354.out 0).trans rfl; have hcz22_1 : w21.cell? ⟨gb354, 1, none⟩ = some (.int .i64 0) := (blk_cell BK354.out 1).trans rfl; have hcz22_2 : w21.cell? ⟨gb354, 2, none⟩ = some (.int .i64 0) := (blk_cell BK354.out 2).trans rfl; have hcz22_3 : w21.cell? ⟨gb354, 3, none⟩ = some (.int .i64 0) := (blk_cell BK354.out 3).trans rfl; have hfz22_0 := blk_frozen BK354.out 0; have hfz22_1 := blk_frozen BK354.out 1; have hfz22_2 := blk_frozen BK354.out 2; have hfz22_3 := blk_frozen BK354.out 3) | (go_at_call 18; (with_reducible refine (skiffref1_Crc.calls k (⟨#[115, 101, 99, 111, 110, 100]⟩ : ByteArray) t355 _ A17.out).mono ?_); rintro e w' ⟨rfl, ⟨nd, rfl⟩⟩; (try first | exact ⟨rfl, _, World.drewN_drewN _ _ _⟩ | exact ⟨rfl, _, Eq.trans (World.drewN_drewN _ _ _) (congrArg (World.drewN _) (Nat.add_assoc _ _ _))⟩)) | ((with_reducible refine gate_dst (N := 11) rfl ?_); refine box_event ?hg (N := 11) ?hd (cs := #[.int .i64 0, .int .i64 0, .int .i64 0, .int .i64 0]) (t := 23) ?hr ?_; (case hd => rfl); (case hg => rfl); (case hr => first | (go_simp; done) | (go_simp; rfl)); intro gb356 hg w23 hbox hb; have n0_ := Aside0.mk (blk_below (g := gb354) (o := .cells #[.int .i64 (wrap64 (1 + (Go.bits .and .i64 a1 7))), .int .i64 0, .int .i64 5, .int .i64 t353] 23 (0, 0)) (by (with_reducible repeat (first | refine blk_drewN ?_ _ | refine blk_drew ?_ | refine blk_alloc ?_ _)); refine blk_put (cs := #[.int .i64 (wrap64 (1 + (Go.bits .and .i64 a1 7))), .int .i64 0, .int .i64 5, .int .i64 0]) ?_ 3 _ rfl; (with_reducible repeat (first | refine blk_drewN ?_ _ | refine blk_drew ?_ | refine blk_alloc ?_ _)); refine blk_put (cs := #[.int .i64 (wrap64 (1 + (Go.bits .and .i64 a1 7))), .int .i64 0, .int .i64 0, .int .i64 0]) ?_ 2 _ rfl; (with_reducible repeat (first | refine blk_drewN ?_ _ | refine blk_drew ?_ | refine blk_alloc ?_ _)); refine blk_put (cs := #[.int .i64 (wrap64 (1 + (Go.bits .and .i64 a1 7))), .int .i64 0, .int .i64 0, .int .i64 0]) ?_ 1 _ rfl; (with_reducible repeat (first | refine blk_drewN ?_ _ | refine blk_drew ?_ | refine blk_alloc ?_ _)); refine blk_put (cs := #[.int .i64 0, .int .i64 0, .int .i64 0, .int .i64 0]) ?_ 0 _ rfl; (with_reducible repeat (first | refine blk_drewN ?_ _ | refine blk_drew ?_ | refine blk_alloc ?_ _)); exact BK354.out) hb); have n1_ := Aside0.mk (below_step (by repeat (first | (with_reducible first | exact HB.out | apply below_alloc | apply pw_below_drewN | apply below_drew1 | refine below_set ?_ GE354.out) | exact HB.out)) hb); have n2_ := Aside0.mk (hbox); have n3_ := Aside0.mk ((by rw [hg]; exact (below_size (by repeat (first | (with_reducible first | exact HB.out | apply below_alloc | apply pw_below_drewN | apply below_drew1 | refine below_set ?_ GE354.out) | exact HB.out))) : w.heap.size ≤ gb356)); have n4_ := Aside0.mk ((by rw [hg]; exact (below_size (by repeat (first | (with_reducible first | exact HB.out | apply below_alloc | apply pw_below_drewN | apply below_drew1 | refine below_set ?_ GE354.out) | exact HB.out))) : w.heap.size ≤ gb356)); have n5_ := Aside0.mk ((by rw [hg]; exact Nat.ne_of_lt (blk_lt (g := gb354) (o := .cells #[.int .i64 (wrap64 (1 + (Go.bits .and .i64 a1 7))), .int .i64 0, .int .i64 5, .int .i64 t353] 23 (0, 0)) (by (with_reducible repeat (first | refine blk_drewN ?_ _ | refine blk_drew ?_ | refine blk_alloc ?_ _)); refine blk_put (cs := #[.int .i64 (wrap64 (1 + (Go.bits .and .i64 a1 7))), .int .i64 0, .int .i64 5, .int .i64 0]) ?_ 3 _ rfl; (with_reducible repeat (first | refine blk_drewN ?_ _ | refine blk_drew ?_ | refine blk_alloc ?_ _)); refine blk_put (cs := #[.int .i64 (wrap64 (1 + (Go.bits .and .i64 a1 7))), .int .i64 0, .int .i64 0, .int .i64 0]) ?_ 2 _ rfl; (with_reducible repeat (first | refine blk_drewN ?_ _ | refine blk_drew ?_ | refine blk_alloc ?_ _)); refine blk_put (cs := #[.int .i64 (wrap64 (1 + (Go.bits .and .i64 a1 7))), .int .i64 0, .int .i64 0, .int .i64 0]) ?_ 1 _ rfl; (with_reducible repeat (first | refine blk_drewN ?_ _ | refine blk_drew ?_ | refine blk_alloc ?_ _)); refine blk_put (cs := #[.int .i64 0, .int .i64 0, .int .i64 0, .int .i64 0]) ?_ 0 _ rfl; (with_reducible repeat (first | refine blk_drewN ?_ _ | refine blk_drew ?_ | refine blk_alloc ?_ _)); exact BK354.out)) : gb354 ≠ gb356)); have n6_ := Aside0.mk ((by rw [hg]; exact Nat.ne_of_gt (blk_lt (g := gb354) (o := .cells #[.int .i64 (wrap64 (1 + (Go.bits .and .i64 a1 7))), .int .i64 0, .int .i64 5, .int .i64 t353] 23 (0, 0)) (by (with_reducible repeat (first | refine blk_drewN ?_ _ | refine blk_drew ?_ | refine blk_alloc ?_ _)); refine blk_put (cs := #[.int .i64 (wrap64 (1 + (Go.bits .and .i64 a1 7))), .int .i64 0, .int .i64 5, .int .i64 0]) ?_ 3 _ rfl; (with_reducible repeat (first | refine blk_drewN ?_ _ | refine blk_drew ?_ | refine blk_alloc ?_ _)); refine blk_put (cs := #[.int .i64 (wrap64 (1 + (Go.bits .and .i64 a1 7))), .int .i64 0, .int .i64 0, .int .i64 0]) ?_ 2 _ rfl; (with_reducible repeat (first | refine blk_drewN ?_ _ | refine blk_drew ?_ | refine blk_alloc ?_ _)); refine blk_put (cs := #[.int .i64 (wrap64 (1 + (Go.bits .and .i64 a1 7))), .int .i64 0, .int .i64 0, .int .i64 0]) ?_ 1 _ rfl; (with_reducible repeat (first | refine blk_drewN ?_ _ | refine blk_drew ?_ | refine blk_alloc ?_ _)); refine blk_put (cs := #[.int .i64 0, .int .i64 0, .int .i64 0, .int .i64 0]) ?_ 0 _ rfl; (with_reducible repeat (first | refine blk_drewN ?_ _ | refine blk_drew ?_ | refine blk_alloc ?_ _)); exact BK354.out)) : gb356 ≠ gb354)); clear BK354; clear HB; have BK354 := n0_; have HB := n1_; have BK356 := n2_; have GW356 := n3_; have GE356 := n4_; have NB354_356 := n5_; have NB356_354 := n6_; clear n0_ n1_ n2_ n3_ n4_ n5_ n6_; clear hb hbox hg; have hnb24 := NB356_354.out; have hnc24 := NB354_356.out; have hcz25_0 : w23.cell? ⟨gb356, 0, none⟩ = some (.int .i64 0) := (blk_cell BK356.out 0).trans rfl; have hcz25_1 : w23.cell? ⟨gb356, 1, none⟩ = some (.int .i64 0) := (blk_cell BK356.out 1).trans rfl; have hcz25_2 : w23.cell? ⟨gb356, 2, none⟩ = some (.int .i64 0) := (blk_cell BK356.out 2).trans rfl; have hcz25_3 : w23.cell? ⟨gb356, 3, none⟩ = some (.int .i64 0) := (blk_cell BK356.out 3).trans rfl; have hfz25_0 := blk_frozen BK356.out 0; have hfz25_1 := blk_frozen BK356.out 1; have hfz25_2 := blk_frozen BK356.out 2; have hfz25_3 := blk_frozen BK356.out 3))
           repeat (go_quiet (first | (go_at_call 14; (with_reducible refine (skifflaw7_awake.calls k  true _ A4.out).mono ?_); rintro e w19 ⟨rfl, hb⟩; have n0_ := Aside0.mk (below_step q2_ hb); clear HB; have HB := n0_; clear n0_; (try clear hb); (try clear hb2); (try clear hk); (try clear hi)) | (go_at_call 17; (with_reducible refine (skiffref1_Blank.calls k  t352 _ A6.out).mono ?_); rintro e w20 ⟨rfl, hb⟩; have n0_ := Aside0.mk (below_step q2_ hb); clear HB; have HB := n0_; clear n0_; (try clear hb); (try clear hb2); (try clear hk); (try clear hi)) | (go_at_call 18; (with_reducible refine (skiffref1_Crc.calls k (⟨#[102, 105, 114, 115, 116]⟩ : ByteArray) t353 _ A16.out).mono ?_); rintro e w' ⟨rfl, ⟨nd, rfl⟩⟩; (try first | exact ⟨rfl, _, World.drewN_drewN _ _ _⟩ | exact ⟨rfl, _, Eq.trans (World.drewN_drewN _ _ _) (congrArg (World.drewN _) (Nat.add_assoc _ _ _))⟩)) | ((with_reducible refine gate_dst (N := 10) rfl ?_); refine box_event ?hg (N := 10) ?hd (cs := #[.int .i64 0, .int .i64 0, .int .i64 0, .int .i64 0]) (t := 23) ?hr ?_; (case hd => rfl); (case hg => rfl); (case hr => first | (go_simp; done) | (go_simp; rfl)); intro gb354 hg w21 hbox hb; have n0_ := Aside0.mk (below_step q2_ hb); have n1_ := Aside0.mk (hbox); have n2_ := Aside0.mk ((by rw [hg]; exact (below_size q2_) : w.heap.size ≤ gb354)); have n3_ := Aside0.mk ((by rw [hg]; exact (below_size q2_) : w.heap.size ≤ gb354)); clear HB; have HB := n0_; have BK354 := n1_; have GW354 := n2_; have GE354 := n3_; clear n0_ n1_ n2_ n3_; clear hb hbox hg; have hcz22_0 : w21.cell? ⟨gb354, 0, none⟩ = some (.int .i64 0) := (blk_cell BK354.out 0).trans rfl; have hcz22_1 : w21.cell? ⟨gb354, 1, none⟩ = some (.int .i64 0) := (blk_cell BK354.out 1).trans rfl; have hcz22_2 : w21.cell? ⟨gb354, 2, none⟩ = some (.int .i64 0) := (blk_cell BK354.out 2).trans rfl; have hcz22_3 : w21.cell? ⟨gb354, 3, none⟩ = some (.int .i64 0) := (blk_cell BK354.out 3).trans rfl; have hfz22_0 := blk_frozen BK354.out 0; have hfz22_1 := blk_frozen BK354.out 1; have hfz22_2 := blk_frozen BK354.out 2; have hfz22_3 := blk_frozen BK354.out 3) | (go_at_call 18; (with_reducible refine (skiffref1_Crc.calls k (⟨#[115, 101, 99, 111, 110, 100]⟩ : ByteArray) t355 _ A17.out).mono ?_); rintro e w' ⟨rfl, ⟨nd, rfl⟩⟩; (try first | exact ⟨rfl, _, World.drewN_drewN _ _ _⟩ | exact ⟨rfl, _, Eq.trans (World.drewN_drewN _ _ _) (congrArg (World.drewN _) (Nat.add_assoc _ _ _))⟩)) | ((with_reducible refine gate_dst (N := 11) rfl ?_); refine box_event ?hg (N := 11) ?hd (cs := #[.int .i64 0, .int .i64 0, .int .i64 0, .int .i64 0]) (t := 23) ?hr ?_; (case hd => rfl); (case hg => rfl); (case hr => first | (go_simp; done) | (go_simp; rfl)); intro gb356 hg w23 hbox hb; have n0_ := Aside0.mk (blk_below (g := gb354) (o := .cells #[.int .i64 (wrap64 (1 + (Go.bits .and .i64 a1 7))), .int .i64 0, .int .i64 5, .int .i64 t353] 23 (0, 0)) (by (with_reducible repeat (first | refine blk_drewN ?_ _ | refine blk_drew ?_ | refine blk_alloc ?_ _)); refine blk_put (cs := #[.int .i64 (wrap64 (1 + (Go.bits .and .i64 a1 7))), .int .i64 0, .int .i64 5, .int .i64 0]) ?_ 3 _ rfl; (with_reducible repeat (first | refine blk_drewN ?_ _ | refine blk_drew ?_ | refine blk_alloc ?_ _)); refine blk_put (cs := #[.int .i64 (wrap64 (1 + (Go.bits .and .i64 a1 7))), .int .i64 0, .int .i64 0, .int .i64 0]) ?_ 2 _ rfl; (with_reducible repeat (first | refine blk_drewN ?_ _ | refine blk_drew ?_ | refine blk_alloc ?_ _)); refine blk_put (cs := #[.int .i64 (wrap64 (1 + (Go.bits .and .i64 a1 7))), .int .i64 0, .int .i64 0, .int .i64 0]) ?_ 1 _ rfl; (with_reducible repeat (first | refine blk_drewN ?_ _ | refine blk_drew ?_ | refine blk_alloc ?_ _)); refine blk_put (cs := #[.int .i64 0, .int .i64 0, .int .i64 0, .int .i64 0]) ?_ 0 _ rfl; (with_reducible repeat (first | refine blk_drewN ?_ _ | refine blk_drew ?_ | refine blk_alloc ?_ _)); exact BK354.out) hb); have n1_ := Aside0.mk (below_step (by repeat (first | (with_reducible first | exact HB.out | apply below_alloc | apply pw_below_drewN | apply below_drew1 | refine below_set ?_ GE354.out) | exact HB.out)) hb); have n2_ := Aside0.mk (hbox); have n3_ := Aside0.mk ((by rw [hg]; exact (below_size (by repeat (first | (with_reducible first | exact HB.out | apply below_alloc | apply pw_below_drewN | apply below_drew1 | refine below_set ?_ GE354.out) | exact HB.out))) : w.heap.size ≤ gb356)); have n4_ := Aside0.mk ((by rw [hg]; exact (below_size (by repeat (first | (with_reducible first | exact HB.out | apply below_alloc | apply pw_below_drewN | apply below_drew1 | refine below_set ?_ GE354.out) | exact HB.out))) : w.heap.size ≤ gb356)); have n5_ := Aside0.mk ((by rw [hg]; exact Nat.ne_of_lt (blk_lt (g := gb354) (o := .cells #[.int .i64 (wrap64 (1 + (Go.bits .and .i64 a1 7))), .int .i64 0, .int .i64 5, .int .i64 t353] 23 (0, 0)) (by (with_reducible repeat (first | refine blk_drewN ?_ _ | refine blk_drew ?_ | refine blk_alloc ?_ _)); refine blk_put (cs := #[.int .i64 (wrap64 (1 + (Go.bits .and .i64 a1 7))), .int .i64 0, .int .i64 5, .int .i64 0]) ?_ 3 _ rfl; (with_reducible repeat (first | refine blk_drewN ?_ _ | refine blk_drew ?_ | refine blk_alloc ?_ _)); refine blk_put (cs := #[.int .i64 (wrap64 (1 + (Go.bits .and .i64 a1 7))), .int .i64 0, .int .i64 0, .int .i64 0]) ?_ 2 _ rfl; (with_reducible repeat (first | refine blk_drewN ?_ _ | refine blk_drew ?_ | refine blk_alloc ?_ _)); refine blk_put (cs := #[.int .i64 (wrap64 (1 + (Go.bits .and .i64 a1 7))), .int .i64 0, .int .i64 0, .int .i64 0]) ?_ 1 _ rfl; (with_reducible repeat (first | refine blk_drewN ?_ _ | refine blk_drew ?_ | refine blk_alloc ?_ _)); refine blk_put (cs := #[.int .i64 0, .int .i64 0, .int .i64 0, .int .i64 0]) ?_ 0 _ rfl; (with_reducible repeat (first | refine blk_drewN ?_ _ | refine blk_drew ?_ | refine blk_alloc ?_ _)); exact BK354.out)) : gb354 ≠ gb356)); have n6_ := Aside0.mk ((by rw [hg]; exact Nat.ne_of_gt (blk_lt (g := gb354) (o := .cells #[.int .i64 (wrap64 (1 + (Go.bits .and .i64 a1 7))), .int .i64 0, .int .i64 5, .int .i64 t353] 23 (0, 0)) (by (with_reducible repeat (first | refine blk_drewN ?_ _ | refine blk_drew ?_ | refine blk_alloc ?_ _)); refine blk_put (cs := #[.int .i64 (wrap64 (1 + (Go.bits .and .i64 a1 7))), .int .i64 0, .int .i64 5, .int .i64 0]) ?_ 3 _ rfl; (with_reducible repeat (first | refine blk_drewN ?_ _ | refine blk_drew ?_ | refine blk_alloc ?_ _)); refine blk_put (cs := #[.int .i64 (wrap64 (1 + (Go.bits .and .i64 a1 7))), .int .i64 0, .int .i64 0, .int .i64 0]) ?_ 2 _ rfl; (with_reducible repeat (first | refine blk_drewN ?_ _ | refine blk_drew ?_ | refine blk_alloc ?_ _)); refine blk_put (cs := #[.int .i64 (wrap64 (1 + (Go.bits .and .i64 a1 7))), .int .i64 0, .int .i64 0, .int .i64 0]) ?_ 1 _ rfl; (with_reducible repeat (first | refine blk_drewN ?_ _ | refine blk_drew ?_ | refine blk_alloc ?_ _)); refine blk_put (cs := #[.int .i64 0, .int .i64 0, .int .i64 0, .int .i64 0]) ?_ 0 _ rfl; (with_reducible repeat (first | refine blk_drewN ?_ _ | refine blk_drew ?_ | refine blk_alloc ?_ _)); exact BK354.out)) : gb356 ≠ gb354)); clear BK354; clear HB; have BK354 := n0_; have HB := n1_; have BK356 := n2_; have GW356 := n3_; have GE356 := n4_; have NB354_356 := n5_; have NB356_354 := n6_; clear n0_ n1_ n2_ n3_ n4_ n5_ n6_; clear hb hbox hg; have hnb24 := NB356_354.out; have hnc24 := NB354_356.out; have hcz25_0 : w23.cell? ⟨gb356, 0, none⟩ = some (.int .i64 0) := (blk_cell BK356.out 0).trans rfl; have hcz25_1 : w23.cell? ⟨gb356, 1, none⟩ = some (.int .i64 0) := (blk_cell BK356.out 1).trans rfl; have hcz25_2 : w23.cell? ⟨gb356, 2, none⟩ = some (.int .i64 0) := (blk_cell BK356.out 2).trans rfl; have hcz25_3 : w23.cell? ⟨gb356, 3, none⟩ = some (.int .i64 0) := (blk_cell BK356.out 3).trans rfl; have hfz25_0 := blk_frozen BK356.out 0; have hfz25_1 := blk_frozen BK356.out 1; have hfz25_2 := blk_frozen BK356.out 2; have hfz25_3 := blk_frozen BK356.out 3)); go_upto_if 49 with (first | (go_at_call 14; (with_reducible refine (skifflaw7_awake.calls k  true _ A4.out).mono ?_); rintro e w19 ⟨rfl, hb⟩; have n0_ := Aside0.mk (below_step q2_ hb); clear HB; have HB := n0_; clear n0_; (try clear hb); (try clear hb2); (try clear hk); (try clear hi)) | (go_at_call 17; (with_reducible refine (skiffref1_Blank.calls k  t352 _ A6.out).mono ?_); rintro e w20 ⟨rfl, hb⟩; have n0_ := Aside0.mk (below_step q2_ hb); clear HB; have HB := n0_; clear n0_; (try clear hb); (try clear hb2); (try clear hk); (try clear hi)) | (go_at_call 18; (with_reducible refine (skiffref1_Crc.calls k (⟨#[102, 105, 114, 115, 116]⟩ : ByteArray) t353 _ A16.out).mono ?_); rintro e w' ⟨rfl, ⟨nd, rfl⟩⟩; (try first | exact ⟨rfl, _, World.drewN_drewN _ _ _⟩ | exact ⟨rfl, _, Eq.trans (World.drewN_drewN _ _ _) (congrArg (World.drewN _) (Nat.add_assoc _ _ _))⟩)) | ((with_reducible refine gate_dst (N := 10) rfl ?_); refine box_event ?hg (N := 10) ?hd (cs := #[.int .i64 0, .int .i64 0, .int .i64 0, .int .i64 0]) (t := 23) ?hr ?_; (case hd => rfl); (case hg => rfl); (case hr => first | (go_simp; done) | (go_simp; rfl)); intro gb354 hg w21 hbox hb; have n0_ := Aside0.mk (below_step q2_ hb); have n1_ := Aside0.mk (hbox); have n2_ := Aside0.mk ((by rw [hg]; exact (below_size q2_) : w.heap.size ≤ gb354)); have n3_ := Aside0.mk ((by rw [hg]; exact (below_size q2_) : w.heap.size ≤ gb354)); clear HB; have HB := n0_; have BK354 := n1_; have GW354 := n2_; have GE354 := n3_; clear n0_ n1_ n2_ n3_; clear hb hbox hg; have hcz22_0 : w21.cell? ⟨gb354, 0, none⟩ = some (.int .i64 0) := (blk_cell BK354.out 0).trans rfl; have hcz22_1 : w21.cell? ⟨gb354, 1, none⟩ = some (.int .i64 0) := (blk_cell BK354.out 1).trans rfl; have hcz22_2 : w21.cell? ⟨gb354, 2, none⟩ = some (.int .i64 0) := (blk_cell BK354.out 2).trans rfl; have hcz22_3 : w21.cell? ⟨gb354, 3, none⟩ = some (.int .i64 0) := (blk_cell BK354.out 3).trans rfl; have hfz22_0 := blk_frozen BK354.out 0; have hfz22_1 := blk_frozen BK354.out 1; have hfz22_2 := blk_frozen BK354.out 2; have hfz22_3 := blk_frozen BK354.out 3) | (go_at_call 18; (with_reducible refine (skiffref1_Crc.calls k (⟨#[115, 101, 99, 111, 110, 100]⟩ : ByteArray) t355 _ A17.out).mono ?_); rintro e w' ⟨rfl, ⟨nd, rfl⟩⟩; (try first | exact ⟨rfl, _, World.drewN_drewN _ _ _⟩ | exact ⟨rfl, _, Eq.trans (World.drewN_drewN _ _ _) (congrArg (World.drewN _) (Nat.add_assoc _ _ _))⟩)) | ((with_reducible refine gate_dst (N := 11) rfl ?_); refine box_event ?hg (N := 11) ?hd (cs := #[.int .i64 0, .int .i64 0, .int .i64 0, .int .i64 0]) (t := 23) ?hr ?_; (case hd => rfl); (case hg => rfl); (case hr => first | (go_simp; done) | (go_simp; rfl)); intro gb356 hg w23 hbox hb; have n0_ := Aside0.mk (blk_below (g := gb354) (o := .cells #[.int .i64 (wrap64 (1 + (Go.bits .and .i64 a1 7))), .int .i64 0, .int .i64 5, .int .i64 t353] 23 (0, 0)) (by (with_reducible repeat (first | refine blk_drewN ?_ _ | refine blk_drew ?_ | refine blk_alloc ?_ _)); refine blk_put (cs := #[.int .i64 (wrap64 (1 + (Go.bits .and .i64 a1 7))), .int .i64 0, .int .i64 5, .int .i64 0]) ?_ 3 _ rfl; (with_reducible repeat (first | refine blk_drewN ?_ _ | refine blk_drew ?_ | refine blk_alloc ?_ _)); refine blk_put (cs := #[.int .i64 (wrap64 (1 + (Go.bits .and .i64 a1 7))), .int .i64 0, .int .i64 0, .int .i64 0]) ?_ 2 _ rfl; (with_reducible repeat (first | refine blk_drewN ?_ _ | refine blk_drew ?_ | refine blk_alloc ?_ _)); refine blk_put (cs := #[.int .i64 (wrap64 (1 + (Go.bits .and .i64 a1 7))), .int .i64 0, .int .i64 0, .int .i64 0]) ?_ 1 _ rfl; (with_reducible repeat (first | refine blk_drewN ?_ _ | refine blk_drew ?_ | refine blk_alloc ?_ _)); refine blk_put (cs := #[.int .i64 0, .int .i64 0, .int .i64 0, .int .i64 0]) ?_ 0 _ rfl; (with_reducible repeat (first | refine blk_drewN ?_ _ | refine blk_drew ?_ | refine blk_alloc ?_ _)); exact BK354.out) hb); have n1_ := Aside0.mk (below_step (by repeat (first | (with_reducible first | exact HB.out | apply below_alloc | apply pw_below_drewN | apply below_drew1 | refine below_set ?_ GE354.out) | exact HB.out)) hb); have n2_ := Aside0.mk (hbox); have n3_ := Aside0.mk ((by rw [hg]; exact (below_size (by repeat (first | (with_reducible first | exact HB.out | apply below_alloc | apply pw_below_drewN | apply below_drew1 | refine below_set ?_ GE354.out) | exact HB.out))) : w.heap.size ≤ gb356)); have n4_ := Aside0.mk ((by rw [hg]; exact (below_size (by repeat (first | (with_reducible first | exact HB.out | apply below_alloc | apply pw_below_drewN | apply below_drew1 | refine below_set ?_ GE354.out) | exact HB.out))) : w.heap.size ≤ gb356)); have n5_ := Aside0.mk ((by rw [hg]; exact Nat.ne_of_lt (blk_lt (g := gb354) (o := .cells #[.int .i64 (wrap64 (1 + (Go.bits .and .i64 a1 7))), .int .i64 0, .int .i64 5, .int .i64 t353] 23 (0, 0)) (by (with_reducible repeat (first | refine blk_drewN ?_ _ | refine blk_drew ?_ | refine blk_alloc ?_ _)); refine blk_put (cs := #[.int .i64 (wrap64 (1 + (Go.bits .and .i64 a1 7))), .int .i64 0, .int .i64 5, .int .i64 0]) ?_ 3 _ rfl; (with_reducible repeat (first | refine blk_drewN ?_ _ | refine blk_drew ?_ | refine blk_alloc ?_ _)); refine blk_put (cs := #[.int .i64 (wrap64 (1 + (Go.bits .and .i64 a1 7))), .int .i64 0, .int .i64 0, .int .i64 0]) ?_ 2 _ rfl; (with_reducible repeat (first | refine blk_drewN ?_ _ | refine blk_drew ?_ | refine blk_alloc ?_ _)); refine blk_put (cs := #[.int .i64 (wrap64 (1 + (Go.bits .and .i64 a1 7))), .int .i64 0, .int .i64 0, .int .i64 0]) ?_ 1 _ rfl; (with_reducible repeat (first | refine blk_drewN ?_ _ | refine blk_drew ?_ | refine blk_alloc ?_ _)); refine blk_put (cs := #[.int .i64 0, .int .i64 0, .int .i64 0, .int .i64 0]) ?_ 0 _ rfl; (with_reducible repeat (first | refine blk_drewN ?_ _ | refine blk_drew ?_ | refine blk_alloc ?_ _)); exact BK354.out)) : gb354 ≠ gb356)); have n6_ := Aside0.mk ((by rw [hg]; exact Nat.ne_of_gt (blk_lt (g := gb354) (o := .cells #[.int .i64 (wrap64 (1 + (Go.bits .and .i64 a1 7))), .int .i64 0, .int .i64 5, .int .i64 t353] 23 (0, 0)) (by (with_reducible repeat (first | refine blk_drewN ?_ _ | refine blk_drew ?_ | refine blk_alloc ?_ _)); refine blk_put (cs := #[.int .i64 (wrap64 (1 + (Go.bits .and .i64 a1 7))), .int .i64 0, .int .i64 5, .int .i64 0]) ?_ 3 _ rfl; (with_reducible repeat (first | refine blk_drewN ?_ _ | refine blk_drew ?_ | refine blk_alloc ?_ _)); refine blk_put (cs := #[.int .i64 (wrap64 (1 + (Go.bits .and .i64 a1 7))), .int .i64 0, .int .i64 0, .int .i64 0]) ?_ 2 _ rfl; (with_reducible repeat (first | refine blk_drewN ?_ _ | refine blk_drew ?_ | refine blk_alloc ?_ _)); refine blk_put (cs := #[.int .i64 (wrap64 (1 + (Go.bits .and .i64 a1 7))), .int .i64 0, .int .i64 0, .int .i64 0]) ?_ 1 _ rfl; (with_reducible repeat (first | refine blk_drewN ?_ _ | refine blk_drew ?_ | refine blk_alloc ?_ _)); refine blk_put (cs := #[.int .i64 0, .int .i64 0, .int .i64 0, .int .i64 0]) ?_ 0 _ rfl; (with_reducible repeat (first | refine blk_drewN ?_ _ | refine blk_drew ?_ | refine blk_alloc ?_ _)); exact BK354.out)) : gb356 ≠ gb354)); clear BK354; clear HB; have BK354 := n0_; have HB := n1_; have BK356 := n2_; have GW356 := n3_; have GE356 := n4_; have NB354_356 := n5_; have NB356_354 := n6_; clear n0_ n1_ n2_ n3_ n4_ n5_ n6_; clear hb hbox hg; have hnb24 := NB356_354.out; have hnc24 := NB354_356.out; have hcz25_0 : w23.cell? ⟨gb356, 0, none⟩ = some (.int .i64 0) := (blk_cell BK356.out 0).trans rfl; have hcz25_1 : w23.cell? ⟨gb356, 1, none⟩ = some (.int .i64 0) := (blk_cell BK356.out 1).trans rfl; have hcz25_2 : w23.cell? ⟨gb356, 2, none⟩ = some (.int .i64 0) := (blk_cell BK356.out 2).trans rfl; have hcz25_3 : w23.cell? ⟨gb356, 3, none⟩ = some (.int .i64 0) := (blk_cell BK356.out 3).trans rfl; have hfz25_0 := blk_frozen BK356.out 0; have hfz25_1 := blk_frozen BK356.out 1; have hfz25_2 := blk_frozen BK356.out 2; have hfz25_3 := blk_frozen BK356.out 3)))
           (try simp only [Act.put, List.setIfInBounds_toArray, List.set_cons_zero, List.set_cons_succ])
           go_cut [] (fun wc => ∃ (kq : Nat) (x355003_17 : Int), Aside0 (skifflaw7_ChooseTable.j0 kq a0 (wrap64 (1 + (Go.bits .and .i64 a1 7))) (wrap64 (1 + (Go.bits .and .i64 a2 7))) (((((t352.extract 0 192) ++ (⟨#[102, 105, 114, 115, 116]⟩ : ByteArray)) ++ (t352.extract 197 480)) ++ (⟨#[115, 101, 99, 111, 110, 100]⟩ : ByteArray)) ++ (t352.extract 486 t352.size)) (wrap64 (1 + (Go.bits .and .i64 a1 7))) 0 5 x355003_17 (wrap64 (1 + (Go.bits .and .i64 a2 7))) 1 6 t355 = some r) ∧ Aside0 (kq ≤ k) ∧ Aside0 (wc.heap[gb354]? = some (.cells #[.int .i64 (wrap64 (1 + (Go.bits .and .i64 a1 7))), .int .i64 0, .int .i64 5, .int .i64 x355003_17] 23 (0, 0))) ∧ Aside0 (wc.heap[gb356]? = some (.cells #[.int .i64 (wrap64 (1 + (Go.bits .and .i64 a2 7))), .int .i64 1, .int .i64 6, .int .i64 t355] 23 (0, 0))) ∧ Aside0 (Below w.heap.size w wc))
           case first =>
            have H := HC18.out
            clear HC18
            by_cases c26 : (Go.bits .and .i64 a0 1) = 1
            ·rw [if_pos c26] at H
             have c26b0 : ((Go.bits .and .i64 a0 1) == 1) = true := beq_iff_eq.mpr c26
             have c26b1 : ((Go.bits .and .i64 a0 1) != 1) = false := bne_eq_false_iff_eq.mpr c26
             clear c26
             (first | rw [c26b0] | (simp only [i64_w, i32_w]; rw [c26b0]) | skip)
             have H' := Aside0.mk H
             clear H
             have hnb27 := NB354_356.out
             have hnc27 := NB356_354.out
             have hcz28_0 : w23.cell? ⟨gb354, 0, none⟩ = some (.int .i64 (wrap64 (1 + (Go.bits .and .i64 a1 7)))) := (blk_cell BK354.out 0).trans rfl
             have hcz28_1 : w23.cell? ⟨gb354, 1, none⟩ = some (.int .i64 0) := (blk_cell BK354.out 1).trans rfl
             have hcz28_2 : w23.cell? ⟨gb354, 2, none⟩ = some (.int .i64 5) := (blk_cell BK354.out 2).trans rfl
             have hcz28_3 : w23.cell? ⟨gb354, 3, none⟩ = some (.int .i64 t353) := (blk_cell BK354.out 3).trans rfl
             have hfz28_0 := blk_frozen BK354.out 0
             have hfz28_1 := blk_frozen BK354.out 1
             have hfz28_2 := blk_frozen BK354.out 2
             have hfz28_3 := blk_frozen BK354.out 3
             go_wp2
             repeat (go_quiet (fail); try go_wp2)
             go_meet
             case rel => exact ⟨_, (Go.bits .xor .i64 t353 1), H', ⟨by first | omega | exact Nat.le_refl _⟩, ⟨by (with_reducible repeat (first | refine blk_drewN ?_ _ | refine blk_drew ?_ | refine blk_alloc ?_ _)); refine blk_put (cs := #[.int .i64 (wrap64 (1 + (Go.bits .and .i64 a1 7))), .int .i64 0, .int .i64 5, .int .i64 t353]) ?_ 3 _ rfl; (with_reducible repeat (first | refine blk_drewN ?_ _ | refine blk_drew ?_ | refine blk_alloc ?_ _)); refine blk_far ?_ NB354_356.out _; (with_reducible repeat (first | refine blk_drewN ?_ _ | refine blk_drew ?_ | refine blk_alloc ?_ _)); refine blk_far ?_ NB354_356.out _; (with_reducible repeat (first | refine blk_drewN ?_ _ | refine blk_drew ?_ | refine blk_alloc ?_ _)); refine blk_far ?_ NB354_356.out _; (with_reducible repeat (first | refine blk_drewN ?_ _ | refine blk_drew ?_ | refine blk_alloc ?_ _)); refine blk_far ?_ NB354_356.out _; (with_reducible repeat (first | refine blk_drewN ?_ _ | refine blk_drew ?_ | refine blk_alloc ?_ _)); exact BK354.out⟩, ⟨by (with_reducible repeat (first | refine blk_drewN ?_ _ | refine blk_drew ?_ | refine blk_alloc ?_ _)); refine blk_far ?_ NB356_354.out _; (with_reducible repeat (first | refine blk_drewN ?_ _ | refine blk_drew ?_ | refine blk_alloc ?_ _)); refine blk_put (cs := #[.int .i64 (wrap64 (1 + (Go.bits .and .i64 a2 7))), .int .i64 1, .int .i64 6, .int .i64 0]) ?_ 3 _ rfl; (with_reducible repeat (first | refine blk_drewN ?_ _ | refine blk_drew ?_ | refine blk_alloc ?_ _)); refine blk_put (cs := #[.int .i64 (wrap64 (1 + (Go.bits .and .i64 a2 7))), .int .i64 1, .int .i64 0, .int .i64 0]) ?_ 2 _ rfl; (with_reducible repeat (first | refine blk_drewN ?_ _ | refine blk_drew ?_ | refine blk_alloc ?_ _)); refine blk_put (cs := #[.int .i64 (wrap64 (1 + (Go.bits .and .i64 a2 7))), .int .i64 0, .int .i64 0, .int .i64 0]) ?_ 1 _ rfl; (with_reducible repeat (first | refine blk_drewN ?_ _ | refine blk_drew ?_ | refine blk_alloc ?_ _)); refine blk_put (cs := #[.int .i64 0, .int .i64 0, .int .i64 0, .int .i64 0]) ?_ 0 _ rfl; (with_reducible repeat (first | refine blk_drewN ?_ _ | refine blk_drew ?_ | refine blk_alloc ?_ _)); exact BK356.out⟩, ⟨by repeat (first | (with_reducible first | exact HB.out | apply below_alloc | apply pw_below_drewN | apply below_drew1 | refine below_set ?_ GE354.out | refine below_set ?_ GE356.out) | exact HB.out)⟩⟩
            ·rw [if_neg c26] at H
             have c26b0 : ((Go.bits .and .i64 a0 1) == 1) = false := beq_eq_false_iff_ne.mpr c26
             have c26b1 : ((Go.bits .and .i64 a0 1) != 1) = true := bne_iff_ne.mpr c26
             (first | rw [c26b0] | (simp only [i64_w, i32_w]; rw [c26b0]) | skip)
             have H' := Aside0.mk H
             clear H
             go_wp2
             repeat (go_quiet (fail); try go_wp2)
             go_meet
             case rel => exact ⟨_, (t353), H', ⟨by first | omega | exact Nat.le_refl _⟩, ⟨by (with_reducible repeat (first | refine blk_drewN ?_ _ | refine blk_drew ?_ | refine blk_alloc ?_ _)); refine blk_far ?_ NB354_356.out _; (with_reducible repeat (first | refine blk_drewN ?_ _ | refine blk_drew ?_ | refine blk_alloc ?_ _)); refine blk_far ?_ NB354_356.out _; (with_reducible repeat (first | refine blk_drewN ?_ _ | refine blk_drew ?_ | refine blk_alloc ?_ _)); refine blk_far ?_ NB354_356.out _; (with_reducible repeat (first | refine blk_drewN ?_ _ | refine blk_drew ?_ | refine blk_alloc ?_ _)); refine blk_far ?_ NB354_356.out _; (with_reducible repeat (first | refine blk_drewN ?_ _ | refine blk_drew ?_ | refine blk_alloc ?_ _)); exact BK354.out⟩, ⟨by (with_reducible repeat (first | refine blk_drewN ?_ _ | refine blk_drew ?_ | refine blk_alloc ?_ _)); refine blk_put (cs := #[.int .i64 (wrap64 (1 + (Go.bits .and .i64 a2 7))), .int .i64 1, .int .i64 6, .int .i64 0]) ?_ 3 _ rfl; (with_reducible repeat (first | refine blk_drewN ?_ _ | refine blk_drew ?_ | refine blk_alloc ?_ _)); refine blk_put (cs := #[.int .i64 (wrap64 (1 + (Go.bits .and .i64 a2 7))), .int .i64 1, .int .i64 0, .int .i64 0]) ?_ 2 _ rfl; (with_reducible repeat (first | refine blk_drewN ?_ _ | refine blk_drew ?_ | refine blk_alloc ?_ _)); refine blk_put (cs := #[.int .i64 (wrap64 (1 + (Go.bits .and .i64 a2 7))), .int .i64 0, .int .i64 0, .int .i64 0]) ?_ 1 _ rfl; (with_reducible repeat (first | refine blk_drewN ?_ _ | refine blk_drew ?_ | refine blk_alloc ?_ _)); refine blk_put (cs := #[.int .i64 0, .int .i64 0, .int .i64 0, .int .i64 0]) ?_ 0 _ rfl; (with_reducible repeat (first | refine blk_drewN ?_ _ | refine blk_drew ?_ | refine blk_alloc ?_ _)); exact BK356.out⟩, ⟨by repeat (first | (with_reducible first | exact HB.out | apply below_alloc | apply pw_below_drewN | apply below_drew1 | refine below_set ?_ GE354.out | refine below_set ?_ GE356.out) | exact HB.out)⟩⟩
           case rest =>
            clear HC18
            try clear c1
            try clear c2
            try clear p2
            try clear c5
            try clear p6
            try clear c7
            try clear c7b0
            try clear c7b1
            try clear c8
            try clear c8b0
            try clear c8b1
            try clear c9
            try clear c9b0
            try clear c9b1
            try clear c9b2
            try clear c10
            try clear c10b0
            try clear c10b1
            try clear c11
            try clear c11b0
            try clear c11b1
            try clear c12
            try clear c12b0
            try clear c12b1
            try clear c12b2
            try clear c13
            try clear c13b0
            try clear c13b1
            try clear c13b2
            try clear c14
            try clear c14b0
            try clear c14b1
            try clear c15
            try clear c15b0
            try clear c15b1
            try clear c15b2
            try clear c24
            try clear c26
            try clear c26b0
            try clear c26b1
            try clear c27
            try clear hcz22_0
            try clear hcz22_1
            try clear hcz22_2
            try clear hcz22_3
            try clear hcz25_0
            try clear hcz25_1
            try clear hcz25_2
            try clear hcz25_3
            try clear hcz28_0
            try clear hcz28_1
            try clear hcz28_2
            try clear hcz28_3
            try clear hfz22_0
            try clear hfz22_1
            try clear hfz22_2
            try clear hfz22_3
            try clear hfz25_0
            try clear hfz25_1
            try clear hfz25_2
            try clear hfz25_3
            try clear hfz28_0
            try clear hfz28_1
            try clear hfz28_2
            try clear hfz28_3
            obtain ⟨kq, x355003_17, HA, HJ17, BK354, BK356, HB⟩ := hcut
            cases kq with
            | zero => exact absurd HA.out (by simp [skifflaw7_ChooseTable.j0])
            | succ kj17 =>
             have H := HA.out
             clear HA
             simp only [skifflaw7_ChooseTable.j0] at H
             have HC29 := Aside0.mk H
             clear H
             go_upto_if 56 with (fail)
             repeat (go_quiet (fail); go_upto_if 56 with (fail))
             go_cut [] (fun wc => ∃ (kq : Nat) (x357003_28 : Int), Aside0 (skifflaw7_ChooseTable.j1 kq a0 (wrap64 (1 + (Go.bits .and .i64 a1 7))) (wrap64 (1 + (Go.bits .and .i64 a2 7))) (((((t352.extract 0 192) ++ (⟨#[102, 105, 114, 115, 116]⟩ : ByteArray)) ++ (t352.extract 197 480)) ++ (⟨#[115, 101, 99, 111, 110, 100]⟩ : ByteArray)) ++ (t352.extract 486 t352.size)) (wrap64 (1 + (Go.bits .and .i64 a1 7))) 0 5 x355003_17 (wrap64 (1 + (Go.bits .and .i64 a2 7))) 1 6 x357003_28 = some r) ∧ Aside0 (kq ≤ kj17) ∧ Aside0 (wc.heap[gb354]? = some (.cells #[.int .i64 (wrap64 (1 + (Go.bits .and .i64 a1 7))), .int .i64 0, .int .i64 5, .int .i64 x355003_17] 23 (0, 0))) ∧ Aside0 (wc.heap[gb356]? = some (.cells #[.int .i64 (wrap64 (1 + (Go.bits .and .i64 a2 7))), .int .i64 1, .int .i64 6, .int .i64 x357003_28] 23 (0, 0))) ∧ Aside0 (Below w.heap.size w wc))
             case first =>
              have H := HC29.out
              clear HC29
              by_cases c30 : (Go.bits .and .i64 a0 2) = 2
              ·rw [if_pos c30] at H
               have c30b0 : ((Go.bits .and .i64 a0 2) == 2) = true := beq_iff_eq.mpr c30
               have c30b1 : ((Go.bits .and .i64 a0 2) != 2) = false := bne_eq_false_iff_eq.mpr c30
               clear c30
               (first | rw [c30b0] | (simp only [i64_w, i32_w]; rw [c30b0]) | skip)
               have H' := Aside0.mk H
               clear H
               have hnb31 := NB356_354.out
               have hnc31 := NB354_356.out
               have hcz32_0 : wc.cell? ⟨gb356, 0, none⟩ = some (.int .i64 (wrap64 (1 + (Go.bits .and .i64 a2 7)))) := (blk_cell BK356.out 0).trans rfl
               have hcz32_1 : wc.cell? ⟨gb356, 1, none⟩ = some (.int .i64 1) := (blk_cell BK356.out 1).trans rfl
               have hcz32_2 : wc.cell? ⟨gb356, 2, none⟩ = some (.int .i64 6) := (blk_cell BK356.out 2).trans rfl
               have hcz32_3 : wc.cell? ⟨gb356, 3, none⟩ = some (.int .i64 t355) := (blk_cell BK356.out 3).trans rfl
               have hfz32_0 := blk_frozen BK356.out 0
               have hfz32_1 := blk_frozen BK356.out 1
               have hfz32_2 := blk_frozen BK356.out 2
               have hfz32_3 := blk_frozen BK356.out 3
               go_wp2
               repeat (go_quiet (fail); try go_wp2)
               go_meet
               case rel => exact ⟨_, (Go.bits .xor .i64 t355 1), H', ⟨by have := HJ17.out; first | omega | exact Nat.le_refl _⟩, ⟨by (with_reducible repeat (first | refine blk_drewN ?_ _ | refine blk_drew ?_ | refine blk_alloc ?_ _)); refine blk_far ?_ NB354_356.out _; (with_reducible repeat (first | refine blk_drewN ?_ _ | refine blk_drew ?_ | refine blk_alloc ?_ _)); exact BK354.out⟩, ⟨by (with_reducible repeat (first | refine blk_drewN ?_ _ | refine blk_drew ?_ | refine blk_alloc ?_ _)); refine blk_put (cs := #[.int .i64 (wrap64 (1 + (Go.bits .and .i64 a2 7))), .int .i64 1, .int .i64 6, .int .i64 t355]) ?_ 3 _ rfl; (with_reducible repeat (first | refine blk_drewN ?_ _ | refine blk_drew ?_ | refine blk_alloc ?_ _)); exact BK356.out⟩, ⟨by repeat (first | (with_reducible first | exact HB.out | apply below_alloc | apply pw_below_drewN | apply below_drew1 | refine below_set ?_ GE354.out | refine below_set ?_ GE356.out) | exact HB.out)⟩⟩
              ·rw [if_neg c30] at H
               have c30b0 : ((Go.bits .and .i64 a0 2) == 2) = false := beq_eq_false_iff_ne.mpr c30
               have c30b1 : ((Go.bits .and .i64 a0 2) != 2) = true := bne_iff_ne.mpr c30
               (first | rw [c30b0] | (simp only [i64_w, i32_w]; rw [c30b0]) | skip)
               have H' := Aside0.mk H
               clear H
               go_wp2
               repeat (go_quiet (fail); try go_wp2)
               go_meet
               case rel => exact ⟨_, (t355), H', ⟨by have := HJ17.out; first | omega | exact Nat.le_refl _⟩, ⟨by (with_reducible repeat (first | refine blk_drewN ?_ _ | refine blk_drew ?_ | refine blk_alloc ?_ _)); exact BK354.out⟩, ⟨by (with_reducible repeat (first | refine blk_drewN ?_ _ | refine blk_drew ?_ | refine blk_alloc ?_ _)); exact BK356.out⟩, ⟨by repeat (first | (with_reducible first | exact HB.out | apply below_alloc | apply pw_below_drewN | apply below_drew1 | refine below_set ?_ GE354.out | refine below_set ?_ GE356.out) | exact HB.out)⟩⟩
             case rest =>
              clear HC29
              try clear c1
              try clear c2
              try clear p2
              try clear c3
              try clear c5
              try clear p6
              try clear c7
              try clear c7b0
              try clear c7b1
              try clear c8
              try clear c8b0
              try clear c8b1
              try clear c9
              try clear c9b0
              try clear c9b1
              try clear c9b2
              try clear c10
              try clear c10b0
              try clear c10b1
              try clear c11
              try clear c11b0
              try clear c11b1
              try clear c12
              try clear c12b0
              try clear c12b1
              try clear c12b2
              try clear c13
              try clear c13b0
              try clear c13b1
              try clear c13b2
              try clear c14
              try clear c14b0
              try clear c14b1
              try clear c15
              try clear c15b0
              try clear c15b1
              try clear c15b2
              try clear c24
              try clear c26
              try clear c26b0
              try clear c26b1
              try clear c27
              try clear c30
              try clear c30b0
              try clear c30b1
              try clear c31
              try clear hcz22_0
              try clear hcz22_1
              try clear hcz22_2
              try clear hcz22_3
              try clear hcz25_0
              try clear hcz25_1
              try clear hcz25_2
              try clear hcz25_3
              try clear hcz28_0
              try clear hcz28_1
              try clear hcz28_2
              try clear hcz28_3
              try clear hcz32_0
              try clear hcz32_1
              try clear hcz32_2
              try clear hcz32_3
              try clear hfz22_0
              try clear hfz22_1
              try clear hfz22_2
              try clear hfz22_3
              try clear hfz25_0
              try clear hfz25_1
              try clear hfz25_2
              try clear hfz25_3
              try clear hfz28_0
              try clear hfz28_1
              try clear hfz28_2
              try clear hfz28_3
              try clear hfz32_0
              try clear hfz32_1
              try clear hfz32_2
              try clear hfz32_3
              try clear p2
              try clear p6
              generalize (((((t352.extract 0 192) ++ (⟨#[102, 105, 114, 115, 116]⟩ : ByteArray)) ++ (t352.extract 197 480)) ++ (⟨#[115, 101, 99, 111, 110, 100]⟩ : ByteArray)) ++ (t352.extract 486 t352.size)) = F_ at *
              obtain ⟨kq, x357003_28, HA, HJ28, BK354, BK356, HB⟩ := hcut
              cases kq with
              | zero => exact absurd HA.out (by simp [skifflaw7_ChooseTable.j1])
              | succ kj28 =>
               have H := HA.out
               clear HA
               simp only [skifflaw7_ChooseTable.j1] at H
               replace H := Option.bind_eq_some_iff.mp H
               obtain ⟨⟨t357, t358⟩, A330, H⟩ := H
               replace H : ((Hand.skiffref1_PutEntry.f kj28 (wrap64 (1 + (Go.bits .and .i64 a2 7))) 1 6 x357003_28).bind fun bt359 => (if 24 ≤ 96 then (if 96 ≤ (F_.size : Int) then (if t357.size + (F_.extract 24 96).size ≤ 9223372036854775807 then (if (t357 ++ (F_.extract 24 96)).size + bt359.1.size ≤ 9223372036854775807 then (if 120 ≤ (F_.size : Int) then (if ((t357 ++ (F_.extract 24 96)) ++ bt359.1).size + (F_.extract 120 F_.size).size ≤ 9223372036854775807 then ((Hand.choose_Active.f kj28 (((t357 ++ (F_.extract 24 96)) ++ bt359.1) ++ (F_.extract 120 F_.size))).bind fun bt361 => ((choose_Other.f kj28 (((t357 ++ (F_.extract 24 96)) ++ bt359.1) ++ (F_.extract 120 F_.size))).bind fun bt368 => (if (Go.bits .and .i64 a0 2) = 2 then (skifflaw7_ChooseTable.j2 kj28 a0 bt361.2.2.2.2.2 bt368.1 bt368.2 0 true (wrap64 (1 + (Go.bits .and .i64 a1 7))) 0 5 x355003_17 bt361.1 bt361.2.1 bt361.2.2.1 bt361.2.2.2.1 bt361.2.2.2.2.1 96 (wrap64 (1 + (Go.bits .and .i64 a2 7))) 1 6 x357003_28) else (if (Go.bits .and .i64 a0 1) = 0 then (skifflaw7_ChooseTable.j2 kj28 a0 bt361.2.2.2.2.2 bt368.1 bt368.2 0 (decide ((wrap64 (1 + (Go.bits .and .i64 a1 7))) > (wrap64 (1 + (Go.bits .and .i64 a2 7))))) (wrap64 (1 + (Go.bits .and .i64 a1 7))) 0 5 x355003_17 bt361.1 bt361.2.1 bt361.2.2.1 bt361.2.2.2.1 bt361.2.2.2.2.1 96 (wrap64 (1 + (Go.bits .and .i64 a2 7))) 1 6 x357003_28) else (skifflaw7_ChooseTable.j2 kj28 a0 bt361.2.2.2.2.2 bt368.1 bt368.2 0 false (wrap64 (1 + (Go.bits .and .i64 a1 7))) 0 5 x355003_17 bt361.1 bt361.2.1 bt361.2.2.1 bt361.2.2.2.1 bt361.2.2.2.2.1 96 (wrap64 (1 + (Go.bits .and .i64 a2 7))) 1 6 x357003_28))))) else (none)) else (none)) else (none)) else (none)) else (none)) else (none))) = some r := H
               have A33 := Aside0.mk A330
               clear A330
               replace H := Option.bind_eq_some_iff.mp H
               obtain ⟨⟨t359, t360⟩, A340, H⟩ := H
               replace H : (if 24 ≤ 96 then (if 96 ≤ (F_.size : Int) then (if t357.size + (F_.extract 24 96).size ≤ 9223372036854775807 then (if (t357 ++ (F_.extract 24 96)).size + t359.size ≤ 9223372036854775807 then (if 120 ≤ (F_.size : Int) then (if ((t357 ++ (F_.extract 24 96)) ++ t359).size + (F_.extract 120 F_.size).size ≤ 9223372036854775807 then ((Hand.choose_Active.f kj28 (((t357 ++ (F_.extract 24 96)) ++ t359) ++ (F_.extract 120 F_.size))).bind fun bt361 => ((choose_Other.f kj28 (((t357 ++ (F_.extract 24 96)) ++ t359) ++ (F_.extract 120 F_.size))).bind fun bt368 => (if (Go.bits .and .i64 a0 2) = 2 then (skifflaw7_ChooseTable.j2 kj28 a0 bt361.2.2.2.2.2 bt368.1 bt368.2 0 true (wrap64 (1 + (Go.bits .and .i64 a1 7))) 0 5 x355003_17 bt361.1 bt361.2.1 bt361.2.2.1 bt361.2.2.2.1 bt361.2.2.2.2.1 96 (wrap64 (1 + (Go.bits .and .i64 a2 7))) 1 6 x357003_28) else (if (Go.bits .and .i64 a0 1) = 0 then (skifflaw7_ChooseTable.j2 kj28 a0 bt361.2.2.2.2.2 bt368.1 bt368.2 0 (decide ((wrap64 (1 + (Go.bits .and .i64 a1 7))) > (wrap64 (1 + (Go.bits .and .i64 a2 7))))) (wrap64 (1 + (Go.bits .and .i64 a1 7))) 0 5 x355003_17 bt361.1 bt361.2.1 bt361.2.2.1 bt361.2.2.2.1 bt361.2.2.2.2.1 96 (wrap64 (1 + (Go.bits .and .i64 a2 7))) 1 6 x357003_28) else (skifflaw7_ChooseTable.j2 kj28 a0 bt361.2.2.2.2.2 bt368.1 bt368.2 0 false (wrap64 (1 + (Go.bits .and .i64 a1 7))) 0 5 x355003_17 bt361.1 bt361.2.1 bt361.2.2.1 bt361.2.2.2.1 bt361.2.2.2.2.1 96 (wrap64 (1 + (Go.bits .and .i64 a2 7))) 1 6 x357003_28))))) else (none)) else (none)) else (none)) else (none)) else (none)) else (none)) = some r := H
               have A34 := Aside0.mk A340
               clear A340
               by_cases c35 : 24 ≤ 96
               ·rw [if_pos c35] at H
                have c35b0 := eq_true c35
                have c35b1 : decide (24 ≤ 96) = true := decide_eq_true c35
                clear c35
                by_cases c36 : 96 ≤ (F_.size : Int)
                ·rw [if_pos c36] at H
                 have c36b0 := eq_true c36
                 have c36b1 : decide (96 ≤ (F_.size : Int)) = true := decide_eq_true c36
                 by_cases c37 : t357.size + (F_.extract 24 96).size ≤ 9223372036854775807
                 ·rw [if_pos c37] at H
                  have c37b0 := eq_true c37
                  have c37b1 : decide (t357.size + (F_.extract 24 96).size ≤ 9223372036854775807) = true := decide_eq_true c37
                  try have c37b2 : (9223372036854775807 < t357.size + (F_.extract 24 96).size) = False := eq_false (Nat.not_lt.2 c37)
                  by_cases c38 : (t357 ++ (F_.extract 24 96)).size + t359.size ≤ 9223372036854775807
                  ·rw [if_pos c38] at H
                   have c38b0 := eq_true c38
                   have c38b1 : decide ((t357 ++ (F_.extract 24 96)).size + t359.size ≤ 9223372036854775807) = true := decide_eq_true c38
                   try have c38b2 : (9223372036854775807 < (t357 ++ (F_.extract 24 96)).size + t359.size) = False := eq_false (Nat.not_lt.2 c38)
                   by_cases c39 : 120 ≤ (F_.size : Int)
                   ·rw [if_pos c39] at H
                    have c39b0 := eq_true c39
                    have c39b1 : decide (120 ≤ (F_.size : Int)) = true := decide_eq_true c39
                    by_cases c40 : ((t357 ++ (F_.extract 24 96)) ++ t359).size + (F_.extract 120 F_.size).size ≤ 9223372036854775807
                    ·rw [if_pos c40] at H
                     have c40b0 := eq_true c40
                     have c40b1 : decide (((t357 ++ (F_.extract 24 96)) ++ t359).size + (F_.extract 120 F_.size).size ≤ 9223372036854775807) = true := decide_eq_true c40
                     try have c40b2 : (9223372036854775807 < ((t357 ++ (F_.extract 24 96)) ++ t359).size + (F_.extract 120 F_.size).size) = False := eq_false (Nat.not_lt.2 c40)
                     replace H := Option.bind_eq_some_iff.mp H
                     obtain ⟨⟨t361, t362, t363, t364, t365, t366⟩, A410, H⟩ := H
                     replace H : ((choose_Other.f kj28 (((t357 ++ (F_.extract 24 96)) ++ t359) ++ (F_.extract 120 F_.size))).bind fun bt368 => (if (Go.bits .and .i64 a0 2) = 2 then (skifflaw7_ChooseTable.j2 kj28 a0 t366 bt368.1 bt368.2 0 true (wrap64 (1 + (Go.bits .and .i64 a1 7))) 0 5 x355003_17 t361 t362 t363 t364 t365 96 (wrap64 (1 + (Go.bits .and .i64 a2 7))) 1 6 x357003_28) else (if (Go.bits .and .i64 a0 1) = 0 then (skifflaw7_ChooseTable.j2 kj28 a0 t366 bt368.1 bt368.2 0 (decide ((wrap64 (1 + (Go.bits .and .i64 a1 7))) > (wrap64 (1 + (Go.bits .and .i64 a2 7))))) (wrap64 (1 + (Go.bits .and .i64 a1 7))) 0 5 x355003_17 t361 t362 t363 t364 t365 96 (wrap64 (1 + (Go.bits .and .i64 a2 7))) 1 6 x357003_28) else (skifflaw7_ChooseTable.j2 kj28 a0 t366 bt368.1 bt368.2 0 false (wrap64 (1 + (Go.bits .and .i64 a1 7))) 0 5 x355003_17 t361 t362 t363 t364 t365 96 (wrap64 (1 + (Go.bits .and .i64 a2 7))) 1 6 x357003_28)))) = some r := H
                     have A41 := Aside0.mk A410
                     clear A410
                     replace H := Option.bind_eq_some_iff.mp H
                     obtain ⟨⟨t368, t369⟩, A420, H⟩ := H
                     replace H : (if (Go.bits .and .i64 a0 2) = 2 then (skifflaw7_ChooseTable.j2 kj28 a0 t366 t368 t369 0 true (wrap64 (1 + (Go.bits .and .i64 a1 7))) 0 5 x355003_17 t361 t362 t363 t364 t365 96 (wrap64 (1 + (Go.bits .and .i64 a2 7))) 1 6 x357003_28) else (if (Go.bits .and .i64 a0 1) = 0 then (skifflaw7_ChooseTable.j2 kj28 a0 t366 t368 t369 0 (decide ((wrap64 (1 + (Go.bits .and .i64 a1 7))) > (wrap64 (1 + (Go.bits .and .i64 a2 7))))) (wrap64 (1 + (Go.bits .and .i64 a1 7))) 0 5 x355003_17 t361 t362 t363 t364 t365 96 (wrap64 (1 + (Go.bits .and .i64 a2 7))) 1 6 x357003_28) else (skifflaw7_ChooseTable.j2 kj28 a0 t366 t368 t369 0 false (wrap64 (1 + (Go.bits .and .i64 a1 7))) 0 5 x355003_17 t361 t362 t363 t364 t365 96 (wrap64 (1 + (Go.bits .and .i64 a2 7))) 1 6 x357003_28))) = some r := H
                     have A42 := Aside0.mk A420
                     clear A420
                     have HC43 := Aside0.mk H
                     clear H
                     have hnb44 := NB354_356.out
                     have hnc44 := NB356_354.out
                     have hcz45_0 : wc.cell? ⟨gb354, 0, none⟩ = some (.int .i64 (wrap64 (1 + (Go.bits .and .i64 a1 7)))) := (blk_cell BK354.out 0).trans rfl
                     have hcz45_1 : wc.cell? ⟨gb354, 1, none⟩ = some (.int .i64 0) := (blk_cell BK354.out 1).trans rfl
                     have hcz45_2 : wc.cell? ⟨gb354, 2, none⟩ = some (.int .i64 5) := (blk_cell BK354.out 2).trans rfl
                     have hcz45_3 : wc.cell? ⟨gb354, 3, none⟩ = some (.int .i64 x355003_17) := (blk_cell BK354.out 3).trans rfl
                     have hfz45_0 := blk_frozen BK354.out 0
                     have hfz45_1 := blk_frozen BK354.out 1
                     have hfz45_2 := blk_frozen BK354.out 2
                     have hfz45_3 := blk_frozen BK354.out 3
                     go_upto_region 18 with (first | (go_at_call 19; (with_reducible refine (Hand.skiffref1_PutEntry.calls kj28 (wrap64 (1 + (Go.bits .and .i64 a1 7))) 0 5 x355003_17 t357 t358 _ A33.out).mono ?_); rintro e w46 ⟨rfl, hb⟩; have n0_ := Aside0.mk (blk_below (g := gb354) (o := .cells #[.int .i64 (wrap64 (1 + (Go.bits .and .i64 a1 7))), .int .i64 0, .int .i64 5, .int .i64 x355003_17] 23 (0, 0)) (by (with_reducible repeat (first | refine blk_drewN ?_ _ | refine blk_drew ?_ | refine blk_alloc ?_ _)); exact BK354.out) hb); have n1_ := Aside0.mk (blk_below (g := gb356) (o := .cells #[.int .i64 (wrap64 (1 + (Go.bits .and .i64 a2 7))), .int .i64 1, .int .i64 6, .int .i64 x357003_28] 23 (0, 0)) (by (with_reducible repeat (first | refine blk_drewN ?_ _ | refine blk_drew ?_ | refine blk_alloc ?_ _)); exact BK356.out) hb); have n2_ := Aside0.mk (below_step (by repeat (first | (with_reducible first | exact HB.out | apply below_alloc | apply pw_below_drewN | apply below_drew1 | refine below_set ?_ GE354.out | refine below_set ?_ GE356.out) | exact HB.out)) hb); clear BK354; clear BK356; clear HB; have BK354 := n0_; have BK356 := n1_; have HB := n2_; clear n0_ n1_ n2_; (try clear hb); (try clear hb2); (try clear hk); (try clear hi); have hcz47_0 : w46.cell? ⟨gb356, 0, none⟩ = some (.int .i64 (wrap64 (1 + (Go.bits .and .i64 a2 7)))) := (blk_cell BK356.out 0).trans rfl; have hcz47_1 : w46.cell? ⟨gb356, 1, none⟩ = some (.int .i64 1) := (blk_cell BK356.out 1).trans rfl; have hcz47_2 : w46.cell? ⟨gb356, 2, none⟩ = some (.int .i64 6) := (blk_cell BK356.out 2).trans rfl; have hcz47_3 : w46.cell? ⟨gb356, 3, none⟩ = some (.int .i64 x357003_28) := (blk_cell BK356.out 3).trans rfl; have hfz47_0 := blk_frozen BK356.out 0; have hfz47_1 := blk_frozen BK356.out 1; have hfz47_2 := blk_frozen BK356.out 2; have hfz47_3 := blk_frozen BK356.out 3) | (go_at_call 19; (with_reducible refine (Hand.skiffref1_PutEntry.calls kj28 (wrap64 (1 + (Go.bits .and .i64 a2 7))) 1 6 x357003_28 t359 t360 _ A34.out).mono ?_); rintro e w48 ⟨rfl, hb⟩; have n0_ := Aside0.mk (blk_below (g := gb354) (o := .cells #[.int .i64 (wrap64 (1 + (Go.bits .and .i64 a1 7))), .int .i64 0, .int .i64 5, .int .i64 x355003_17] 23 (0, 0)) (by (with_reducible repeat (first | refine blk_drewN ?_ _ | refine blk_drew ?_ | refine blk_alloc ?_ _)); exact BK354.out) hb); have n1_ := Aside0.mk (blk_below (g := gb356) (o := .cells #[.int .i64 (wrap64 (1 + (Go.bits .and .i64 a2 7))), .int .i64 1, .int .i64 6, .int .i64 x357003_28] 23 (0, 0)) (by (with_reducible repeat (first | refine blk_drewN ?_ _ | refine blk_drew ?_ | refine blk_alloc ?_ _)); exact BK356.out) hb); have n2_ := Aside0.mk (below_step (by repeat (first | (with_reducible first | exact HB.out | apply below_alloc | apply pw_below_drewN | apply below_drew1 | refine below_set ?_ GE354.out | refine below_set ?_ GE356.out) | exact HB.out)) hb); clear BK354; clear BK356; clear HB; have BK354 := n0_; have BK356 := n1_; have HB := n2_; clear n0_ n1_ n2_; (try clear hb); (try clear hb2); (try clear hk); (try clear hi)) | (go_at_call 9; (with_reducible refine (Hand.choose_Active.calls kj28 (((t357 ++ (F_.extract 24 96)) ++ t359) ++ (F_.extract 120 F_.size)) t361 t362 t363 t364 t365 t366 _ A41.out).mono ?_); rintro e w49 ⟨rfl, hb⟩; have n0_ := Aside0.mk (blk_below (g := gb354) (o := .cells #[.int .i64 (wrap64 (1 + (Go.bits .and .i64 a1 7))), .int .i64 0, .int .i64 5, .int .i64 x355003_17] 23 (0, 0)) (by (with_reducible repeat (first | refine blk_drewN ?_ _ | refine blk_drew ?_ | refine blk_alloc ?_ _)); exact BK354.out) hb); have n1_ := Aside0.mk (blk_below (g := gb356) (o := .cells #[.int .i64 (wrap64 (1 + (Go.bits .and .i64 a2 7))), .int .i64 1, .int .i64 6, .int .i64 x357003_28] 23 (0, 0)) (by (with_reducible repeat (first | refine blk_drewN ?_ _ | refine blk_drew ?_ | refine blk_alloc ?_ _)); exact BK356.out) hb); have n2_ := Aside0.mk (below_step (by repeat (first | (with_reducible first | exact HB.out | apply below_alloc | apply pw_below_drewN | apply below_drew1 | refine below_set ?_ GE354.out | refine below_set ?_ GE356.out) | exact HB.out)) hb); clear BK354; clear BK356; clear HB; have BK354 := n0_; have BK356 := n1_; have HB := n2_; clear n0_ n1_ n2_; (try clear hb); (try clear hb2); (try clear hk); (try clear hi)) | ((with_reducible refine gate_dst (N := 16) rfl ?_); refine box_event ?hg (N := 16) ?hd (cs := #[.int .i64 0, .int .i64 0, .int .i64 0, .int .i64 0, .int .i64 0]) (t := 25) ?hr ?_; (case hd => rfl); (case hg => rfl); (case hr => first | (go_simp; done) | (go_simp; rfl)); intro gb367 hg w50 hbox hb; have n0_ := Aside0.mk (blk_below (g := gb354) (o := .cells #[.int .i64 (wrap64 (1 + (Go.bits .and .i64 a1 7))), .int .i64 0, .int .i64 5, .int .i64 x355003_17] 23 (0, 0)) (by (with_reducible repeat (first | refine blk_drewN ?_ _ | refine blk_drew ?_ | refine blk_alloc ?_ _)); exact BK354.out) hb); have n1_ := Aside0.mk (blk_below (g := gb356) (o := .cells #[.int .i64 (wrap64 (1 + (Go.bits .and .i64 a2 7))), .int .i64 1, .int .i64 6, .int .i64 x357003_28] 23 (0, 0)) (by (with_reducible repeat (first | refine blk_drewN ?_ _ | refine blk_drew ?_ | refine blk_alloc ?_ _)); exact BK356.out) hb); have n2_ := Aside0.mk (below_step (by repeat (first | (with_reducible first | exact HB.out | apply below_alloc | apply pw_below_drewN | apply below_drew1 | refine below_set ?_ GE354.out | refine below_set ?_ GE356.out) | exact HB.out)) hb); have n3_ := Aside0.mk (hbox); have n4_ := Aside0.mk ((by rw [hg]; exact (below_size (by repeat (first | (with_reducible first | exact HB.out | apply below_alloc | apply pw_below_drewN | apply below_drew1 | refine below_set ?_ GE354.out | refine below_set ?_ GE356.out) | exact HB.out))) : w.heap.size ≤ gb367)); have n5_ := Aside0.mk ((by rw [hg]; exact (below_size (by repeat (first | (with_reducible first | exact HB.out | apply below_alloc | apply pw_below_drewN | apply below_drew1 | refine below_set ?_ GE354.out | refine below_set ?_ GE356.out) | exact HB.out))) : w.heap.size ≤ gb367)); have n6_ := Aside0.mk ((by rw [hg]; exact Nat.ne_of_lt (blk_lt (g := gb354) (o := .cells #[.int .i64 (wrap64 (1 + (Go.bits .and .i64 a1 7))), .int .i64 0, .int .i64 5, .int .i64 x355003_17] 23 (0, 0)) (by (with_reducible repeat (first | refine blk_drewN ?_ _ | refine blk_drew ?_ | refine blk_alloc ?_ _)); exact BK354.out)) : gb354 ≠ gb367)); have n7_ := Aside0.mk ((by rw [hg]; exact Nat.ne_of_gt (blk_lt (g := gb354) (o := .cells #[.int .i64 (wrap64 (1 + (Go.bits .and .i64 a1 7))), .int .i64 0, .int .i64 5, .int .i64 x355003_17] 23 (0, 0)) (by (with_reducible repeat (first | refine blk_drewN ?_ _ | refine blk_drew ?_ | refine blk_alloc ?_ _)); exact BK354.out)) : gb367 ≠ gb354)); have n8_ := Aside0.mk ((by rw [hg]; exact Nat.ne_of_lt (blk_lt (g := gb356) (o := .cells #[.int .i64 (wrap64 (1 + (Go.bits .and .i64 a2 7))), .int .i64 1, .int .i64 6, .int .i64 x357003_28] 23 (0, 0)) (by (with_reducible repeat (first | refine blk_drewN ?_ _ | refine blk_drew ?_ | refine blk_alloc ?_ _)); exact BK356.out)) : gb356 ≠ gb367)); have n9_ := Aside0.mk ((by rw [hg]; exact Nat.ne_of_gt (blk_lt (g := gb356) (o := .cells #[.int .i64 (wrap64 (1 + (Go.bits .and .i64 a2 7))), .int .i64 1, .int .i64 6, .int .i64 x357003_28] 23 (0, 0)) (by (with_reducible repeat (first | refine blk_drewN ?_ _ | refine blk_drew ?_ | refine blk_alloc ?_ _)); exact BK356.out)) : gb367 ≠ gb356)); clear BK354; clear BK356; clear HB; have BK354 := n0_; have BK356 := n1_; have HB := n2_; have BK367 := n3_; have GW367 := n4_; have GE367 := n5_; have NB354_367 := n6_; have NB367_354 := n7_; have NB356_367 := n8_; have NB367_356 := n9_; clear n0_ n1_ n2_ n3_ n4_ n5_ n6_ n7_ n8_ n9_; clear hb hbox hg; have hnb51 := NB367_354.out; have hnc51 := NB354_367.out; have hnb52 := NB367_356.out; have hnc52 := NB356_367.out; have hcz53_0 : w50.cell? ⟨gb367, 0, none⟩ = some (.int .i64 0) := (blk_cell BK367.out 0).trans rfl; have hcz53_1 : w50.cell? ⟨gb367, 1, none⟩ = some (.int .i64 0) := (blk_cell BK367.out 1).trans rfl; have hcz53_2 : w50.cell? ⟨gb367, 2, none⟩ = some (.int .i64 0) := (blk_cell BK367.out 2).trans rfl; have hcz53_3 : w50.cell? ⟨gb367, 3, none⟩ = some (.int .i64 0) := (blk_cell BK367.out 3).trans rfl; have hcz53_4 : w50.cell? ⟨gb367, 4, none⟩ = some (.int .i64 0) := (blk_cell BK367.out 4).trans rfl; have hfz53_0 := blk_frozen BK367.out 0; have hfz53_1 := blk_frozen BK367.out 1; have hfz53_2 := blk_frozen BK367.out 2; have hfz53_3 := blk_frozen BK367.out 3; have hfz53_4 := blk_frozen BK367.out 4) | (go_at_call 11; (with_reducible refine (choose_Other.calls kj28 (((t357 ++ (F_.extract 24 96)) ++ t359) ++ (F_.extract 120 F_.size)) t368 t369 _ A42.out).mono ?_); rintro e w54 ⟨rfl, hb⟩; have n0_ := Aside0.mk (blk_below (g := gb354) (o := .cells #[.int .i64 (wrap64 (1 + (Go.bits .and .i64 a1 7))), .int .i64 0, .int .i64 5, .int .i64 x355003_17] 23 (0, 0)) (by (with_reducible repeat (first | refine blk_drewN ?_ _ | refine blk_drew ?_ | refine blk_alloc ?_ _)); refine blk_far ?_ NB354_367.out _; (with_reducible repeat (first | refine blk_drewN ?_ _ | refine blk_drew ?_ | refine blk_alloc ?_ _)); refine blk_far ?_ NB354_367.out _; (with_reducible repeat (first | refine blk_drewN ?_ _ | refine blk_drew ?_ | refine blk_alloc ?_ _)); refine blk_far ?_ NB354_367.out _; (with_reducible repeat (first | refine blk_drewN ?_ _ | refine blk_drew ?_ | refine blk_alloc ?_ _)); refine blk_far ?_ NB354_367.out _; (with_reducible repeat (first | refine blk_drewN ?_ _ | refine blk_drew ?_ | refine blk_alloc ?_ _)); refine blk_far ?_ NB354_367.out _; (with_reducible repeat (first | refine blk_drewN ?_ _ | refine blk_drew ?_ | refine blk_alloc ?_ _)); exact BK354.out) hb); have n1_ := Aside0.mk (blk_below (g := gb356) (o := .cells #[.int .i64 (wrap64 (1 + (Go.bits .and .i64 a2 7))), .int .i64 1, .int .i64 6, .int .i64 x357003_28] 23 (0, 0)) (by (with_reducible repeat (first | refine blk_drewN ?_ _ | refine blk_drew ?_ | refine blk_alloc ?_ _)); refine blk_far ?_ NB356_367.out _; (with_reducible repeat (first | refine blk_drewN ?_ _ | refine blk_drew ?_ | refine blk_alloc ?_ _)); refine blk_far ?_ NB356_367.out _; (with_reducible repeat (first | refine blk_drewN ?_ _ | refine blk_drew ?_ | refine blk_alloc ?_ _)); refine blk_far ?_ NB356_367.out _; (with_reducible repeat (first | refine blk_drewN ?_ _ | refine blk_drew ?_ | refine blk_alloc ?_ _)); refine blk_far ?_ NB356_367.out _; (with_reducible repeat (first | refine blk_drewN ?_ _ | refine blk_drew ?_ | refine blk_alloc ?_ _)); refine blk_far ?_ NB356_367.out _; (with_reducible repeat (first | refine blk_drewN ?_ _ | refine blk_drew ?_ | refine blk_alloc ?_ _)); exact BK356.out) hb); have n2_ := Aside0.mk (blk_below (g := gb367) (o := .cells #[.int .i64 t361, .int .i64 t362, .int .i64 t363, .int .i64 t364, .int .i64 t365] 25 (0, 0)) (by (with_reducible repeat (first | refine blk_drewN ?_ _ | refine blk_drew ?_ | refine blk_alloc ?_ _)); refine blk_put (cs := #[.int .i64 t361, .int .i64 t362, .int .i64 t363, .int .i64 t364, .int .i64 0]) ?_ 4 _ rfl; (with_reducible repeat (first | refine blk_drewN ?_ _ | refine blk_drew ?_ | refine blk_alloc ?_ _)); refine blk_put (cs := #[.int .i64 t361, .int .i64 t362, .int .i64 t363, .int .i64 0, .int .i64 0]) ?_ 3 _ rfl; (with_reducible repeat (first | refine blk_drewN ?_ _ | refine blk_drew ?_ | refine blk_alloc ?_ _)); refine blk_put (cs := #[.int .i64 t361, .int .i64 t362, .int .i64 0, .int .i64 0, .int .i64 0]) ?_ 2 _ rfl; (with_reducible repeat (first | refine blk_drewN ?_ _ | refine blk_drew ?_ | refine blk_alloc ?_ _)); refine blk_put (cs := #[.int .i64 t361, .int .i64 0, .int .i64 0, .int .i64 0, .int .i64 0]) ?_ 1 _ rfl; (with_reducible repeat (first | refine blk_drewN ?_ _ | refine blk_drew ?_ | refine blk_alloc ?_ _)); refine blk_put (cs := #[.int .i64 0, .int .i64 0, .int .i64 0, .int .i64 0, .int .i64 0]) ?_ 0 _ rfl; (with_reducible repeat (first | refine blk_drewN ?_ _ | refine blk_drew ?_ | refine blk_alloc ?_ _)); exact BK367.out) hb); have n3_ := Aside0.mk (below_step (by repeat (first | (with_reducible first | exact HB.out | apply below_alloc | apply pw_below_drewN | apply below_drew1 | refine below_set ?_ GE354.out | refine below_set ?_ GE356.out | refine below_set ?_ GE367.out) | exact HB.out)) hb); clear BK354; clear BK356; clear BK367; clear HB; have BK354 := n0_; have BK356 := n1_; have BK367 := n2_; have HB := n3_; clear n0_ n1_ n2_ n3_; (try clear hb); (try clear hb2); (try clear hk); (try clear hi); have hcz55_0 : w54.cell? ⟨gb356, 0, none⟩ = some (.int .i64 (wrap64 (1 + (Go.bits .and .i64 a2 7)))) := (blk_cell BK356.out 0).trans rfl; have hcz55_1 : w54.cell? ⟨gb356, 1, none⟩ = some (.int .i64 1) := (blk_cell BK356.out 1).trans rfl; have hcz55_2 : w54.cell? ⟨gb356, 2, none⟩ = some (.int .i64 6) := (blk_cell BK356.out 2).trans rfl; have hcz55_3 : w54.cell? ⟨gb356, 3, none⟩ = some (.int .i64 x357003_28) := (blk_cell BK356.out 3).trans rfl; have hfz55_0 := blk_frozen BK356.out 0; have hfz55_1 := blk_frozen BK356.out 1; have hfz55_2 := blk_frozen BK356.out 2; have hfz55_3 := blk_frozen BK356.out 3) | ((with_reducible refine gate_dst (N := 20) rfl ?_); refine box_event ?hg (N := 20) ?hd (cs := #[.int .i64 0, .int .i64 0, .int .i64 0, .int .i64 0, .int .i64 0]) (t := 25) ?hr ?_; (case hd => rfl); (case hg => rfl); (case hr => first | (go_simp; done) | (go_simp; rfl)); intro gb370 hg w56 hbox hb; have n0_ := Aside0.mk (blk_below (g := gb354) (o := .cells #[.int .i64 (wrap64 (1 + (Go.bits .and .i64 a1 7))), .int .i64 0, .int .i64 5, .int .i64 x355003_17] 23 (0, 0)) (by (with_reducible repeat (first | refine blk_drewN ?_ _ | refine blk_drew ?_ | refine blk_alloc ?_ _)); exact BK354.out) hb); have n1_ := Aside0.mk (blk_below (g := gb356) (o := .cells #[.int .i64 (wrap64 (1 + (Go.bits .and .i64 a2 7))), .int .i64 1, .int .i64 6, .int .i64 x357003_28] 23 (0, 0)) (by (with_reducible repeat (first | refine blk_drewN ?_ _ | refine blk_drew ?_ | refine blk_alloc ?_ _)); exact BK356.out) hb); have n2_ := Aside0.mk (blk_below (g := gb367) (o := .cells #[.int .i64 t361, .int .i64 t362, .int .i64 t363, .int .i64 t364, .int .i64 t365] 25 (0, 0)) (by (with_reducible repeat (first | refine blk_drewN ?_ _ | refine blk_drew ?_ | refine blk_alloc ?_ _)); exact BK367.out) hb); have n3_ := Aside0.mk (below_step (by repeat (first | (with_reducible first | exact HB.out | apply below_alloc | apply pw_below_drewN | apply below_drew1 | refine below_set ?_ GE354.out | refine below_set ?_ GE356.out | refine below_set ?_ GE367.out) | exact HB.out)) hb); have n4_ := Aside0.mk (hbox); have n5_ := Aside0.mk ((by rw [hg]; exact (below_size (by repeat (first | (with_reducible first | exact HB.out | apply below_alloc | apply pw_below_drewN | apply below_drew1 | refine below_set ?_ GE354.out | refine below_set ?_ GE356.out | refine below_set ?_ GE367.out) | exact HB.out))) : w.heap.size ≤ gb370)); have n6_ := Aside0.mk ((by rw [hg]; exact (below_size (by repeat (first | (with_reducible first | exact HB.out | apply below_alloc | apply pw_below_drewN | apply below_drew1 | refine below_set ?_ GE354.out | refine below_set ?_ GE356.out | refine below_set ?_ GE367.out) | exact HB.out))) : w.heap.size ≤ gb370)); have n7_ := Aside0.mk ((by rw [hg]; exact Nat.ne_of_lt (blk_lt (g := gb354) (o := .cells #[.int .i64 (wrap64 (1 + (Go.bits .and .i64 a1 7))), .int .i64 0, .int .i64 5, .int .i64 x355003_17] 23 (0, 0)) (by (with_reducible repeat (first | refine blk_drewN ?_ _ | refine blk_drew ?_ | refine blk_alloc ?_ _)); exact BK354.out)) : gb354 ≠ gb370)); have n8_ := Aside0.mk ((by rw [hg]; exact Nat.ne_of_gt (blk_lt (g := gb354) (o := .cells #[.int .i64 (wrap64 (1 + (Go.bits .and .i64 a1 7))), .int .i64 0, .int .i64 5, .int .i64 x355003_17] 23 (0, 0)) (by (with_reducible repeat (first | refine blk_drewN ?_ _ | refine blk_drew ?_ | refine blk_alloc ?_ _)); exact BK354.out)) : gb370 ≠ gb354)); have n9_ := Aside0.mk ((by rw [hg]; exact Nat.ne_of_lt (blk_lt (g := gb356) (o := .cells #[.int .i64 (wrap64 (1 + (Go.bits .and .i64 a2 7))), .int .i64 1, .int .i64 6, .int .i64 x357003_28] 23 (0, 0)) (by (with_reducible repeat (first | refine blk_drewN ?_ _ | refine blk_drew ?_ | refine blk_alloc ?_ _)); exact BK356.out)) : gb356 ≠ gb370)); have n10_ := Aside0.mk ((by rw [hg]; exact Nat.ne_of_gt (blk_lt (g := gb356) (o := .cells #[.int .i64 (wrap64 (1 + (Go.bits .and .i64 a2 7))), .int .i64 1, .int .i64 6, .int .i64 x357003_28] 23 (0, 0)) (by (with_reducible repeat (first | refine blk_drewN ?_ _ | refine blk_drew ?_ | refine blk_alloc ?_ _)); exact BK356.out)) : gb370 ≠ gb356)); have n11_ := Aside0.mk ((by rw [hg]; exact Nat.ne_of_lt (blk_lt (g := gb367) (o := .cells #[.int .i64 t361, .int .i64 t362, .int .i64 t363, .int .i64 t364, .int .i64 t365] 25 (0, 0)) (by (with_reducible repeat (first | refine blk_drewN ?_ _ | refine blk_drew ?_ | refine blk_alloc ?_ _)); exact BK367.out)) : gb367 ≠ gb370)); have n12_ := Aside0.mk ((by rw [hg]; exact Nat.ne_of_gt (blk_lt (g := gb367) (o := .cells #[.int .i64 t361, .int .i64 t362, .int .i64 t363, .int .i64 t364, .int .i64 t365] 25 (0, 0)) (by (with_reducible repeat (first | refine blk_drewN ?_ _ | refine blk_drew ?_ | refine blk_alloc ?_ _)); exact BK367.out)) : gb370 ≠ gb367)); clear BK354; clear BK356; clear BK367; clear HB; have BK354 := n0_; have BK356 := n1_; have BK367 := n2_; have HB := n3_; have BK370 := n4_; have GW370 := n5_; have GE370 := n6_; have NB354_370 := n7_; have NB370_354 := n8_; have NB356_370 := n9_; have NB370_356 := n10_; have NB367_370 := n11_; have NB370_367 := n12_; clear n0_ n1_ n2_ n3_ n4_ n5_ n6_ n7_ n8_ n9_ n10_ n11_ n12_; clear hb hbox hg; have hnb57 := NB370_354.out; have hnc57 := NB354_370.out; have hnb58 := NB370_356.out; have hnc58 := NB356_370.out; have hnb59 := NB370_367.out; have hnc59 := NB367_370.out; have hcz60_0 : w56.cell? ⟨gb370, 0, none⟩ = some (.int .i64 0) := (blk_cell BK370.out 0).trans rfl; have hcz60_1 : w56.cell? ⟨gb370, 1, none⟩ = some (.int .i64 0) := (blk_cell BK370.out 1).trans rfl; have hcz60_2 : w56.cell? ⟨gb370, 2, none⟩ = some (.int .i64 0) := (blk_cell BK370.out 2).trans rfl; have hcz60_3 : w56.cell? ⟨gb370, 3, none⟩ = some (.int .i64 0) := (blk_cell BK370.out 3).trans rfl; have hcz60_4 : w56.cell? ⟨gb370, 4, none⟩ = some (.int .i64 0) := (blk_cell BK370.out 4).trans rfl; have hfz60_0 := blk_frozen BK370.out 0; have hfz60_1 := blk_frozen BK370.out 1; have hfz60_2 := blk_frozen BK370.out 2; have hfz60_3 := blk_frozen BK370.out 3; have hfz60_4 := blk_frozen BK370.out 4))
                     repeat (go_quiet (first | (go_at_call 19; (with_reducible refine (Hand.skiffref1_PutEntry.calls kj28 (wrap64 (1 + (Go.bits .and .i64 a1 7))) 0 5 x355003_17 t357 t358 _ A33.out).mono ?_); rintro e w46 ⟨rfl, hb⟩; have n0_ := Aside0.mk (blk_below (g := gb354) (o := .cells #[.int .i64 (wrap64 (1 + (Go.bits .and .i64 a1 7))), .int .i64 0, .int .i64 5, .int .i64 x355003_17] 23 (0, 0)) (by (with_reducible repeat (first | refine blk_drewN ?_ _ | refine blk_drew ?_ | refine blk_alloc ?_ _)); exact BK354.out) hb); have n1_ := Aside0.mk (blk_below (g := gb356) (o := .cells #[.int .i64 (wrap64 (1 + (Go.bits .and .i64 a2 7))), .int .i64 1, .int .i64 6, .int .i64 x357003_28] 23 (0, 0)) (by (with_reducible repeat (first | refine blk_drewN ?_ _ | refine blk_drew ?_ | refine blk_alloc ?_ _)); exact BK356.out) hb); have n2_ := Aside0.mk (below_step (by repeat (first | (with_reducible first | exact HB.out | apply below_alloc | apply pw_below_drewN | apply below_drew1 | refine below_set ?_ GE354.out | refine below_set ?_ GE356.out) | exact HB.out)) hb); clear BK354; clear BK356; clear HB; have BK354 := n0_; have BK356 := n1_; have HB := n2_; clear n0_ n1_ n2_; (try clear hb); (try clear hb2); (try clear hk); (try clear hi); have hcz47_0 : w46.cell? ⟨gb356, 0, none⟩ = some (.int .i64 (wrap64 (1 + (Go.bits .and .i64 a2 7)))) := (blk_cell BK356.out 0).trans rfl; have hcz47_1 : w46.cell? ⟨gb356, 1, none⟩ = some (.int .i64 1) := (blk_cell BK356.out 1).trans rfl; have hcz47_2 : w46.cell? ⟨gb356, 2, none⟩ = some (.int .i64 6) := (blk_cell BK356.out 2).trans rfl; have hcz47_3 : w46.cell? ⟨gb356, 3, none⟩ = some (.int .i64 x357003_28) := (blk_cell BK356.out 3).trans rfl; have hfz47_0 := blk_frozen BK356.out 0; have hfz47_1 := blk_frozen BK356.out 1; have hfz47_2 := blk_frozen BK356.out 2; have hfz47_3 := blk_frozen BK356.out 3) | (go_at_call 19; (with_reducible refine (Hand.skiffref1_PutEntry.calls kj28 (wrap64 (1 + (Go.bits .and .i64 a2 7))) 1 6 x357003_28 t359 t360 _ A34.out).mono ?_); rintro e w48 ⟨rfl, hb⟩; have n0_ := Aside0.mk (blk_below (g := gb354) (o := .cells #[.int .i64 (wrap64 (1 + (Go.bits .and .i64 a1 7))), .int .i64 0, .int .i64 5, .int .i64 x355003_17] 23 (0, 0)) (by (with_reducible repeat (first | refine blk_drewN ?_ _ | refine blk_drew ?_ | refine blk_alloc ?_ _)); exact BK354.out) hb); have n1_ := Aside0.mk (blk_below (g := gb356) (o := .cells #[.int .i64 (wrap64 (1 + (Go.bits .and .i64 a2 7))), .int .i64 1, .int .i64 6, .int .i64 x357003_28] 23 (0, 0)) (by (with_reducible repeat (first | refine blk_drewN ?_ _ | refine blk_drew ?_ | refine blk_alloc ?_ _)); exact BK356.out) hb); have n2_ := Aside0.mk (below_step (by repeat (first | (with_reducible first | exact HB.out | apply below_alloc | apply pw_below_drewN | apply below_drew1 | refine below_set ?_ GE354.out | refine below_set ?_ GE356.out) | exact HB.out)) hb); clear BK354; clear BK356; clear HB; have BK354 := n0_; have BK356 := n1_; have HB := n2_; clear n0_ n1_ n2_; (try clear hb); (try clear hb2); (try clear hk); (try clear hi)) | (go_at_call 9; (with_reducible refine (Hand.choose_Active.calls kj28 (((t357 ++ (F_.extract 24 96)) ++ t359) ++ (F_.extract 120 F_.size)) t361 t362 t363 t364 t365 t366 _ A41.out).mono ?_); rintro e w49 ⟨rfl, hb⟩; have n0_ := Aside0.mk (blk_below (g := gb354) (o := .cells #[.int .i64 (wrap64 (1 + (Go.bits .and .i64 a1 7))), .int .i64 0, .int .i64 5, .int .i64 x355003_17] 23 (0, 0)) (by (with_reducible repeat (first | refine blk_drewN ?_ _ | refine blk_drew ?_ | refine blk_alloc ?_ _)); exact BK354.out) hb); have n1_ := Aside0.mk (blk_below (g := gb356) (o := .cells #[.int .i64 (wrap64 (1 + (Go.bits .and .i64 a2 7))), .int .i64 1, .int .i64 6, .int .i64 x357003_28] 23 (0, 0)) (by (with_reducible repeat (first | refine blk_drewN ?_ _ | refine blk_drew ?_ | refine blk_alloc ?_ _)); exact BK356.out) hb); have n2_ := Aside0.mk (below_step (by repeat (first | (with_reducible first | exact HB.out | apply below_alloc | apply pw_below_drewN | apply below_drew1 | refine below_set ?_ GE354.out | refine below_set ?_ GE356.out) | exact HB.out)) hb); clear BK354; clear BK356; clear HB; have BK354 := n0_; have BK356 := n1_; have HB := n2_; clear n0_ n1_ n2_; (try clear hb); (try clear hb2); (try clear hk); (try clear hi)) | ((with_reducible refine gate_dst (N := 16) rfl ?_); refine box_event ?hg (N := 16) ?hd (cs := #[.int .i64 0, .int .i64 0, .int .i64 0, .int .i64 0, .int .i64 0]) (t := 25) ?hr ?_; (case hd => rfl); (case hg => rfl); (case hr => first | (go_simp; done) | (go_simp; rfl)); intro gb367 hg w50 hbox hb; have n0_ := Aside0.mk (blk_below (g := gb354) (o := .cells #[.int .i64 (wrap64 (1 + (Go.bits .and .i64 a1 7))), .int .i64 0, .int .i64 5, .int .i64 x355003_17] 23 (0, 0)) (by (with_reducible repeat (first | refine blk_drewN ?_ _ | refine blk_drew ?_ | refine blk_alloc ?_ _)); exact BK354.out) hb); have n1_ := Aside0.mk (blk_below (g := gb356) (o := .cells #[.int .i64 (wrap64 (1 + (Go.bits .and .i64 a2 7))), .int .i64 1, .int .i64 6, .int .i64 x357003_28] 23 (0, 0)) (by (with_reducible repeat (first | refine blk_drewN ?_ _ | refine blk_drew ?_ | refine blk_alloc ?_ _)); exact BK356.out) hb); have n2_ := Aside0.mk (below_step (by repeat (first | (with_reducible first | exact HB.out | apply below_alloc | apply pw_below_drewN | apply below_drew1 | refine below_set ?_ GE354.out | refine below_set ?_ GE356.out) | exact HB.out)) hb); have n3_ := Aside0.mk (hbox); have n4_ := Aside0.mk ((by rw [hg]; exact (below_size (by repeat (first | (with_reducible first | exact HB.out | apply below_alloc | apply pw_below_drewN | apply below_drew1 | refine below_set ?_ GE354.out | refine below_set ?_ GE356.out) | exact HB.out))) : w.heap.size ≤ gb367)); have n5_ := Aside0.mk ((by rw [hg]; exact (below_size (by repeat (first | (with_reducible first | exact HB.out | apply below_alloc | apply pw_below_drewN | apply below_drew1 | refine below_set ?_ GE354.out | refine below_set ?_ GE356.out) | exact HB.out))) : w.heap.size ≤ gb367)); have n6_ := Aside0.mk ((by rw [hg]; exact Nat.ne_of_lt (blk_lt (g := gb354) (o := .cells #[.int .i64 (wrap64 (1 + (Go.bits .and .i64 a1 7))), .int .i64 0, .int .i64 5, .int .i64 x355003_17] 23 (0, 0)) (by (with_reducible repeat (first | refine blk_drewN ?_ _ | refine blk_drew ?_ | refine blk_alloc ?_ _)); exact BK354.out)) : gb354 ≠ gb367)); have n7_ := Aside0.mk ((by rw [hg]; exact Nat.ne_of_gt (blk_lt (g := gb354) (o := .cells #[.int .i64 (wrap64 (1 + (Go.bits .and .i64 a1 7))), .int .i64 0, .int .i64 5, .int .i64 x355003_17] 23 (0, 0)) (by (with_reducible repeat (first | refine blk_drewN ?_ _ | refine blk_drew ?_ | refine blk_alloc ?_ _)); exact BK354.out)) : gb367 ≠ gb354)); have n8_ := Aside0.mk ((by rw [hg]; exact Nat.ne_of_lt (blk_lt (g := gb356) (o := .cells #[.int .i64 (wrap64 (1 + (Go.bits .and .i64 a2 7))), .int .i64 1, .int .i64 6, .int .i64 x357003_28] 23 (0, 0)) (by (with_reducible repeat (first | refine blk_drewN ?_ _ | refine blk_drew ?_ | refine blk_alloc ?_ _)); exact BK356.out)) : gb356 ≠ gb367)); have n9_ := Aside0.mk ((by rw [hg]; exact Nat.ne_of_gt (blk_lt (g := gb356) (o := .cells #[.int .i64 (wrap64 (1 + (Go.bits .and .i64 a2 7))), .int .i64 1, .int .i64 6, .int .i64 x357003_28] 23 (0, 0)) (by (with_reducible repeat (first | refine blk_drewN ?_ _ | refine blk_drew ?_ | refine blk_alloc ?_ _)); exact BK356.out)) : gb367 ≠ gb356)); clear BK354; clear BK356; clear HB; have BK354 := n0_; have BK356 := n1_; have HB := n2_; have BK367 := n3_; have GW367 := n4_; have GE367 := n5_; have NB354_367 := n6_; have NB367_354 := n7_; have NB356_367 := n8_; have NB367_356 := n9_; clear n0_ n1_ n2_ n3_ n4_ n5_ n6_ n7_ n8_ n9_; clear hb hbox hg; have hnb51 := NB367_354.out; have hnc51 := NB354_367.out; have hnb52 := NB367_356.out; have hnc52 := NB356_367.out; have hcz53_0 : w50.cell? ⟨gb367, 0, none⟩ = some (.int .i64 0) := (blk_cell BK367.out 0).trans rfl; have hcz53_1 : w50.cell? ⟨gb367, 1, none⟩ = some (.int .i64 0) := (blk_cell BK367.out 1).trans rfl; have hcz53_2 : w50.cell? ⟨gb367, 2, none⟩ = some (.int .i64 0) := (blk_cell BK367.out 2).trans rfl; have hcz53_3 : w50.cell? ⟨gb367, 3, none⟩ = some (.int .i64 0) := (blk_cell BK367.out 3).trans rfl; have hcz53_4 : w50.cell? ⟨gb367, 4, none⟩ = some (.int .i64 0) := (blk_cell BK367.out 4).trans rfl; have hfz53_0 := blk_frozen BK367.out 0; have hfz53_1 := blk_frozen BK367.out 1; have hfz53_2 := blk_frozen BK367.out 2; have hfz53_3 := blk_frozen BK367.out 3; have hfz53_4 := blk_frozen BK367.out 4) | (go_at_call 11; (with_reducible refine (choose_Other.calls kj28 (((t357 ++ (F_.extract 24 96)) ++ t359) ++ (F_.extract 120 F_.size)) t368 t369 _ A42.out).mono ?_); rintro e w54 ⟨rfl, hb⟩; have n0_ := Aside0.mk (blk_below (g := gb354) (o := .cells #[.int .i64 (wrap64 (1 + (Go.bits .and .i64 a1 7))), .int .i64 0, .int .i64 5, .int .i64 x355003_17] 23 (0, 0)) (by (with_reducible repeat (first | refine blk_drewN ?_ _ | refine blk_drew ?_ | refine blk_alloc ?_ _)); refine blk_far ?_ NB354_367.out _; (with_reducible repeat (first | refine blk_drewN ?_ _ | refine blk_drew ?_ | refine blk_alloc ?_ _)); refine blk_far ?_ NB354_367.out _; (with_reducible repeat (first | refine blk_drewN ?_ _ | refine blk_drew ?_ | refine blk_alloc ?_ _)); refine blk_far ?_ NB354_367.out _; (with_reducible repeat (first | refine blk_drewN ?_ _ | refine blk_drew ?_ | refine blk_alloc ?_ _)); refine blk_far ?_ NB354_367.out _; (with_reducible repeat (first | refine blk_drewN ?_ _ | refine blk_drew ?_ | refine blk_alloc ?_ _)); refine blk_far ?_ NB354_367.out _; (with_reducible repeat (first | refine blk_drewN ?_ _ | refine blk_drew ?_ | refine blk_alloc ?_ _)); exact BK354.out) hb); have n1_ := Aside0.mk (blk_below (g := gb356) (o := .cells #[.int .i64 (wrap64 (1 + (Go.bits .and .i64 a2 7))), .int .i64 1, .int .i64 6, .int .i64 x357003_28] 23 (0, 0)) (by (with_reducible repeat (first | refine blk_drewN ?_ _ | refine blk_drew ?_ | refine blk_alloc ?_ _)); refine blk_far ?_ NB356_367.out _; (with_reducible repeat (first | refine blk_drewN ?_ _ | refine blk_drew ?_ | refine blk_alloc ?_ _)); refine blk_far ?_ NB356_367.out _; (with_reducible repeat (first | refine blk_drewN ?_ _ | refine blk_drew ?_ | refine blk_alloc ?_ _)); refine blk_far ?_ NB356_367.out _; (with_reducible repeat (first | refine blk_drewN ?_ _ | refine blk_drew ?_ | refine blk_alloc ?_ _)); refine blk_far ?_ NB356_367.out _; (with_reducible repeat (first | refine blk_drewN ?_ _ | refine blk_drew ?_ | refine blk_alloc ?_ _)); refine blk_far ?_ NB356_367.out _; (with_reducible repeat (first | refine blk_drewN ?_ _ | refine blk_drew ?_ | refine blk_alloc ?_ _)); exact BK356.out) hb); have n2_ := Aside0.mk (blk_below (g := gb367) (o := .cells #[.int .i64 t361, .int .i64 t362, .int .i64 t363, .int .i64 t364, .int .i64 t365] 25 (0, 0)) (by (with_reducible repeat (first | refine blk_drewN ?_ _ | refine blk_drew ?_ | refine blk_alloc ?_ _)); refine blk_put (cs := #[.int .i64 t361, .int .i64 t362, .int .i64 t363, .int .i64 t364, .int .i64 0]) ?_ 4 _ rfl; (with_reducible repeat (first | refine blk_drewN ?_ _ | refine blk_drew ?_ | refine blk_alloc ?_ _)); refine blk_put (cs := #[.int .i64 t361, .int .i64 t362, .int .i64 t363, .int .i64 0, .int .i64 0]) ?_ 3 _ rfl; (with_reducible repeat (first | refine blk_drewN ?_ _ | refine blk_drew ?_ | refine blk_alloc ?_ _)); refine blk_put (cs := #[.int .i64 t361, .int .i64 t362, .int .i64 0, .int .i64 0, .int .i64 0]) ?_ 2 _ rfl; (with_reducible repeat (first | refine blk_drewN ?_ _ | refine blk_drew ?_ | refine blk_alloc ?_ _)); refine blk_put (cs := #[.int .i64 t361, .int .i64 0, .int .i64 0, .int .i64 0, .int .i64 0]) ?_ 1 _ rfl; (with_reducible repeat (first | refine blk_drewN ?_ _ | refine blk_drew ?_ | refine blk_alloc ?_ _)); refine blk_put (cs := #[.int .i64 0, .int .i64 0, .int .i64 0, .int .i64 0, .int .i64 0]) ?_ 0 _ rfl; (with_reducible repeat (first | refine blk_drewN ?_ _ | refine blk_drew ?_ | refine blk_alloc ?_ _)); exact BK367.out) hb); have n3_ := Aside0.mk (below_step (by repeat (first | (with_reducible first | exact HB.out | apply below_alloc | apply pw_below_drewN | apply below_drew1 | refine below_set ?_ GE354.out | refine below_set ?_ GE356.out | refine below_set ?_ GE367.out) | exact HB.out)) hb); clear BK354; clear BK356; clear BK367; clear HB; have BK354 := n0_; have BK356 := n1_; have BK367 := n2_; have HB := n3_; clear n0_ n1_ n2_ n3_; (try clear hb); (try clear hb2); (try clear hk); (try clear hi); have hcz55_0 : w54.cell? ⟨gb356, 0, none⟩ = some (.int .i64 (wrap64 (1 + (Go.bits .and .i64 a2 7)))) := (blk_cell BK356.out 0).trans rfl; have hcz55_1 : w54.cell? ⟨gb356, 1, none⟩ = some (.int .i64 1) := (blk_cell BK356.out 1).trans rfl; have hcz55_2 : w54.cell? ⟨gb356, 2, none⟩ = some (.int .i64 6) := (blk_cell BK356.out 2).trans rfl; have hcz55_3 : w54.cell? ⟨gb356, 3, none⟩ = some (.int .i64 x357003_28) := (blk_cell BK356.out 3).trans rfl; have hfz55_0 := blk_frozen BK356.out 0; have hfz55_1 := blk_frozen BK356.out 1; have hfz55_2 := blk_frozen BK356.out 2; have hfz55_3 := blk_frozen BK356.out 3) | ((with_reducible refine gate_dst (N := 20) rfl ?_); refine box_event ?hg (N := 20) ?hd (cs := #[.int .i64 0, .int .i64 0, .int .i64 0, .int .i64 0, .int .i64 0]) (t := 25) ?hr ?_; (case hd => rfl); (case hg => rfl); (case hr => first | (go_simp; done) | (go_simp; rfl)); intro gb370 hg w56 hbox hb; have n0_ := Aside0.mk (blk_below (g := gb354) (o := .cells #[.int .i64 (wrap64 (1 + (Go.bits .and .i64 a1 7))), .int .i64 0, .int .i64 5, .int .i64 x355003_17] 23 (0, 0)) (by (with_reducible repeat (first | refine blk_drewN ?_ _ | refine blk_drew ?_ | refine blk_alloc ?_ _)); exact BK354.out) hb); have n1_ := Aside0.mk (blk_below (g := gb356) (o := .cells #[.int .i64 (wrap64 (1 + (Go.bits .and .i64 a2 7))), .int .i64 1, .int .i64 6, .int .i64 x357003_28] 23 (0, 0)) (by (with_reducible repeat (first | refine blk_drewN ?_ _ | refine blk_drew ?_ | refine blk_alloc ?_ _)); exact BK356.out) hb); have n2_ := Aside0.mk (blk_below (g := gb367) (o := .cells #[.int .i64 t361, .int .i64 t362, .int .i64 t363, .int .i64 t364, .int .i64 t365] 25 (0, 0)) (by (with_reducible repeat (first | refine blk_drewN ?_ _ | refine blk_drew ?_ | refine blk_alloc ?_ _)); exact BK367.out) hb); have n3_ := Aside0.mk (below_step (by repeat (first | (with_reducible first | exact HB.out | apply below_alloc | apply pw_below_drewN | apply below_drew1 | refine below_set ?_ GE354.out | refine below_set ?_ GE356.out | refine below_set ?_ GE367.out) | exact HB.out)) hb); have n4_ := Aside0.mk (hbox); have n5_ := Aside0.mk ((by rw [hg]; exact (below_size (by repeat (first | (with_reducible first | exact HB.out | apply below_alloc | apply pw_below_drewN | apply below_drew1 | refine below_set ?_ GE354.out | refine below_set ?_ GE356.out | refine below_set ?_ GE367.out) | exact HB.out))) : w.heap.size ≤ gb370)); have n6_ := Aside0.mk ((by rw [hg]; exact (below_size (by repeat (first | (with_reducible first | exact HB.out | apply below_alloc | apply pw_below_drewN | apply below_drew1 | refine below_set ?_ GE354.out | refine below_set ?_ GE356.out | refine below_set ?_ GE367.out) | exact HB.out))) : w.heap.size ≤ gb370)); have n7_ := Aside0.mk ((by rw [hg]; exact Nat.ne_of_lt (blk_lt (g := gb354) (o := .cells #[.int .i64 (wrap64 (1 + (Go.bits .and .i64 a1 7))), .int .i64 0, .int .i64 5, .int .i64 x355003_17] 23 (0, 0)) (by (with_reducible repeat (first | refine blk_drewN ?_ _ | refine blk_drew ?_ | refine blk_alloc ?_ _)); exact BK354.out)) : gb354 ≠ gb370)); have n8_ := Aside0.mk ((by rw [hg]; exact Nat.ne_of_gt (blk_lt (g := gb354) (o := .cells #[.int .i64 (wrap64 (1 + (Go.bits .and .i64 a1 7))), .int .i64 0, .int .i64 5, .int .i64 x355003_17] 23 (0, 0)) (by (with_reducible repeat (first | refine blk_drewN ?_ _ | refine blk_drew ?_ | refine blk_alloc ?_ _)); exact BK354.out)) : gb370 ≠ gb354)); have n9_ := Aside0.mk ((by rw [hg]; exact Nat.ne_of_lt (blk_lt (g := gb356) (o := .cells #[.int .i64 (wrap64 (1 + (Go.bits .and .i64 a2 7))), .int .i64 1, .int .i64 6, .int .i64 x357003_28] 23 (0, 0)) (by (with_reducible repeat (first | refine blk_drewN ?_ _ | refine blk_drew ?_ | refine blk_alloc ?_ _)); exact BK356.out)) : gb356 ≠ gb370)); have n10_ := Aside0.mk ((by rw [hg]; exact Nat.ne_of_gt (blk_lt (g := gb356) (o := .cells #[.int .i64 (wrap64 (1 + (Go.bits .and .i64 a2 7))), .int .i64 1, .int .i64 6, .int .i64 x357003_28] 23 (0, 0)) (by (with_reducible repeat (first | refine blk_drewN ?_ _ | refine blk_drew ?_ | refine blk_alloc ?_ _)); exact BK356.out)) : gb370 ≠ gb356)); have n11_ := Aside0.mk ((by rw [hg]; exact Nat.ne_of_lt (blk_lt (g := gb367) (o := .cells #[.int .i64 t361, .int .i64 t362, .int .i64 t363, .int .i64 t364, .int .i64 t365] 25 (0, 0)) (by (with_reducible repeat (first | refine blk_drewN ?_ _ | refine blk_drew ?_ | refine blk_alloc ?_ _)); exact BK367.out)) : gb367 ≠ gb370)); have n12_ := Aside0.mk ((by rw [hg]; exact Nat.ne_of_gt (blk_lt (g := gb367) (o := .cells #[.int .i64 t361, .int .i64 t362, .int .i64 t363, .int .i64 t364, .int .i64 t365] 25 (0, 0)) (by (with_reducible repeat (first | refine blk_drewN ?_ _ | refine blk_drew ?_ | refine blk_alloc ?_ _)); exact BK367.out)) : gb370 ≠ gb367)); clear BK354; clear BK356; clear BK367; clear HB; have BK354 := n0_; have BK356 := n1_; have BK367 := n2_; have HB := n3_; have BK370 := n4_; have GW370 := n5_; have GE370 := n6_; have NB354_370 := n7_; have NB370_354 := n8_; have NB356_370 := n9_; have NB370_356 := n10_; have NB367_370 := n11_; have NB370_367 := n12_; clear n0_ n1_ n2_ n3_ n4_ n5_ n6_ n7_ n8_ n9_ n10_ n11_ n12_; clear hb hbox hg; have hnb57 := NB370_354.out; have hnc57 := NB354_370.out; have hnb58 := NB370_356.out; have hnc58 := NB356_370.out; have hnb59 := NB370_367.out; have hnc59 := NB367_370.out; have hcz60_0 : w56.cell? ⟨gb370, 0, none⟩ = some (.int .i64 0) := (blk_cell BK370.out 0).trans rfl; have hcz60_1 : w56.cell? ⟨gb370, 1, none⟩ = some (.int .i64 0) := (blk_cell BK370.out 1).trans rfl; have hcz60_2 : w56.cell? ⟨gb370, 2, none⟩ = some (.int .i64 0) := (blk_cell BK370.out 2).trans rfl; have hcz60_3 : w56.cell? ⟨gb370, 3, none⟩ = some (.int .i64 0) := (blk_cell BK370.out 3).trans rfl; have hcz60_4 : w56.cell? ⟨gb370, 4, none⟩ = some (.int .i64 0) := (blk_cell BK370.out 4).trans rfl; have hfz60_0 := blk_frozen BK370.out 0; have hfz60_1 := blk_frozen BK370.out 1; have hfz60_2 := blk_frozen BK370.out 2; have hfz60_3 := blk_frozen BK370.out 3; have hfz60_4 := blk_frozen BK370.out 4)); go_upto_region 18 with (first | (go_at_call 19; (with_reducible refine (Hand.skiffref1_PutEntry.calls kj28 (wrap64 (1 + (Go.bits .and .i64 a1 7))) 0 5 x355003_17 t357 t358 _ A33.out).mono ?_); rintro e w46 ⟨rfl, hb⟩; have n0_ := Aside0.mk (blk_below (g := gb354) (o := .cells #[.int .i64 (wrap64 (1 + (Go.bits .and .i64 a1 7))), .int .i64 0, .int .i64 5, .int .i64 x355003_17] 23 (0, 0)) (by (with_reducible repeat (first | refine blk_drewN ?_ _ | refine blk_drew ?_ | refine blk_alloc ?_ _)); exact BK354.out) hb); have n1_ := Aside0.mk (blk_below (g := gb356) (o := .cells #[.int .i64 (wrap64 (1 + (Go.bits .and .i64 a2 7))), .int .i64 1, .int .i64 6, .int .i64 x357003_28] 23 (0, 0)) (by (with_reducible repeat (first | refine blk_drewN ?_ _ | refine blk_drew ?_ | refine blk_alloc ?_ _)); exact BK356.out) hb); have n2_ := Aside0.mk (below_step (by repeat (first | (with_reducible first | exact HB.out | apply below_alloc | apply pw_below_drewN | apply below_drew1 | refine below_set ?_ GE354.out | refine below_set ?_ GE356.out) | exact HB.out)) hb); clear BK354; clear BK356; clear HB; have BK354 := n0_; have BK356 := n1_; have HB := n2_; clear n0_ n1_ n2_; (try clear hb); (try clear hb2); (try clear hk); (try clear hi); have hcz47_0 : w46.cell? ⟨gb356, 0, none⟩ = some (.int .i64 (wrap64 (1 + (Go.bits .and .i64 a2 7)))) := (blk_cell BK356.out 0).trans rfl; have hcz47_1 : w46.cell? ⟨gb356, 1, none⟩ = some (.int .i64 1) := (blk_cell BK356.out 1).trans rfl; have hcz47_2 : w46.cell? ⟨gb356, 2, none⟩ = some (.int .i64 6) := (blk_cell BK356.out 2).trans rfl; have hcz47_3 : w46.cell? ⟨gb356, 3, none⟩ = some (.int .i64 x357003_28) := (blk_cell BK356.out 3).trans rfl; have hfz47_0 := blk_frozen BK356.out 0; have hfz47_1 := blk_frozen BK356.out 1; have hfz47_2 := blk_frozen BK356.out 2; have hfz47_3 := blk_frozen BK356.out 3) | (go_at_call 19; (with_reducible refine (Hand.skiffref1_PutEntry.calls kj28 (wrap64 (1 + (Go.bits .and .i64 a2 7))) 1 6 x357003_28 t359 t360 _ A34.out).mono ?_); rintro e w48 ⟨rfl, hb⟩; have n0_ := Aside0.mk (blk_below (g := gb354) (o := .cells #[.int .i64 (wrap64 (1 + (Go.bits .and .i64 a1 7))), .int .i64 0, .int .i64 5, .int .i64 x355003_17] 23 (0, 0)) (by (with_reducible repeat (first | refine blk_drewN ?_ _ | refine blk_drew ?_ | refine blk_alloc ?_ _)); exact BK354.out) hb); have n1_ := Aside0.mk (blk_below (g := gb356) (o := .cells #[.int .i64 (wrap64 (1 + (Go.bits .and .i64 a2 7))), .int .i64 1, .int .i64 6, .int .i64 x357003_28] 23 (0, 0)) (by (with_reducible repeat (first | refine blk_drewN ?_ _ | refine blk_drew ?_ | refine blk_alloc ?_ _)); exact BK356.out) hb); have n2_ := Aside0.mk (below_step (by repeat (first | (with_reducible first | exact HB.out | apply below_alloc | apply pw_below_drewN | apply below_drew1 | refine below_set ?_ GE354.out | refine below_set ?_ GE356.out) | exact HB.out)) hb); clear BK354; clear BK356; clear HB; have BK354 := n0_; have BK356 := n1_; have HB := n2_; clear n0_ n1_ n2_; (try clear hb); (try clear hb2); (try clear hk); (try clear hi)) | (go_at_call 9; (with_reducible refine (Hand.choose_Active.calls kj28 (((t357 ++ (F_.extract 24 96)) ++ t359) ++ (F_.extract 120 F_.size)) t361 t362 t363 t364 t365 t366 _ A41.out).mono ?_); rintro e w49 ⟨rfl, hb⟩; have n0_ := Aside0.mk (blk_below (g := gb354) (o := .cells #[.int .i64 (wrap64 (1 + (Go.bits .and .i64 a1 7))), .int .i64 0, .int .i64 5, .int .i64 x355003_17] 23 (0, 0)) (by (with_reducible repeat (first | refine blk_drewN ?_ _ | refine blk_drew ?_ | refine blk_alloc ?_ _)); exact BK354.out) hb); have n1_ := Aside0.mk (blk_below (g := gb356) (o := .cells #[.int .i64 (wrap64 (1 + (Go.bits .and .i64 a2 7))), .int .i64 1, .int .i64 6, .int .i64 x357003_28] 23 (0, 0)) (by (with_reducible repeat (first | refine blk_drewN ?_ _ | refine blk_drew ?_ | refine blk_alloc ?_ _)); exact BK356.out) hb); have n2_ := Aside0.mk (below_step (by repeat (first | (with_reducible first | exact HB.out | apply below_alloc | apply pw_below_drewN | apply below_drew1 | refine below_set ?_ GE354.out | refine below_set ?_ GE356.out) | exact HB.out)) hb); clear BK354; clear BK356; clear HB; have BK354 := n0_; have BK356 := n1_; have HB := n2_; clear n0_ n1_ n2_; (try clear hb); (try clear hb2); (try clear hk); (try clear hi)) | ((with_reducible refine gate_dst (N := 16) rfl ?_); refine box_event ?hg (N := 16) ?hd (cs := #[.int .i64 0, .int .i64 0, .int .i64 0, .int .i64 0, .int .i64 0]) (t := 25) ?hr ?_; (case hd => rfl); (case hg => rfl); (case hr => first | (go_simp; done) | (go_simp; rfl)); intro gb367 hg w50 hbox hb; have n0_ := Aside0.mk (blk_below (g := gb354) (o := .cells #[.int .i64 (wrap64 (1 + (Go.bits .and .i64 a1 7))), .int .i64 0, .int .i64 5, .int .i64 x355003_17] 23 (0, 0)) (by (with_reducible repeat (first | refine blk_drewN ?_ _ | refine blk_drew ?_ | refine blk_alloc ?_ _)); exact BK354.out) hb); have n1_ := Aside0.mk (blk_below (g := gb356) (o := .cells #[.int .i64 (wrap64 (1 + (Go.bits .and .i64 a2 7))), .int .i64 1, .int .i64 6, .int .i64 x357003_28] 23 (0, 0)) (by (with_reducible repeat (first | refine blk_drewN ?_ _ | refine blk_drew ?_ | refine blk_alloc ?_ _)); exact BK356.out) hb); have n2_ := Aside0.mk (below_step (by repeat (first | (with_reducible first | exact HB.out | apply below_alloc | apply pw_below_drewN | apply below_drew1 | refine below_set ?_ GE354.out | refine below_set ?_ GE356.out) | exact HB.out)) hb); have n3_ := Aside0.mk (hbox); have n4_ := Aside0.mk ((by rw [hg]; exact (below_size (by repeat (first | (with_reducible first | exact HB.out | apply below_alloc | apply pw_below_drewN | apply below_drew1 | refine below_set ?_ GE354.out | refine below_set ?_ GE356.out) | exact HB.out))) : w.heap.size ≤ gb367)); have n5_ := Aside0.mk ((by rw [hg]; exact (below_size (by repeat (first | (with_reducible first | exact HB.out | apply below_alloc | apply pw_below_drewN | apply below_drew1 | refine below_set ?_ GE354.out | refine below_set ?_ GE356.out) | exact HB.out))) : w.heap.size ≤ gb367)); have n6_ := Aside0.mk ((by rw [hg]; exact Nat.ne_of_lt (blk_lt (g := gb354) (o := .cells #[.int .i64 (wrap64 (1 + (Go.bits .and .i64 a1 7))), .int .i64 0, .int .i64 5, .int .i64 x355003_17] 23 (0, 0)) (by (with_reducible repeat (first | refine blk_drewN ?_ _ | refine blk_drew ?_ | refine blk_alloc ?_ _)); exact BK354.out)) : gb354 ≠ gb367)); have n7_ := Aside0.mk ((by rw [hg]; exact Nat.ne_of_gt (blk_lt (g := gb354) (o := .cells #[.int .i64 (wrap64 (1 + (Go.bits .and .i64 a1 7))), .int .i64 0, .int .i64 5, .int .i64 x355003_17] 23 (0, 0)) (by (with_reducible repeat (first | refine blk_drewN ?_ _ | refine blk_drew ?_ | refine blk_alloc ?_ _)); exact BK354.out)) : gb367 ≠ gb354)); have n8_ := Aside0.mk ((by rw [hg]; exact Nat.ne_of_lt (blk_lt (g := gb356) (o := .cells #[.int .i64 (wrap64 (1 + (Go.bits .and .i64 a2 7))), .int .i64 1, .int .i64 6, .int .i64 x357003_28] 23 (0, 0)) (by (with_reducible repeat (first | refine blk_drewN ?_ _ | refine blk_drew ?_ | refine blk_alloc ?_ _)); exact BK356.out)) : gb356 ≠ gb367)); have n9_ := Aside0.mk ((by rw [hg]; exact Nat.ne_of_gt (blk_lt (g := gb356) (o := .cells #[.int .i64 (wrap64 (1 + (Go.bits .and .i64 a2 7))), .int .i64 1, .int .i64 6, .int .i64 x357003_28] 23 (0, 0)) (by (with_reducible repeat (first | refine blk_drewN ?_ _ | refine blk_drew ?_ | refine blk_alloc ?_ _)); exact BK356.out)) : gb367 ≠ gb356)); clear BK354; clear BK356; clear HB; have BK354 := n0_; have BK356 := n1_; have HB := n2_; have BK367 := n3_; have GW367 := n4_; have GE367 := n5_; have NB354_367 := n6_; have NB367_354 := n7_; have NB356_367 := n8_; have NB367_356 := n9_; clear n0_ n1_ n2_ n3_ n4_ n5_ n6_ n7_ n8_ n9_; clear hb hbox hg; have hnb51 := NB367_354.out; have hnc51 := NB354_367.out; have hnb52 := NB367_356.out; have hnc52 := NB356_367.out; have hcz53_0 : w50.cell? ⟨gb367, 0, none⟩ = some (.int .i64 0) := (blk_cell BK367.out 0).trans rfl; have hcz53_1 : w50.cell? ⟨gb367, 1, none⟩ = some (.int .i64 0) := (blk_cell BK367.out 1).trans rfl; have hcz53_2 : w50.cell? ⟨gb367, 2, none⟩ = some (.int .i64 0) := (blk_cell BK367.out 2).trans rfl; have hcz53_3 : w50.cell? ⟨gb367, 3, none⟩ = some (.int .i64 0) := (blk_cell BK367.out 3).trans rfl; have hcz53_4 : w50.cell? ⟨gb367, 4, none⟩ = some (.int .i64 0) := (blk_cell BK367.out 4).trans rfl; have hfz53_0 := blk_frozen BK367.out 0; have hfz53_1 := blk_frozen BK367.out 1; have hfz53_2 := blk_frozen BK367.out 2; have hfz53_3 := blk_frozen BK367.out 3; have hfz53_4 := blk_frozen BK367.out 4) | (go_at_call 11; (with_reducible refine (choose_Other.calls kj28 (((t357 ++ (F_.extract 24 96)) ++ t359) ++ (F_.extract 120 F_.size)) t368 t369 _ A42.out).mono ?_); rintro e w54 ⟨rfl, hb⟩; have n0_ := Aside0.mk (blk_below (g := gb354) (o := .cells #[.int .i64 (wrap64 (1 + (Go.bits .and .i64 a1 7))), .int .i64 0, .int .i64 5, .int .i64 x355003_17] 23 (0, 0)) (by (with_reducible repeat (first | refine blk_drewN ?_ _ | refine blk_drew ?_ | refine blk_alloc ?_ _)); refine blk_far ?_ NB354_367.out _; (with_reducible repeat (first | refine blk_drewN ?_ _ | refine blk_drew ?_ | refine blk_alloc ?_ _)); refine blk_far ?_ NB354_367.out _; (with_reducible repeat (first | refine blk_drewN ?_ _ | refine blk_drew ?_ | refine blk_alloc ?_ _)); refine blk_far ?_ NB354_367.out _; (with_reducible repeat (first | refine blk_drewN ?_ _ | refine blk_drew ?_ | refine blk_alloc ?_ _)); refine blk_far ?_ NB354_367.out _; (with_reducible repeat (first | refine blk_drewN ?_ _ | refine blk_drew ?_ | refine blk_alloc ?_ _)); refine blk_far ?_ NB354_367.out _; (with_reducible repeat (first | refine blk_drewN ?_ _ | refine blk_drew ?_ | refine blk_alloc ?_ _)); exact BK354.out) hb); have n1_ := Aside0.mk (blk_below (g := gb356) (o := .cells #[.int .i64 (wrap64 (1 + (Go.bits .and .i64 a2 7))), .int .i64 1, .int .i64 6, .int .i64 x357003_28] 23 (0, 0)) (by (with_reducible repeat (first | refine blk_drewN ?_ _ | refine blk_drew ?_ | refine blk_alloc ?_ _)); refine blk_far ?_ NB356_367.out _; (with_reducible repeat (first | refine blk_drewN ?_ _ | refine blk_drew ?_ | refine blk_alloc ?_ _)); refine blk_far ?_ NB356_367.out _; (with_reducible repeat (first | refine blk_drewN ?_ _ | refine blk_drew ?_ | refine blk_alloc ?_ _)); refine blk_far ?_ NB356_367.out _; (with_reducible repeat (first | refine blk_drewN ?_ _ | refine blk_drew ?_ | refine blk_alloc ?_ _)); refine blk_far ?_ NB356_367.out _; (with_reducible repeat (first | refine blk_drewN ?_ _ | refine blk_drew ?_ | refine blk_alloc ?_ _)); refine blk_far ?_ NB356_367.out _; (with_reducible repeat (first | refine blk_drewN ?_ _ | refine blk_drew ?_ | refine blk_alloc ?_ _)); exact BK356.out) hb); have n2_ := Aside0.mk (blk_below (g := gb367) (o := .cells #[.int .i64 t361, .int .i64 t362, .int .i64 t363, .int .i64 t364, .int .i64 t365] 25 (0, 0)) (by (with_reducible repeat (first | refine blk_drewN ?_ _ | refine blk_drew ?_ | refine blk_alloc ?_ _)); refine blk_put (cs := #[.int .i64 t361, .int .i64 t362, .int .i64 t363, .int .i64 t364, .int .i64 0]) ?_ 4 _ rfl; (with_reducible repeat (first | refine blk_drewN ?_ _ | refine blk_drew ?_ | refine blk_alloc ?_ _)); refine blk_put (cs := #[.int .i64 t361, .int .i64 t362, .int .i64 t363, .int .i64 0, .int .i64 0]) ?_ 3 _ rfl; (with_reducible repeat (first | refine blk_drewN ?_ _ | refine blk_drew ?_ | refine blk_alloc ?_ _)); refine blk_put (cs := #[.int .i64 t361, .int .i64 t362, .int .i64 0, .int .i64 0, .int .i64 0]) ?_ 2 _ rfl; (with_reducible repeat (first | refine blk_drewN ?_ _ | refine blk_drew ?_ | refine blk_alloc ?_ _)); refine blk_put (cs := #[.int .i64 t361, .int .i64 0, .int .i64 0, .int .i64 0, .int .i64 0]) ?_ 1 _ rfl; (with_reducible repeat (first | refine blk_drewN ?_ _ | refine blk_drew ?_ | refine blk_alloc ?_ _)); refine blk_put (cs := #[.int .i64 0, .int .i64 0, .int .i64 0, .int .i64 0, .int .i64 0]) ?_ 0 _ rfl; (with_reducible repeat (first | refine blk_drewN ?_ _ | refine blk_drew ?_ | refine blk_alloc ?_ _)); exact BK367.out) hb); have n3_ := Aside0.mk (below_step (by repeat (first | (with_reducible first | exact HB.out | apply below_alloc | apply pw_below_drewN | apply below_drew1 | refine below_set ?_ GE354.out | refine below_set ?_ GE356.out | refine below_set ?_ GE367.out) | exact HB.out)) hb); clear BK354; clear BK356; clear BK367; clear HB; have BK354 := n0_; have BK356 := n1_; have BK367 := n2_; have HB := n3_; clear n0_ n1_ n2_ n3_; (try clear hb); (try clear hb2); (try clear hk); (try clear hi); have hcz55_0 : w54.cell? ⟨gb356, 0, none⟩ = some (.int .i64 (wrap64 (1 + (Go.bits .and .i64 a2 7)))) := (blk_cell BK356.out 0).trans rfl; have hcz55_1 : w54.cell? ⟨gb356, 1, none⟩ = some (.int .i64 1) := (blk_cell BK356.out 1).trans rfl; have hcz55_2 : w54.cell? ⟨gb356, 2, none⟩ = some (.int .i64 6) := (blk_cell BK356.out 2).trans rfl; have hcz55_3 : w54.cell? ⟨gb356, 3, none⟩ = some (.int .i64 x357003_28) := (blk_cell BK356.out 3).trans rfl; have hfz55_0 := blk_frozen BK356.out 0; have hfz55_1 := blk_frozen BK356.out 1; have hfz55_2 := blk_frozen BK356.out 2; have hfz55_3 := blk_frozen BK356.out 3) | ((with_reducible refine gate_dst (N := 20) rfl ?_); refine box_event ?hg (N := 20) ?hd (cs := #[.int .i64 0, .int .i64 0, .int .i64 0, .int .i64 0, .int .i64 0]) (t := 25) ?hr ?_; (case hd => rfl); (case hg => rfl); (case hr => first | (go_simp; done) | (go_simp; rfl)); intro gb370 hg w56 hbox hb; have n0_ := Aside0.mk (blk_below (g := gb354) (o := .cells #[.int .i64 (wrap64 (1 + (Go.bits .and .i64 a1 7))), .int .i64 0, .int .i64 5, .int .i64 x355003_17] 23 (0, 0)) (by (with_reducible repeat (first | refine blk_drewN ?_ _ | refine blk_drew ?_ | refine blk_alloc ?_ _)); exact BK354.out) hb); have n1_ := Aside0.mk (blk_below (g := gb356) (o := .cells #[.int .i64 (wrap64 (1 + (Go.bits .and .i64 a2 7))), .int .i64 1, .int .i64 6, .int .i64 x357003_28] 23 (0, 0)) (by (with_reducible repeat (first | refine blk_drewN ?_ _ | refine blk_drew ?_ | refine blk_alloc ?_ _)); exact BK356.out) hb); have n2_ := Aside0.mk (blk_below (g := gb367) (o := .cells #[.int .i64 t361, .int .i64 t362, .int .i64 t363, .int .i64 t364, .int .i64 t365] 25 (0, 0)) (by (with_reducible repeat (first | refine blk_drewN ?_ _ | refine blk_drew ?_ | refine blk_alloc ?_ _)); exact BK367.out) hb); have n3_ := Aside0.mk (below_step (by repeat (first | (with_reducible first | exact HB.out | apply below_alloc | apply pw_below_drewN | apply below_drew1 | refine below_set ?_ GE354.out | refine below_set ?_ GE356.out | refine below_set ?_ GE367.out) | exact HB.out)) hb); have n4_ := Aside0.mk (hbox); have n5_ := Aside0.mk ((by rw [hg]; exact (below_size (by repeat (first | (with_reducible first | exact HB.out | apply below_alloc | apply pw_below_drewN | apply below_drew1 | refine below_set ?_ GE354.out | refine below_set ?_ GE356.out | refine below_set ?_ GE367.out) | exact HB.out))) : w.heap.size ≤ gb370)); have n6_ := Aside0.mk ((by rw [hg]; exact (below_size (by repeat (first | (with_reducible first | exact HB.out | apply below_alloc | apply pw_below_drewN | apply below_drew1 | refine below_set ?_ GE354.out | refine below_set ?_ GE356.out | refine below_set ?_ GE367.out) | exact HB.out))) : w.heap.size ≤ gb370)); have n7_ := Aside0.mk ((by rw [hg]; exact Nat.ne_of_lt (blk_lt (g := gb354) (o := .cells #[.int .i64 (wrap64 (1 + (Go.bits .and .i64 a1 7))), .int .i64 0, .int .i64 5, .int .i64 x355003_17] 23 (0, 0)) (by (with_reducible repeat (first | refine blk_drewN ?_ _ | refine blk_drew ?_ | refine blk_alloc ?_ _)); exact BK354.out)) : gb354 ≠ gb370)); have n8_ := Aside0.mk ((by rw [hg]; exact Nat.ne_of_gt (blk_lt (g := gb354) (o := .cells #[.int .i64 (wrap64 (1 + (Go.bits .and .i64 a1 7))), .int .i64 0, .int .i64 5, .int .i64 x355003_17] 23 (0, 0)) (by (with_reducible repeat (first | refine blk_drewN ?_ _ | refine blk_drew ?_ | refine blk_alloc ?_ _)); exact BK354.out)) : gb370 ≠ gb354)); have n9_ := Aside0.mk ((by rw [hg]; exact Nat.ne_of_lt (blk_lt (g := gb356) (o := .cells #[.int .i64 (wrap64 (1 + (Go.bits .and .i64 a2 7))), .int .i64 1, .int .i64 6, .int .i64 x357003_28] 23 (0, 0)) (by (with_reducible repeat (first | refine blk_drewN ?_ _ | refine blk_drew ?_ | refine blk_alloc ?_ _)); exact BK356.out)) : gb356 ≠ gb370)); have n10_ := Aside0.mk ((by rw [hg]; exact Nat.ne_of_gt (blk_lt (g := gb356) (o := .cells #[.int .i64 (wrap64 (1 + (Go.bits .and .i64 a2 7))), .int .i64 1, .int .i64 6, .int .i64 x357003_28] 23 (0, 0)) (by (with_reducible repeat (first | refine blk_drewN ?_ _ | refine blk_drew ?_ | refine blk_alloc ?_ _)); exact BK356.out)) : gb370 ≠ gb356)); have n11_ := Aside0.mk ((by rw [hg]; exact Nat.ne_of_lt (blk_lt (g := gb367) (o := .cells #[.int .i64 t361, .int .i64 t362, .int .i64 t363, .int .i64 t364, .int .i64 t365] 25 (0, 0)) (by (with_reducible repeat (first | refine blk_drewN ?_ _ | refine blk_drew ?_ | refine blk_alloc ?_ _)); exact BK367.out)) : gb367 ≠ gb370)); have n12_ := Aside0.mk ((by rw [hg]; exact Nat.ne_of_gt (blk_lt (g := gb367) (o := .cells #[.int .i64 t361, .int .i64 t362, .int .i64 t363, .int .i64 t364, .int .i64 t365] 25 (0, 0)) (by (with_reducible repeat (first | refine blk_drewN ?_ _ | refine blk_drew ?_ | refine blk_alloc ?_ _)); exact BK367.out)) : gb370 ≠ gb367)); clear BK354; clear BK356; clear BK367; clear HB; have BK354 := n0_; have BK356 := n1_; have BK367 := n2_; have HB := n3_; have BK370 := n4_; have GW370 := n5_; have GE370 := n6_; have NB354_370 := n7_; have NB370_354 := n8_; have NB356_370 := n9_; have NB370_356 := n10_; have NB367_370 := n11_; have NB370_367 := n12_; clear n0_ n1_ n2_ n3_ n4_ n5_ n6_ n7_ n8_ n9_ n10_ n11_ n12_; clear hb hbox hg; have hnb57 := NB370_354.out; have hnc57 := NB354_370.out; have hnb58 := NB370_356.out; have hnc58 := NB356_370.out; have hnb59 := NB370_367.out; have hnc59 := NB367_370.out; have hcz60_0 : w56.cell? ⟨gb370, 0, none⟩ = some (.int .i64 0) := (blk_cell BK370.out 0).trans rfl; have hcz60_1 : w56.cell? ⟨gb370, 1, none⟩ = some (.int .i64 0) := (blk_cell BK370.out 1).trans rfl; have hcz60_2 : w56.cell? ⟨gb370, 2, none⟩ = some (.int .i64 0) := (blk_cell BK370.out 2).trans rfl; have hcz60_3 : w56.cell? ⟨gb370, 3, none⟩ = some (.int .i64 0) := (blk_cell BK370.out 3).trans rfl; have hcz60_4 : w56.cell? ⟨gb370, 4, none⟩ = some (.int .i64 0) := (blk_cell BK370.out 4).trans rfl; have hfz60_0 := blk_frozen BK370.out 0; have hfz60_1 := blk_frozen BK370.out 1; have hfz60_2 := blk_frozen BK370.out 2; have hfz60_3 := blk_frozen BK370.out 3; have hfz60_4 := blk_frozen BK370.out 4)))
                     (try simp only [Act.put, List.setIfInBounds_toArray, List.set_cons_zero, List.set_cons_succ])
                     go_cut [104] (fun v104 wc => ∃ (kq : Nat) (x104_42 : Bool), v104 = .bool x104_42 ∧ Aside0 (skifflaw7_ChooseTable.j2 kq a0 t366 t368 t369 0 x104_42 (wrap64 (1 + (Go.bits .and .i64 a1 7))) 0 5 x355003_17 t361 t362 t363 t364 t365 96 (wrap64 (1 + (Go.bits .and .i64 a2 7))) 1 6 x357003_28 = some r) ∧ Aside0 (kq ≤ kj28) ∧ Aside0 (wc.heap[gb354]? = some (.cells #[.int .i64 (wrap64 (1 + (Go.bits .and .i64 a1 7))), .int .i64 0, .int .i64 5, .int .i64 x355003_17] 23 (0, 0))) ∧ Aside0 (wc.heap[gb356]? = some (.cells #[.int .i64 (wrap64 (1 + (Go.bits .and .i64 a2 7))), .int .i64 1, .int .i64 6, .int .i64 x357003_28] 23 (0, 0))) ∧ Aside0 (wc.heap[gb367]? = some (.cells #[.int .i64 t361, .int .i64 t362, .int .i64 t363, .int .i64 t364, .int .i64 t365] 25 (0, 0))) ∧ Aside0 (wc.heap[gb370]? = some (.cells #[.int .i64 96, .int .i64 (wrap64 (1 + (Go.bits .and .i64 a2 7))), .int .i64 1, .int .i64 6, .int .i64 x357003_28] 25 (0, 0))) ∧ Aside0 (Below w.heap.size w wc))
                     case first =>
                      have H := HC43.out
                      clear HC43
                      by_cases c61 : (Go.bits .and .i64 a0 2) = 2
                      ·rw [if_pos c61] at H
                       have c61b0 : ((Go.bits .and .i64 a0 2) == 2) = true := beq_iff_eq.mpr c61
                       have c61b1 : ((Go.bits .and .i64 a0 2) != 2) = false := bne_eq_false_iff_eq.mpr c61
                       clear c61
                       (first | rw [c61b0] | (simp only [i64_w, i32_w]; rw [c61b0]) | skip)
                       have H' := Aside0.mk H
                       clear H
                       go_wp2
                       repeat (go_quiet (fail); try go_wp2)
                       go_meet
                       case rel => exact ⟨_, (true), q15_, H', ⟨by have := HJ17.out; have := HJ28.out; first | omega | exact Nat.le_refl _⟩, ⟨by (with_reducible repeat (first | refine blk_drewN ?_ _ | refine blk_drew ?_ | refine blk_alloc ?_ _)); refine blk_far ?_ NB354_370.out _; (with_reducible repeat (first | refine blk_drewN ?_ _ | refine blk_drew ?_ | refine blk_alloc ?_ _)); refine blk_far ?_ NB354_370.out _; (with_reducible repeat (first | refine blk_drewN ?_ _ | refine blk_drew ?_ | refine blk_alloc ?_ _)); refine blk_far ?_ NB354_370.out _; (with_reducible repeat (first | refine blk_drewN ?_ _ | refine blk_drew ?_ | refine blk_alloc ?_ _)); refine blk_far ?_ NB354_370.out _; (with_reducible repeat (first | refine blk_drewN ?_ _ | refine blk_drew ?_ | refine blk_alloc ?_ _)); refine blk_far ?_ NB354_370.out _; (with_reducible repeat (first | refine blk_drewN ?_ _ | refine blk_drew ?_ | refine blk_alloc ?_ _)); exact BK354.out⟩, ⟨by (with_reducible repeat (first | refine blk_drewN ?_ _ | refine blk_drew ?_ | refine blk_alloc ?_ _)); refine blk_far ?_ NB356_370.out _; (with_reducible repeat (first | refine blk_drewN ?_ _ | refine blk_drew ?_ | refine blk_alloc ?_ _)); refine blk_far ?_ NB356_370.out _; (with_reducible repeat (first | refine blk_drewN ?_ _ | refine blk_drew ?_ | refine blk_alloc ?_ _)); refine blk_far ?_ NB356_370.out _; (with_reducible repeat (first | refine blk_drewN ?_ _ | refine blk_drew ?_ | refine blk_alloc ?_ _)); refine blk_far ?_ NB356_370.out _; (with_reducible repeat (first | refine blk_drewN ?_ _ | refine blk_drew ?_ | refine blk_alloc ?_ _)); refine blk_far ?_ NB356_370.out _; (with_reducible repeat (first | refine blk_drewN ?_ _ | refine blk_drew ?_ | refine blk_alloc ?_ _)); exact BK356.out⟩, ⟨by (with_reducible repeat (first | refine blk_drewN ?_ _ | refine blk_drew ?_ | refine blk_alloc ?_ _)); refine blk_far ?_ NB367_370.out _; (with_reducible repeat (first | refine blk_drewN ?_ _ | refine blk_drew ?_ | refine blk_alloc ?_ _)); refine blk_far ?_ NB367_370.out _; (with_reducible repeat (first | refine blk_drewN ?_ _ | refine blk_drew ?_ | refine blk_alloc ?_ _)); refine blk_far ?_ NB367_370.out _; (with_reducible repeat (first | refine blk_drewN ?_ _ | refine blk_drew ?_ | refine blk_alloc ?_ _)); refine blk_far ?_ NB367_370.out _; (with_reducible repeat (first | refine blk_drewN ?_ _ | refine blk_drew ?_ | refine blk_alloc ?_ _)); refine blk_far ?_ NB367_370.out _; (with_reducible repeat (first | refine blk_drewN ?_ _ | refine blk_drew ?_ | refine blk_alloc ?_ _)); exact BK367.out⟩, ⟨by (with_reducible repeat (first | refine blk_drewN ?_ _ | refine blk_drew ?_ | refine blk_alloc ?_ _)); refine blk_put (cs := #[.int .i64 96, .int .i64 (wrap64 (1 + (Go.bits .and .i64 a2 7))), .int .i64 1, .int .i64 6, .int .i64 0]) ?_ 4 _ rfl; (with_reducible repeat (first | refine blk_drewN ?_ _ | refine blk_drew ?_ | refine blk_alloc ?_ _)); refine blk_put (cs := #[.int .i64 96, .int .i64 (wrap64 (1 + (Go.bits .and .i64 a2 7))), .int .i64 1, .int .i64 0, .int .i64 0]) ?_ 3 _ rfl; (with_reducible repeat (first | refine blk_drewN ?_ _ | refine blk_drew ?_ | refine blk_alloc ?_ _)); refine blk_put (cs := #[.int .i64 96, .int .i64 (wrap64 (1 + (Go.bits .and .i64 a2 7))), .int .i64 0, .int .i64 0, .int .i64 0]) ?_ 2 _ rfl; (with_reducible repeat (first | refine blk_drewN ?_ _ | refine blk_drew ?_ | refine blk_alloc ?_ _)); refine blk_put (cs := #[.int .i64 96, .int .i64 0, .int .i64 0, .int .i64 0, .int .i64 0]) ?_ 1 _ rfl; (with_reducible repeat (first | refine blk_drewN ?_ _ | refine blk_drew ?_ | refine blk_alloc ?_ _)); refine blk_put (cs := #[.int .i64 0, .int .i64 0, .int .i64 0, .int .i64 0, .int .i64 0]) ?_ 0 _ rfl; (with_reducible repeat (first | refine blk_drewN ?_ _ | refine blk_drew ?_ | refine blk_alloc ?_ _)); exact BK370.out⟩, ⟨by repeat (first | (with_reducible first | exact HB.out | apply below_alloc | apply pw_below_drewN | apply below_drew1 | refine below_set ?_ GE354.out | refine below_set ?_ GE356.out | refine below_set ?_ GE367.out | refine below_set ?_ GE370.out) | exact HB.out)⟩⟩
                      ·rw [if_neg c61] at H
                       have c61b0 : ((Go.bits .and .i64 a0 2) == 2) = false := beq_eq_false_iff_ne.mpr c61
                       have c61b1 : ((Go.bits .and .i64 a0 2) != 2) = true := bne_iff_ne.mpr c61
                       (first | rw [c61b0] | (simp only [i64_w, i32_w]; rw [c61b0]) | skip)
                       by_cases c62 : (Go.bits .and .i64 a0 1) = 0
                       ·rw [if_pos c62] at H
                        have c62b0 : ((Go.bits .and .i64 a0 1) == 0) = true := beq_iff_eq.mpr c62
                        have c62b1 : ((Go.bits .and .i64 a0 1) != 0) = false := bne_eq_false_iff_eq.mpr c62
                        clear c62
                        have H' := Aside0.mk H
                        clear H
                        go_wp2
                        repeat (go_quiet (fail); try go_wp2)
                        go_meet
                        case rel => exact ⟨_, (decide ((wrap64 (1 + (Go.bits .and .i64 a1 7))) > (wrap64 (1 + (Go.bits .and .i64 a2 7))))), q15_, H', ⟨by have := HJ17.out; have := HJ28.out; first | omega | exact Nat.le_refl _⟩, ⟨by (with_reducible repeat (first | refine blk_drewN ?_ _ | refine blk_drew ?_ | refine blk_alloc ?_ _)); refine blk_far ?_ NB354_370.out _; (with_reducible repeat (first | refine blk_drewN ?_ _ | refine blk_drew ?_ | refine blk_alloc ?_ _)); refine blk_far ?_ NB354_370.out _; (with_reducible repeat (first | refine blk_drewN ?_ _ | refine blk_drew ?_ | refine blk_alloc ?_ _)); refine blk_far ?_ NB354_370.out _; (with_reducible repeat (first | refine blk_drewN ?_ _ | refine blk_drew ?_ | refine blk_alloc ?_ _)); refine blk_far ?_ NB354_370.out _; (with_reducible repeat (first | refine blk_drewN ?_ _ | refine blk_drew ?_ | refine blk_alloc ?_ _)); refine blk_far ?_ NB354_370.out _; (with_reducible repeat (first | refine blk_drewN ?_ _ | refine blk_drew ?_ | refine blk_alloc ?_ _)); exact BK354.out⟩, ⟨by (with_reducible repeat (first | refine blk_drewN ?_ _ | refine blk_drew ?_ | refine blk_alloc ?_ _)); refine blk_far ?_ NB356_370.out _; (with_reducible repeat (first | refine blk_drewN ?_ _ | refine blk_drew ?_ | refine blk_alloc ?_ _)); refine blk_far ?_ NB356_370.out _; (with_reducible repeat (first | refine blk_drewN ?_ _ | refine blk_drew ?_ | refine blk_alloc ?_ _)); refine blk_far ?_ NB356_370.out _; (with_reducible repeat (first | refine blk_drewN ?_ _ | refine blk_drew ?_ | refine blk_alloc ?_ _)); refine blk_far ?_ NB356_370.out _; (with_reducible repeat (first | refine blk_drewN ?_ _ | refine blk_drew ?_ | refine blk_alloc ?_ _)); refine blk_far ?_ NB356_370.out _; (with_reducible repeat (first | refine blk_drewN ?_ _ | refine blk_drew ?_ | refine blk_alloc ?_ _)); exact BK356.out⟩, ⟨by (with_reducible repeat (first | refine blk_drewN ?_ _ | refine blk_drew ?_ | refine blk_alloc ?_ _)); refine blk_far ?_ NB367_370.out _; (with_reducible repeat (first | refine blk_drewN ?_ _ | refine blk_drew ?_ | refine blk_alloc ?_ _)); refine blk_far ?_ NB367_370.out _; (with_reducible repeat (first | refine blk_drewN ?_ _ | refine blk_drew ?_ | refine blk_alloc ?_ _)); refine blk_far ?_ NB367_370.out _; (with_reducible repeat (first | refine blk_drewN ?_ _ | refine blk_drew ?_ | refine blk_alloc ?_ _)); refine blk_far ?_ NB367_370.out _; (with_reducible repeat (first | refine blk_drewN ?_ _ | refine blk_drew ?_ | refine blk_alloc ?_ _)); refine blk_far ?_ NB367_370.out _; (with_reducible repeat (first | refine blk_drewN ?_ _ | refine blk_drew ?_ | refine blk_alloc ?_ _)); exact BK367.out⟩, ⟨by (with_reducible repeat (first | refine blk_drewN ?_ _ | refine blk_drew ?_ | refine blk_alloc ?_ _)); refine blk_put (cs := #[.int .i64 96, .int .i64 (wrap64 (1 + (Go.bits .and .i64 a2 7))), .int .i64 1, .int .i64 6, .int .i64 0]) ?_ 4 _ rfl; (with_reducible repeat (first | refine blk_drewN ?_ _ | refine blk_drew ?_ | refine blk_alloc ?_ _)); refine blk_put (cs := #[.int .i64 96, .int .i64 (wrap64 (1 + (Go.bits .and .i64 a2 7))), .int .i64 1, .int .i64 0, .int .i64 0]) ?_ 3 _ rfl; (with_reducible repeat (first | refine blk_drewN ?_ _ | refine blk_drew ?_ | refine blk_alloc ?_ _)); refine blk_put (cs := #[.int .i64 96, .int .i64 (wrap64 (1 + (Go.bits .and .i64 a2 7))), .int .i64 0, .int .i64 0, .int .i64 0]) ?_ 2 _ rfl; (with_reducible repeat (first | refine blk_drewN ?_ _ | refine blk_drew ?_ | refine blk_alloc ?_ _)); refine blk_put (cs := #[.int .i64 96, .int .i64 0, .int .i64 0, .int .i64 0, .int .i64 0]) ?_ 1 _ rfl; (with_reducible repeat (first | refine blk_drewN ?_ _ | refine blk_drew ?_ | refine blk_alloc ?_ _)); refine blk_put (cs := #[.int .i64 0, .int .i64 0, .int .i64 0, .int .i64 0, .int .i64 0]) ?_ 0 _ rfl; (with_reducible repeat (first | refine blk_drewN ?_ _ | refine blk_drew ?_ | refine blk_alloc ?_ _)); exact BK370.out⟩, ⟨by repeat (first | (with_reducible first | exact HB.out | apply below_alloc | apply pw_below_drewN | apply below_drew1 | refine below_set ?_ GE354.out | refine below_set ?_ GE356.out | refine below_set ?_ GE367.out | refine below_set ?_ GE370.out) | exact HB.out)⟩⟩
                       ·rw [if_neg c62] at H
                        have c62b0 : ((Go.bits .and .i64 a0 1) == 0) = false := beq_eq_false_iff_ne.mpr c62
                        have c62b1 : ((Go.bits .and .i64 a0 1) != 0) = true := bne_iff_ne.mpr c62
                        have H' := Aside0.mk H
                        clear H
                        go_wp2
                        repeat (go_quiet (fail); try go_wp2)
                        go_meet
                        case rel => exact ⟨_, (false), q15_, H', ⟨by have := HJ17.out; have := HJ28.out; first | omega | exact Nat.le_refl _⟩, ⟨by (with_reducible repeat (first | refine blk_drewN ?_ _ | refine blk_drew ?_ | refine blk_alloc ?_ _)); refine blk_far ?_ NB354_370.out _; (with_reducible repeat (first | refine blk_drewN ?_ _ | refine blk_drew ?_ | refine blk_alloc ?_ _)); refine blk_far ?_ NB354_370.out _; (with_reducible repeat (first | refine blk_drewN ?_ _ | refine blk_drew ?_ | refine blk_alloc ?_ _)); refine blk_far ?_ NB354_370.out _; (with_reducible repeat (first | refine blk_drewN ?_ _ | refine blk_drew ?_ | refine blk_alloc ?_ _)); refine blk_far ?_ NB354_370.out _; (with_reducible repeat (first | refine blk_drewN ?_ _ | refine blk_drew ?_ | refine blk_alloc ?_ _)); refine blk_far ?_ NB354_370.out _; (with_reducible repeat (first | refine blk_drewN ?_ _ | refine blk_drew ?_ | refine blk_alloc ?_ _)); exact BK354.out⟩, ⟨by (with_reducible repeat (first | refine blk_drewN ?_ _ | refine blk_drew ?_ | refine blk_alloc ?_ _)); refine blk_far ?_ NB356_370.out _; (with_reducible repeat (first | refine blk_drewN ?_ _ | refine blk_drew ?_ | refine blk_alloc ?_ _)); refine blk_far ?_ NB356_370.out _; (with_reducible repeat (first | refine blk_drewN ?_ _ | refine blk_drew ?_ | refine blk_alloc ?_ _)); refine blk_far ?_ NB356_370.out _; (with_reducible repeat (first | refine blk_drewN ?_ _ | refine blk_drew ?_ | refine blk_alloc ?_ _)); refine blk_far ?_ NB356_370.out _; (with_reducible repeat (first | refine blk_drewN ?_ _ | refine blk_drew ?_ | refine blk_alloc ?_ _)); refine blk_far ?_ NB356_370.out _; (with_reducible repeat (first | refine blk_drewN ?_ _ | refine blk_drew ?_ | refine blk_alloc ?_ _)); exact BK356.out⟩, ⟨by (with_reducible repeat (first | refine blk_drewN ?_ _ | refine blk_drew ?_ | refine blk_alloc ?_ _)); refine blk_far ?_ NB367_370.out _; (with_reducible repeat (first | refine blk_drewN ?_ _ | refine blk_drew ?_ | refine blk_alloc ?_ _)); refine blk_far ?_ NB367_370.out _; (with_reducible repeat (first | refine blk_drewN ?_ _ | refine blk_drew ?_ | refine blk_alloc ?_ _)); refine blk_far ?_ NB367_370.out _; (with_reducible repeat (first | refine blk_drewN ?_ _ | refine blk_drew ?_ | refine blk_alloc ?_ _)); refine blk_far ?_ NB367_370.out _; (with_reducible repeat (first | refine blk_drewN ?_ _ | refine blk_drew ?_ | refine blk_alloc ?_ _)); refine blk_far ?_ NB367_370.out _; (with_reducible repeat (first | refine blk_drewN ?_ _ | refine blk_drew ?_ | refine blk_alloc ?_ _)); exact BK367.out⟩, ⟨by (with_reducible repeat (first | refine blk_drewN ?_ _ | refine blk_drew ?_ | refine blk_alloc ?_ _)); refine blk_put (cs := #[.int .i64 96, .int .i64 (wrap64 (1 + (Go.bits .and .i64 a2 7))), .int .i64 1, .int .i64 6, .int .i64 0]) ?_ 4 _ rfl; (with_reducible repeat (first | refine blk_drewN ?_ _ | refine blk_drew ?_ | refine blk_alloc ?_ _)); refine blk_put (cs := #[.int .i64 96, .int .i64 (wrap64 (1 + (Go.bits .and .i64 a2 7))), .int .i64 1, .int .i64 0, .int .i64 0]) ?_ 3 _ rfl; (with_reducible repeat (first | refine blk_drewN ?_ _ | refine blk_drew ?_ | refine blk_alloc ?_ _)); refine blk_put (cs := #[.int .i64 96, .int .i64 (wrap64 (1 + (Go.bits .and .i64 a2 7))), .int .i64 0, .int .i64 0, .int .i64 0]) ?_ 2 _ rfl; (with_reducible repeat (first | refine blk_drewN ?_ _ | refine blk_drew ?_ | refine blk_alloc ?_ _)); refine blk_put (cs := #[.int .i64 96, .int .i64 0, .int .i64 0, .int .i64 0, .int .i64 0]) ?_ 1 _ rfl; (with_reducible repeat (first | refine blk_drewN ?_ _ | refine blk_drew ?_ | refine blk_alloc ?_ _)); refine blk_put (cs := #[.int .i64 0, .int .i64 0, .int .i64 0, .int .i64 0, .int .i64 0]) ?_ 0 _ rfl; (with_reducible repeat (first | refine blk_drewN ?_ _ | refine blk_drew ?_ | refine blk_alloc ?_ _)); exact BK370.out⟩, ⟨by repeat (first | (with_reducible first | exact HB.out | apply below_alloc | apply pw_below_drewN | apply below_drew1 | refine below_set ?_ GE354.out | refine below_set ?_ GE356.out | refine below_set ?_ GE367.out | refine below_set ?_ GE370.out) | exact HB.out)⟩⟩
                     case rest =>
                      clear HC43
                      try clear c1
                      try clear c2
                      try clear p2
                      try clear c3
                      try clear c4
                      try clear c5
                      try clear c6
                      try clear p6
                      try clear c7
                      try clear c7b0
                      try clear c7b1
                      try clear c8
                      try clear c8b0
                      try clear c8b1
                      try clear c9
                      try clear c9b0
                      try clear c9b1
                      try clear c9b2
                      try clear c10
                      try clear c10b0
                      try clear c10b1
                      try clear c11
                      try clear c11b0
                      try clear c11b1
                      try clear c12
                      try clear c12b0
                      try clear c12b1
                      try clear c12b2
                      try clear c13
                      try clear c13b0
                      try clear c13b1
                      try clear c13b2
                      try clear c14
                      try clear c14b0
                      try clear c14b1
                      try clear c15
                      try clear c15b0
                      try clear c15b1
                      try clear c15b2
                      try clear c24
                      try clear c26
                      try clear c26b0
                      try clear c26b1
                      try clear c27
                      try clear c30
                      try clear c30b0
                      try clear c30b1
                      try clear c31
                      try clear c35
                      try clear c35b0
                      try clear c35b1
                      try clear c36
                      try clear c36b0
                      try clear c36b1
                      try clear c37
                      try clear c37b0
                      try clear c37b1
                      try clear c37b2
                      try clear c38
                      try clear c38b0
                      try clear c38b1
                      try clear c38b2
                      try clear c39
                      try clear c39b0
                      try clear c39b1
                      try clear c40
                      try clear c40b0
                      try clear c40b1
                      try clear c40b2
                      try clear c44
                      try clear c51
                      try clear c52
                      try clear c57
                      try clear c58
                      try clear c59
                      try clear c61
                      try clear c61b0
                      try clear c61b1
                      try clear c62
                      try clear c62b0
                      try clear c62b1
                      try clear hcz22_0
                      try clear hcz22_1
                      try clear hcz22_2
                      try clear hcz22_3
                      try clear hcz25_0
                      try clear hcz25_1
                      try clear hcz25_2
                      try clear hcz25_3
                      try clear hcz28_0
                      try clear hcz28_1
                      try clear hcz28_2
                      try clear hcz28_3
                      try clear hcz32_0
                      try clear hcz32_1
                      try clear hcz32_2
                      try clear hcz32_3
                      try clear hcz45_0
                      try clear hcz45_1
                      try clear hcz45_2
                      try clear hcz45_3
                      try clear hcz47_0
                      try clear hcz47_1
                      try clear hcz47_2
                      try clear hcz47_3
                      try clear hcz53_0
                      try clear hcz53_1
                      try clear hcz53_2
                      try clear hcz53_3
                      try clear hcz53_4
                      try clear hcz55_0
                      try clear hcz55_1
                      try clear hcz55_2
                      try clear hcz55_3
                      try clear hcz60_0
                      try clear hcz60_1
                      try clear hcz60_2
                      try clear hcz60_3
                      try clear hcz60_4
                      try clear hfz22_0
                      try clear hfz22_1
                      try clear hfz22_2
                      try clear hfz22_3
                      try clear hfz25_0
                      try clear hfz25_1
                      try clear hfz25_2
                      try clear hfz25_3
                      try clear hfz28_0
                      try clear hfz28_1
                      try clear hfz28_2
                      try clear hfz28_3
                      try clear hfz32_0
                      try clear hfz32_1
                      try clear hfz32_2
                      try clear hfz32_3
                      try clear hfz45_0
                      try clear hfz45_1
                      try clear hfz45_2
                      try clear hfz45_3
                      try clear hfz47_0
                      try clear hfz47_1
                      try clear hfz47_2
                      try clear hfz47_3
                      try clear hfz53_0
                      try clear hfz53_1
                      try clear hfz53_2
                      try clear hfz53_3
                      try clear hfz53_4
                      try clear hfz55_0
                      try clear hfz55_1
                      try clear hfz55_2
                      try clear hfz55_3
                      try clear hfz60_0
                      try clear hfz60_1
                      try clear hfz60_2
                      try clear hfz60_3
                      try clear hfz60_4
                      try clear p2
                      try clear p6
                      obtain ⟨kq, x104_42, rfl, HA, HJ42, BK354, BK356, BK367, BK370, HB⟩ := hcut
                      cases kq with
                      | zero => exact absurd HA.out (by simp [skifflaw7_ChooseTable.j2])
                      | succ kj42 =>
                       have H := HA.out
                       clear HA
                       simp only [skifflaw7_ChooseTable.j2] at H
                       have HC63 := Aside0.mk H
                       clear H
                       go_upto_if 104 with (fail)
                       repeat (go_quiet (fail); go_upto_if 104 with (fail))
                       go_cut [21] (fun v21 wc => ∃ (kq : Nat) (x21_62 : Int) (x371000_62 : Int) (x371001_62 : Int) (x371002_62 : Int) (x371003_62 : Int) (x371004_62 : Int), v21 = .int .i64 x21_62 ∧ Aside0 (skifflaw7_ChooseTable.j3 kq a0 t366 t368 t369 x21_62 t361 t362 t363 t364 t365 x371000_62 x371001_62 x371002_62 x371003_62 x371004_62 = some r) ∧ Aside0 (kq ≤ kj42) ∧ Aside0 (wc.heap[gb354]? = some (.cells #[.int .i64 (wrap64 (1 + (Go.bits .and .i64 a1 7))), .int .i64 0, .int .i64 5, .int .i64 x355003_17] 23 (0, 0))) ∧ Aside0 (wc.heap[gb356]? = some (.cells #[.int .i64 (wrap64 (1 + (Go.bits .and .i64 a2 7))), .int .i64 1, .int .i64 6, .int .i64 x357003_28] 23 (0, 0))) ∧ Aside0 (wc.heap[gb367]? = some (.cells #[.int .i64 t361, .int .i64 t362, .int .i64 t363, .int .i64 t364, .int .i64 t365] 25 (0, 0))) ∧ Aside0 (wc.heap[gb370]? = some (.cells #[.int .i64 x371000_62, .int .i64 x371001_62, .int .i64 x371002_62, .int .i64 x371003_62, .int .i64 x371004_62] 25 (0, 0))) ∧ Aside0 (Below w.heap.size w wc))
                       case first =>
                        have H := HC63.out
                        clear HC63
                        by_cases c64 : x104_42 = true
                        ·subst c64
                         have H1 : (skifflaw7_ChooseTable.j3 kj42 a0 t366 t368 t369 1 t361 t362 t363 t364 t365 0 (wrap64 (1 + (Go.bits .and .i64 a1 7))) 0 5 x355003_17) = some r := by rw [if_pos rfl] at H; exact H
                         clear H
                         have H := H1
                         clear H1
                         have H' := Aside0.mk H
                         clear H
                         have hnb65 := NB354_356.out
                         have hnc65 := NB356_354.out
                         have hnb66 := NB354_367.out
                         have hnc66 := NB367_354.out
                         have hnb67 := NB354_370.out
                         have hnc67 := NB370_354.out
                         have hcz68_0 : wc.cell? ⟨gb354, 0, none⟩ = some (.int .i64 (wrap64 (1 + (Go.bits .and .i64 a1 7)))) := (blk_cell BK354.out 0).trans rfl
                         have hcz68_1 : wc.cell? ⟨gb354, 1, none⟩ = some (.int .i64 0) := (blk_cell BK354.out 1).trans rfl
                         have hcz68_2 : wc.cell? ⟨gb354, 2, none⟩ = some (.int .i64 5) := (blk_cell BK354.out 2).trans rfl
                         have hcz68_3 : wc.cell? ⟨gb354, 3, none⟩ = some (.int .i64 x355003_17) := (blk_cell BK354.out 3).trans rfl
                         have hfz68_0 := blk_frozen BK354.out 0
                         have hfz68_1 := blk_frozen BK354.out 1
                         have hfz68_2 := blk_frozen BK354.out 2
                         have hfz68_3 := blk_frozen BK354.out 3
                         have hnb69 := NB370_356.out
                         have hnc69 := NB356_370.out
                         have hnb70 := NB370_367.out
                         have hnc70 := NB367_370.out
                         have hcz71_0 : wc.cell? ⟨gb370, 0, none⟩ = some (.int .i64 96) := (blk_cell BK370.out 0).trans rfl
                         have hcz71_1 : wc.cell? ⟨gb370, 1, none⟩ = some (.int .i64 (wrap64 (1 + (Go.bits .and .i64 a2 7)))) := (blk_cell BK370.out 1).trans rfl
                         have hcz71_2 : wc.cell? ⟨gb370, 2, none⟩ = some (.int .i64 1) := (blk_cell BK370.out 2).trans rfl
                         have hcz71_3 : wc.cell? ⟨gb370, 3, none⟩ = some (.int .i64 6) := (blk_cell BK370.out 3).trans rfl
                         have hcz71_4 : wc.cell? ⟨gb370, 4, none⟩ = some (.int .i64 x357003_28) := (blk_cell BK370.out 4).trans rfl
                         have hfz71_0 := blk_frozen BK370.out 0
                         have hfz71_1 := blk_frozen BK370.out 1
                         have hfz71_2 := blk_frozen BK370.out 2
                         have hfz71_3 := blk_frozen BK370.out 3
                         have hfz71_4 := blk_frozen BK370.out 4
                         go_wp2
                         repeat (go_quiet (fail); try go_wp2)
                         go_meet
                         case rel => exact ⟨_, (1), (0), ((wrap64 (1 + (Go.bits .and .i64 a1 7)))), (0), (5), (x355003_17), q15_, H', ⟨by have := HJ17.out; have := HJ28.out; have := HJ42.out; first | omega | exact Nat.le_refl _⟩, ⟨by (with_reducible repeat (first | refine blk_drewN ?_ _ | refine blk_drew ?_ | refine blk_alloc ?_ _)); refine blk_far ?_ NB354_370.out _; (with_reducible repeat (first | refine blk_drewN ?_ _ | refine blk_drew ?_ | refine blk_alloc ?_ _)); refine blk_far ?_ NB354_370.out _; (with_reducible repeat (first | refine blk_drewN ?_ _ | refine blk_drew ?_ | refine blk_alloc ?_ _)); refine blk_far ?_ NB354_370.out _; (with_reducible repeat (first | refine blk_drewN ?_ _ | refine blk_drew ?_ | refine blk_alloc ?_ _)); refine blk_far ?_ NB354_370.out _; (with_reducible repeat (first | refine blk_drewN ?_ _ | refine blk_drew ?_ | refine blk_alloc ?_ _)); refine blk_far ?_ NB354_370.out _; (with_reducible repeat (first | refine blk_drewN ?_ _ | refine blk_drew ?_ | refine blk_alloc ?_ _)); exact BK354.out⟩, ⟨by (with_reducible repeat (first | refine blk_drewN ?_ _ | refine blk_drew ?_ | refine blk_alloc ?_ _)); refine blk_far ?_ NB356_370.out _; (with_reducible repeat (first | refine blk_drewN ?_ _ | refine blk_drew ?_ | refine blk_alloc ?_ _)); refine blk_far ?_ NB356_370.out _; (with_reducible repeat (first | refine blk_drewN ?_ _ | refine blk_drew ?_ | refine blk_alloc ?_ _)); refine blk_far ?_ NB356_370.out _; (with_reducible repeat (first | refine blk_drewN ?_ _ | refine blk_drew ?_ | refine blk_alloc ?_ _)); refine blk_far ?_ NB356_370.out _; (with_reducible repeat (first | refine blk_drewN ?_ _ | refine blk_drew ?_ | refine blk_alloc ?_ _)); refine blk_far ?_ NB356_370.out _; (with_reducible repeat (first | refine blk_drewN ?_ _ | refine blk_drew ?_ | refine blk_alloc ?_ _)); exact BK356.out⟩, ⟨by (with_reducible repeat (first | refine blk_drewN ?_ _ | refine blk_drew ?_ | refine blk_alloc ?_ _)); refine blk_far ?_ NB367_370.out _; (with_reducible repeat (first | refine blk_drewN ?_ _ | refine blk_drew ?_ | refine blk_alloc ?_ _)); refine blk_far ?_ NB367_370.out _; (with_reducible repeat (first | refine blk_drewN ?_ _ | refine blk_drew ?_ | refine blk_alloc ?_ _)); refine blk_far ?_ NB367_370.out _; (with_reducible repeat (first | refine blk_drewN ?_ _ | refine blk_drew ?_ | refine blk_alloc ?_ _)); refine blk_far ?_ NB367_370.out _; (with_reducible repeat (first | refine blk_drewN ?_ _ | refine blk_drew ?_ | refine blk_alloc ?_ _)); refine blk_far ?_ NB367_370.out _; (with_reducible repeat (first | refine blk_drewN ?_ _ | refine blk_drew ?_ | refine blk_alloc ?_ _)); exact BK367.out⟩, ⟨by (with_reducible repeat (first | refine blk_drewN ?_ _ | refine blk_drew ?_ | refine blk_alloc ?_ _)); refine blk_put (cs := #[.int .i64 0, .int .i64 (wrap64 (1 + (Go.bits .and .i64 a1 7))), .int .i64 0, .int .i64 5, .int .i64 x357003_28]) ?_ 4 _ rfl; (with_reducible repeat (first | refine blk_drewN ?_ _ | refine blk_drew ?_ | refine blk_alloc ?_ _)); refine blk_put (cs := #[.int .i64 0, .int .i64 (wrap64 (1 + (Go.bits .and .i64 a1 7))), .int .i64 0, .int .i64 6, .int .i64 x357003_28]) ?_ 3 _ rfl; (with_reducible repeat (first | refine blk_drewN ?_ _ | refine blk_drew ?_ | refine blk_alloc ?_ _)); refine blk_put (cs := #[.int .i64 0, .int .i64 (wrap64 (1 + (Go.bits .and .i64 a1 7))), .int .i64 1, .int .i64 6, .int .i64 x357003_28]) ?_ 2 _ rfl; (with_reducible repeat (first | refine blk_drewN ?_ _ | refine blk_drew ?_ | refine blk_alloc ?_ _)); refine blk_put (cs := #[.int .i64 0, .int .i64 (wrap64 (1 + (Go.bits .and .i64 a2 7))), .int .i64 1, .int .i64 6, .int .i64 x357003_28]) ?_ 1 _ rfl; (with_reducible repeat (first | refine blk_drewN ?_ _ | refine blk_drew ?_ | refine blk_alloc ?_ _)); refine blk_put (cs := #[.int .i64 96, .int .i64 (wrap64 (1 + (Go.bits .and .i64 a2 7))), .int .i64 1, .int .i64 6, .int .i64 x357003_28]) ?_ 0 _ rfl; (with_reducible repeat (first | refine blk_drewN ?_ _ | refine blk_drew ?_ | refine blk_alloc ?_ _)); exact BK370.out⟩, ⟨by repeat (first | (with_reducible first | exact HB.out | apply below_alloc | apply pw_below_drewN | apply below_drew1 | refine below_set ?_ GE354.out | refine below_set ?_ GE356.out | refine below_set ?_ GE367.out | refine below_set ?_ GE370.out) | exact HB.out)⟩⟩
                        ·replace c64 := Bool.eq_false_iff.mpr c64
                         subst c64
                         have H1 : (skifflaw7_ChooseTable.j3 kj42 a0 t366 t368 t369 0 t361 t362 t363 t364 t365 96 (wrap64 (1 + (Go.bits .and .i64 a2 7))) 1 6 x357003_28) = some r := by rw [if_neg (show ¬ (false = true) by decide)] at H; exact H
                         clear H
                         have H := H1
                         clear H1
                         have H' := Aside0.mk H
                         clear H
                         go_wp2
                         repeat (go_quiet (fail); try go_wp2)
                         go_meet
                         case rel => exact ⟨_, (0), (96), ((wrap64 (1 + (Go.bits .and .i64 a2 7)))), (1), (6), (x357003_28), q15_, H', ⟨by have := HJ17.out; have := HJ28.out; have := HJ42.out; first | omega | exact Nat.le_refl _⟩, ⟨by (with_reducible repeat (first | refine blk_drewN ?_ _ | refine blk_drew ?_ | refine blk_alloc ?_ _)); exact BK354.out⟩, ⟨by (with_reducible repeat (first | refine blk_drewN ?_ _ | refine blk_drew ?_ | refine blk_alloc ?_ _)); exact BK356.out⟩, ⟨by (with_reducible repeat (first | refine blk_drewN ?_ _ | refine blk_drew ?_ | refine blk_alloc ?_ _)); exact BK367.out⟩, ⟨by (with_reducible repeat (first | refine blk_drewN ?_ _ | refine blk_drew ?_ | refine blk_alloc ?_ _)); exact BK370.out⟩, ⟨by repeat (first | (with_reducible first | exact HB.out | apply below_alloc | apply pw_below_drewN | apply below_drew1 | refine below_set ?_ GE354.out | refine below_set ?_ GE356.out | refine below_set ?_ GE367.out | refine below_set ?_ GE370.out) | exact HB.out)⟩⟩
                       case rest =>
                        clear HC63
                        try clear c1
                        try clear c2
                        try clear p2
                        try clear c3
                        try clear c4
                        try clear c5
                        try clear c6
                        try clear p6
                        try clear c7
                        try clear c7b0
                        try clear c7b1
                        try clear c8
                        try clear c8b0
                        try clear c8b1
                        try clear c9
                        try clear c9b0
                        try clear c9b1
                        try clear c9b2
                        try clear c10
                        try clear c10b0
                        try clear c10b1
                        try clear c11
                        try clear c11b0
                        try clear c11b1
                        try clear c12
                        try clear c12b0
                        try clear c12b1
                        try clear c12b2
                        try clear c13
                        try clear c13b0
                        try clear c13b1
                        try clear c13b2
                        try clear c14
                        try clear c14b0
                        try clear c14b1
                        try clear c15
                        try clear c15b0
                        try clear c15b1
                        try clear c15b2
                        try clear c24
                        try clear c26
                        try clear c26b0
                        try clear c26b1
                        try clear c27
                        try clear c30
                        try clear c30b0
                        try clear c30b1
                        try clear c31
                        try clear c35
                        try clear c35b0
                        try clear c35b1
                        try clear c36
                        try clear c36b0
                        try clear c36b1
                        try clear c37
                        try clear c37b0
                        try clear c37b1
                        try clear c37b2
                        try clear c38
                        try clear c38b0
                        try clear c38b1
                        try clear c38b2
                        try clear c39
                        try clear c39b0
                        try clear c39b1
                        try clear c40
                        try clear c40b0
                        try clear c40b1
                        try clear c40b2
                        try clear c44
                        try clear c51
                        try clear c52
                        try clear c57
                        try clear c58
                        try clear c59
                        try clear c61
                        try clear c61b0
                        try clear c61b1
                        try clear c62
                        try clear c62b0
                        try clear c62b1
                        try clear c64
                        try clear p64
                        try clear c65
                        try clear c66
                        try clear c67
                        try clear c69
                        try clear c70
                        try clear hcz22_0
                        try clear hcz22_1
                        try clear hcz22_2
                        try clear hcz22_3
                        try clear hcz25_0
                        try clear hcz25_1
                        try clear hcz25_2
                        try clear hcz25_3
                        try clear hcz28_0
                        try clear hcz28_1
                        try clear hcz28_2
                        try clear hcz28_3
                        try clear hcz32_0
                        try clear hcz32_1
                        try clear hcz32_2
                        try clear hcz32_3
                        try clear hcz45_0
                        try clear hcz45_1
                        try clear hcz45_2
                        try clear hcz45_3
                        try clear hcz47_0
                        try clear hcz47_1
                        try clear hcz47_2
                        try clear hcz47_3
                        try clear hcz53_0
                        try clear hcz53_1
                        try clear hcz53_2
                        try clear hcz53_3
                        try clear hcz53_4
                        try clear hcz55_0
                        try clear hcz55_1
                        try clear hcz55_2
                        try clear hcz55_3
                        try clear hcz60_0
                        try clear hcz60_1
                        try clear hcz60_2
                        try clear hcz60_3
                        try clear hcz60_4
                        try clear hcz68_0
                        try clear hcz68_1
                        try clear hcz68_2
                        try clear hcz68_3
                        try clear hcz71_0
                        try clear hcz71_1
                        try clear hcz71_2
                        try clear hcz71_3
                        try clear hcz71_4
                        try clear hfz22_0
                        try clear hfz22_1
                        try clear hfz22_2
                        try clear hfz22_3
                        try clear hfz25_0
                        try clear hfz25_1
                        try clear hfz25_2
                        try clear hfz25_3
                        try clear hfz28_0
                        try clear hfz28_1
                        try clear hfz28_2
                        try clear hfz28_3
                        try clear hfz32_0
                        try clear hfz32_1
                        try clear hfz32_2
                        try clear hfz32_3
                        try clear hfz45_0
                        try clear hfz45_1
                        try clear hfz45_2
                        try clear hfz45_3
                        try clear hfz47_0
                        try clear hfz47_1
                        try clear hfz47_2
                        try clear hfz47_3
                        try clear hfz53_0
                        try clear hfz53_1
                        try clear hfz53_2
                        try clear hfz53_3
                        try clear hfz53_4
                        try clear hfz55_0
                        try clear hfz55_1
                        try clear hfz55_2
                        try clear hfz55_3
                        try clear hfz60_0
                        try clear hfz60_1
                        try clear hfz60_2
                        try clear hfz60_3
                        try clear hfz60_4
                        try clear hfz68_0
                        try clear hfz68_1
                        try clear hfz68_2
                        try clear hfz68_3
                        try clear hfz71_0
                        try clear hfz71_1
                        try clear hfz71_2
                        try clear hfz71_3
                        try clear hfz71_4
                        try clear p2
                        try clear p6
                        obtain ⟨kq, x21_62, x371000_62, x371001_62, x371002_62, x371003_62, x371004_62, rfl, HA, HJ62, BK354, BK356, BK367, BK370, HB⟩ := hcut
                        cases kq with
                        | zero => exact absurd HA.out (by simp [skifflaw7_ChooseTable.j3])
                        | succ kj62 =>
                         have H := HA.out
                         clear HA
                         simp only [skifflaw7_ChooseTable.j3] at H
                         by_cases c72 : (Go.bits .and .i64 a0 3) = 3
                         ·rw [if_pos c72] at H
                          have c72b0 : ((Go.bits .and .i64 a0 3) == 3) = true := beq_iff_eq.mpr c72
                          have c72b1 : ((Go.bits .and .i64 a0 3) != 3) = false := bne_eq_false_iff_eq.mpr c72
                          clear c72
                          replace H := Option.bind_eq_some_iff.mp H
                          obtain ⟨t371, A730, H⟩ := H
                          replace H : (if t371 = 701 then (if (t361 == 0 && ((t362 == 0 && (t363 == 0 && (t364 == 0 && (t365 == 0)))))) = true then (if t368 = 0 then ((skifflaw0_Num.f t369).bind fun t372 => (some (t372 == 0))) else (none)) else (none)) else (none)) = some r := H
                          have A73 := Aside0.mk A730
                          clear A730
                          by_cases c74 : t371 = 701
                          ·rw [if_pos c74] at H
                           have c74b0 : (t371 == 701) = true := beq_iff_eq.mpr c74
                           have c74b1 : (t371 != 701) = false := bne_eq_false_iff_eq.mpr c74
                           clear c74
                           by_cases c75 : (t361 == 0 && ((t362 == 0 && (t363 == 0 && (t364 == 0 && (t365 == 0)))))) = true
                           ·rw [if_pos c75] at H
                            have c75b0 : (t361 == 0 && ((t362 == 0 && (t363 == 0 && (t364 == 0 && (t365 == 0)))))) = true := c75
                            (try (have c75b1 : decide (t361 = 0 && ((t362 == 0 && (t363 == 0 && (t364 == 0 && (t365 == 0)))))) = true := by simpa using c75))
                            (try (have c75b2 : (t361 == 0 && ((t362 == 0 && (t363 == 0 && (t364 == 0 && (t365 == 0)))))) = true := by simpa using c75))
                            clear c75
                            by_cases c76 : t368 = 0
                            ·rw [if_pos c76] at H
                             have c76b0 : (t368 == 0) = true := beq_iff_eq.mpr c76
                             have c76b1 : (t368 != 0) = false := bne_eq_false_iff_eq.mpr c76
                             clear c76
                             replace H := Option.bind_eq_some_iff.mp H
                             obtain ⟨t372, A770, H⟩ := H
                             replace H : (some (t372 == 0)) = some r := H
                             have A77 := Aside0.mk A770
                             clear A770
                             obtain rfl := Option.some.inj H
                             go_wp2_with (first | (go_at_call 13; (with_reducible refine (skifflaw0_Num.calls t366 t371 _ A73.out).mono ?_); rintro e w' ⟨rfl, ⟨nd, rfl⟩⟩; (try first | exact ⟨rfl, _, World.drewN_drewN _ _ _⟩ | exact ⟨rfl, _, Eq.trans (World.drewN_drewN _ _ _) (congrArg (World.drewN _) (Nat.add_assoc _ _ _))⟩); have hnb78 := NB367_354.out; have hnc78 := NB354_367.out; have hnb79 := NB367_356.out; have hnc79 := NB356_367.out; have hnb80 := NB367_370.out; have hnc80 := NB370_367.out; have hcz81_0 : wc.cell? ⟨gb367, 0, none⟩ = some (.int .i64 t361) := (blk_cell BK367.out 0).trans rfl; have hcz81_1 : wc.cell? ⟨gb367, 1, none⟩ = some (.int .i64 t362) := (blk_cell BK367.out 1).trans rfl; have hcz81_2 : wc.cell? ⟨gb367, 2, none⟩ = some (.int .i64 t363) := (blk_cell BK367.out 2).trans rfl; have hcz81_3 : wc.cell? ⟨gb367, 3, none⟩ = some (.int .i64 t364) := (blk_cell BK367.out 3).trans rfl; have hcz81_4 : wc.cell? ⟨gb367, 4, none⟩ = some (.int .i64 t365) := (blk_cell BK367.out 4).trans rfl; have hfz81_0 := blk_frozen BK367.out 0; have hfz81_1 := blk_frozen BK367.out 1; have hfz81_2 := blk_frozen BK367.out 2; have hfz81_3 := blk_frozen BK367.out 3; have hfz81_4 := blk_frozen BK367.out 4) | (go_at_call 13; (with_reducible refine (skifflaw0_Num.calls t369 t372 _ A77.out).mono ?_); rintro e w' ⟨rfl, ⟨nd, rfl⟩⟩; (try first | exact ⟨rfl, _, World.drewN_drewN _ _ _⟩ | exact ⟨rfl, _, Eq.trans (World.drewN_drewN _ _ _) (congrArg (World.drewN _) (Nat.add_assoc _ _ _))⟩)))
                             repeat (go_quiet (first | (go_at_call 13; (with_reducible refine (skifflaw0_Num.calls t366 t371 _ A73.out).mono ?_); rintro e w' ⟨rfl, ⟨nd, rfl⟩⟩; (try first | exact ⟨rfl, _, World.drewN_drewN _ _ _⟩ | exact ⟨rfl, _, Eq.trans (World.drewN_drewN _ _ _) (congrArg (World.drewN _) (Nat.add_assoc _ _ _))⟩); have hnb78 := NB367_354.out; have hnc78 := NB354_367.out; have hnb79 := NB367_356.out; have hnc79 := NB356_367.out; have hnb80 := NB367_370.out; have hnc80 := NB370_367.out; have hcz81_0 : wc.cell? ⟨gb367, 0, none⟩ = some (.int .i64 t361) := (blk_cell BK367.out 0).trans rfl; have hcz81_1 : wc.cell? ⟨gb367, 1, none⟩ = some (.int .i64 t362) := (blk_cell BK367.out 1).trans rfl; have hcz81_2 : wc.cell? ⟨gb367, 2, none⟩ = some (.int .i64 t363) := (blk_cell BK367.out 2).trans rfl; have hcz81_3 : wc.cell? ⟨gb367, 3, none⟩ = some (.int .i64 t364) := (blk_cell BK367.out 3).trans rfl; have hcz81_4 : wc.cell? ⟨gb367, 4, none⟩ = some (.int .i64 t365) := (blk_cell BK367.out 4).trans rfl; have hfz81_0 := blk_frozen BK367.out 0; have hfz81_1 := blk_frozen BK367.out 1; have hfz81_2 := blk_frozen BK367.out 2; have hfz81_3 := blk_frozen BK367.out 3; have hfz81_4 := blk_frozen BK367.out 4) | (go_at_call 13; (with_reducible refine (skifflaw0_Num.calls t369 t372 _ A77.out).mono ?_); rintro e w' ⟨rfl, ⟨nd, rfl⟩⟩; (try first | exact ⟨rfl, _, World.drewN_drewN _ _ _⟩ | exact ⟨rfl, _, Eq.trans (World.drewN_drewN _ _ _) (congrArg (World.drewN _) (Nat.add_assoc _ _ _))⟩))); try go_wp2_with (first | (go_at_call 13; (with_reducible refine (skifflaw0_Num.calls t366 t371 _ A73.out).mono ?_); rintro e w' ⟨rfl, ⟨nd, rfl⟩⟩; (try first | exact ⟨rfl, _, World.drewN_drewN _ _ _⟩ | exact ⟨rfl, _, Eq.trans (World.drewN_drewN _ _ _) (congrArg (World.drewN _) (Nat.add_assoc _ _ _))⟩); have hnb78 := NB367_354.out; have hnc78 := NB354_367.out; have hnb79 := NB367_356.out; have hnc79 := NB356_367.out; have hnb80 := NB367_370.out; have hnc80 := NB370_367.out; have hcz81_0 : wc.cell? ⟨gb367, 0, none⟩ = some (.int .i64 t361) := (blk_cell BK367.out 0).trans rfl; have hcz81_1 : wc.cell? ⟨gb367, 1, none⟩ = some (.int .i64 t362) := (blk_cell BK367.out 1).trans rfl; have hcz81_2 : wc.cell? ⟨gb367, 2, none⟩ = some (.int .i64 t363) := (blk_cell BK367.out 2).trans rfl; have hcz81_3 : wc.cell? ⟨gb367, 3, none⟩ = some (.int .i64 t364) := (blk_cell BK367.out 3).trans rfl; have hcz81_4 : wc.cell? ⟨gb367, 4, none⟩ = some (.int .i64 t365) := (blk_cell BK367.out 4).trans rfl; have hfz81_0 := blk_frozen BK367.out 0; have hfz81_1 := blk_frozen BK367.out 1; have hfz81_2 := blk_frozen BK367.out 2; have hfz81_3 := blk_frozen BK367.out 3; have hfz81_4 := blk_frozen BK367.out 4) | (go_at_call 13; (with_reducible refine (skifflaw0_Num.calls t369 t372 _ A77.out).mono ?_); rintro e w' ⟨rfl, ⟨nd, rfl⟩⟩; (try first | exact ⟨rfl, _, World.drewN_drewN _ _ _⟩ | exact ⟨rfl, _, Eq.trans (World.drewN_drewN _ _ _) (congrArg (World.drewN _) (Nat.add_assoc _ _ _))⟩))))
                             go_ret
                             exact ⟨by first | rfl | (simp [errW_none, errW_some] <;> rfl) | (simp [*, errW_none, errW_some] <;> rfl), by repeat (first | (with_reducible first | exact HB.out | apply below_alloc | apply pw_below_drewN | apply below_drew1 | refine below_set ?_ GE354.out | refine below_set ?_ GE356.out | refine below_set ?_ GE367.out | refine below_set ?_ GE370.out) | exact HB.out)⟩
                            ·rw [if_neg c76] at H
                             exact absurd H (by simp)
                           ·rw [if_neg c75] at H
                            exact absurd H (by simp)
                          ·rw [if_neg c74] at H
                           exact absurd H (by simp)
                         ·rw [if_neg c72] at H
                          have c72b0 : ((Go.bits .and .i64 a0 3) == 3) = false := beq_eq_false_iff_ne.mpr c72
                          have c72b1 : ((Go.bits .and .i64 a0 3) != 3) = true := bne_iff_ne.mpr c72
                          replace H := Option.bind_eq_some_iff.mp H
                          obtain ⟨t373, A820, H⟩ := H
                          replace H : (if t373 = 0 then (if (t361 == x371000_62 && ((t362 == x371001_62 && (t363 == x371002_62 && (t364 == x371003_62 && (t365 == x371004_62)))))) = true then (if t368 = x21_62 then ((skifflaw0_Num.f t369).bind fun t374 => (some (t374 == 0))) else (none)) else (none)) else (none)) = some r := H
                          have A82 := Aside0.mk A820
                          clear A820
                          by_cases c83 : t373 = 0
                          ·rw [if_pos c83] at H
                           have c83b0 : (t373 == 0) = true := beq_iff_eq.mpr c83
                           have c83b1 : (t373 != 0) = false := bne_eq_false_iff_eq.mpr c83
                           clear c83
                           by_cases c84 : (t361 == x371000_62 && ((t362 == x371001_62 && (t363 == x371002_62 && (t364 == x371003_62 && (t365 == x371004_62)))))) = true
                           ·rw [if_pos c84] at H
                            have c84b0 : (t361 == x371000_62 && ((t362 == x371001_62 && (t363 == x371002_62 && (t364 == x371003_62 && (t365 == x371004_62)))))) = true := c84
                            (try (have c84b1 : decide (t361 = x371000_62 && ((t362 == x371001_62 && (t363 == x371002_62 && (t364 == x371003_62 && (t365 == x371004_62)))))) = true := by simpa using c84))
                            (try (have c84b2 : (t361 == x371000_62 && ((t362 == x371001_62 && (t363 == x371002_62 && (t364 == x371003_62 && (t365 == x371004_62)))))) = true := by simpa using c84))
                            clear c84
                            by_cases c85 : t368 = x21_62
                            ·rw [if_pos c85] at H
                             have c85b0 : (t368 == x21_62) = true := beq_iff_eq.mpr c85
                             have c85b1 : (t368 != x21_62) = false := bne_eq_false_iff_eq.mpr c85
                             clear c85
                             replace H := Option.bind_eq_some_iff.mp H
                             obtain ⟨t374, A860, H⟩ := H
                             replace H : (some (t374 == 0)) = some r := H
                             have A86 := Aside0.mk A860
                             clear A860
                             obtain rfl := Option.some.inj H
                             go_wp2_with (first | (go_at_call 13; (with_reducible refine (skifflaw0_Num.calls t366 t373 _ A82.out).mono ?_); rintro e w' ⟨rfl, ⟨nd, rfl⟩⟩; (try first | exact ⟨rfl, _, World.drewN_drewN _ _ _⟩ | exact ⟨rfl, _, Eq.trans (World.drewN_drewN _ _ _) (congrArg (World.drewN _) (Nat.add_assoc _ _ _))⟩); have hnb87 := NB367_354.out; have hnc87 := NB354_367.out; have hnb88 := NB367_356.out; have hnc88 := NB356_367.out; have hnb89 := NB367_370.out; have hnc89 := NB370_367.out; have hcz90_0 : wc.cell? ⟨gb367, 0, none⟩ = some (.int .i64 t361) := (blk_cell BK367.out 0).trans rfl; have hcz90_1 : wc.cell? ⟨gb367, 1, none⟩ = some (.int .i64 t362) := (blk_cell BK367.out 1).trans rfl; have hcz90_2 : wc.cell? ⟨gb367, 2, none⟩ = some (.int .i64 t363) := (blk_cell BK367.out 2).trans rfl; have hcz90_3 : wc.cell? ⟨gb367, 3, none⟩ = some (.int .i64 t364) := (blk_cell BK367.out 3).trans rfl; have hcz90_4 : wc.cell? ⟨gb367, 4, none⟩ = some (.int .i64 t365) := (blk_cell BK367.out 4).trans rfl; have hfz90_0 := blk_frozen BK367.out 0; have hfz90_1 := blk_frozen BK367.out 1; have hfz90_2 := blk_frozen BK367.out 2; have hfz90_3 := blk_frozen BK367.out 3; have hfz90_4 := blk_frozen BK367.out 4; have hnb91 := NB370_354.out; have hnc91 := NB354_370.out; have hnb92 := NB370_356.out; have hnc92 := NB356_370.out; have hcz93_0 : wc.cell? ⟨gb370, 0, none⟩ = some (.int .i64 x371000_62) := (blk_cell BK370.out 0).trans rfl; have hcz93_1 : wc.cell? ⟨gb370, 1, none⟩ = some (.int .i64 x371001_62) := (blk_cell BK370.out 1).trans rfl; have hcz93_2 : wc.cell? ⟨gb370, 2, none⟩ = some (.int .i64 x371002_62) := (blk_cell BK370.out 2).trans rfl; have hcz93_3 : wc.cell? ⟨gb370, 3, none⟩ = some (.int .i64 x371003_62) := (blk_cell BK370.out 3).trans rfl; have hcz93_4 : wc.cell? ⟨gb370, 4, none⟩ = some (.int .i64 x371004_62) := (blk_cell BK370.out 4).trans rfl; have hfz93_0 := blk_frozen BK370.out 0; have hfz93_1 := blk_frozen BK370.out 1; have hfz93_2 := blk_frozen BK370.out 2; have hfz93_3 := blk_frozen BK370.out 3; have hfz93_4 := blk_frozen BK370.out 4) | (go_at_call 13; (with_reducible refine (skifflaw0_Num.calls t369 t374 _ A86.out).mono ?_); rintro e w' ⟨rfl, ⟨nd, rfl⟩⟩; (try first | exact ⟨rfl, _, World.drewN_drewN _ _ _⟩ | exact ⟨rfl, _, Eq.trans (World.drewN_drewN _ _ _) (congrArg (World.drewN _) (Nat.add_assoc _ _ _))⟩)))
                             repeat (go_quiet (first | (go_at_call 13; (with_reducible refine (skifflaw0_Num.calls t366 t373 _ A82.out).mono ?_); rintro e w' ⟨rfl, ⟨nd, rfl⟩⟩; (try first | exact ⟨rfl, _, World.drewN_drewN _ _ _⟩ | exact ⟨rfl, _, Eq.trans (World.drewN_drewN _ _ _) (congrArg (World.drewN _) (Nat.add_assoc _ _ _))⟩); have hnb87 := NB367_354.out; have hnc87 := NB354_367.out; have hnb88 := NB367_356.out; have hnc88 := NB356_367.out; have hnb89 := NB367_370.out; have hnc89 := NB370_367.out; have hcz90_0 : wc.cell? ⟨gb367, 0, none⟩ = some (.int .i64 t361) := (blk_cell BK367.out 0).trans rfl; have hcz90_1 : wc.cell? ⟨gb367, 1, none⟩ = some (.int .i64 t362) := (blk_cell BK367.out 1).trans rfl; have hcz90_2 : wc.cell? ⟨gb367, 2, none⟩ = some (.int .i64 t363) := (blk_cell BK367.out 2).trans rfl; have hcz90_3 : wc.cell? ⟨gb367, 3, none⟩ = some (.int .i64 t364) := (blk_cell BK367.out 3).trans rfl; have hcz90_4 : wc.cell? ⟨gb367, 4, none⟩ = some (.int .i64 t365) := (blk_cell BK367.out 4).trans rfl; have hfz90_0 := blk_frozen BK367.out 0; have hfz90_1 := blk_frozen BK367.out 1; have hfz90_2 := blk_frozen BK367.out 2; have hfz90_3 := blk_frozen BK367.out 3; have hfz90_4 := blk_frozen BK367.out 4; have hnb91 := NB370_354.out; have hnc91 := NB354_370.out; have hnb92 := NB370_356.out; have hnc92 := NB356_370.out; have hcz93_0 : wc.cell? ⟨gb370, 0, none⟩ = some (.int .i64 x371000_62) := (blk_cell BK370.out 0).trans rfl; have hcz93_1 : wc.cell? ⟨gb370, 1, none⟩ = some (.int .i64 x371001_62) := (blk_cell BK370.out 1).trans rfl; have hcz93_2 : wc.cell? ⟨gb370, 2, none⟩ = some (.int .i64 x371002_62) := (blk_cell BK370.out 2).trans rfl; have hcz93_3 : wc.cell? ⟨gb370, 3, none⟩ = some (.int .i64 x371003_62) := (blk_cell BK370.out 3).trans rfl; have hcz93_4 : wc.cell? ⟨gb370, 4, none⟩ = some (.int .i64 x371004_62) := (blk_cell BK370.out 4).trans rfl; have hfz93_0 := blk_frozen BK370.out 0; have hfz93_1 := blk_frozen BK370.out 1; have hfz93_2 := blk_frozen BK370.out 2; have hfz93_3 := blk_frozen BK370.out 3; have hfz93_4 := blk_frozen BK370.out 4) | (go_at_call 13; (with_reducible refine (skifflaw0_Num.calls t369 t374 _ A86.out).mono ?_); rintro e w' ⟨rfl, ⟨nd, rfl⟩⟩; (try first | exact ⟨rfl, _, World.drewN_drewN _ _ _⟩ | exact ⟨rfl, _, Eq.trans (World.drewN_drewN _ _ _) (congrArg (World.drewN _) (Nat.add_assoc _ _ _))⟩))); try go_wp2_with (first | (go_at_call 13; (with_reducible refine (skifflaw0_Num.calls t366 t373 _ A82.out).mono ?_); rintro e w' ⟨rfl, ⟨nd, rfl⟩⟩; (try first | exact ⟨rfl, _, World.drewN_drewN _ _ _⟩ | exact ⟨rfl, _, Eq.trans (World.drewN_drewN _ _ _) (congrArg (World.drewN _) (Nat.add_assoc _ _ _))⟩); have hnb87 := NB367_354.out; have hnc87 := NB354_367.out; have hnb88 := NB367_356.out; have hnc88 := NB356_367.out; have hnb89 := NB367_370.out; have hnc89 := NB370_367.out; have hcz90_0 : wc.cell? ⟨gb367, 0, none⟩ = some (.int .i64 t361) := (blk_cell BK367.out 0).trans rfl; have hcz90_1 : wc.cell? ⟨gb367, 1, none⟩ = some (.int .i64 t362) := (blk_cell BK367.out 1).trans rfl; have hcz90_2 : wc.cell? ⟨gb367, 2, none⟩ = some (.int .i64 t363) := (blk_cell BK367.out 2).trans rfl; have hcz90_3 : wc.cell? ⟨gb367, 3, none⟩ = some (.int .i64 t364) := (blk_cell BK367.out 3).trans rfl; have hcz90_4 : wc.cell? ⟨gb367, 4, none⟩ = some (.int .i64 t365) := (blk_cell BK367.out 4).trans rfl; have hfz90_0 := blk_frozen BK367.out 0; have hfz90_1 := blk_frozen BK367.out 1; have hfz90_2 := blk_frozen BK367.out 2; have hfz90_3 := blk_frozen BK367.out 3; have hfz90_4 := blk_frozen BK367.out 4; have hnb91 := NB370_354.out; have hnc91 := NB354_370.out; have hnb92 := NB370_356.out; have hnc92 := NB356_370.out; have hcz93_0 : wc.cell? ⟨gb370, 0, none⟩ = some (.int .i64 x371000_62) := (blk_cell BK370.out 0).trans rfl; have hcz93_1 : wc.cell? ⟨gb370, 1, none⟩ = some (.int .i64 x371001_62) := (blk_cell BK370.out 1).trans rfl; have hcz93_2 : wc.cell? ⟨gb370, 2, none⟩ = some (.int .i64 x371002_62) := (blk_cell BK370.out 2).trans rfl; have hcz93_3 : wc.cell? ⟨gb370, 3, none⟩ = some (.int .i64 x371003_62) := (blk_cell BK370.out 3).trans rfl; have hcz93_4 : wc.cell? ⟨gb370, 4, none⟩ = some (.int .i64 x371004_62) := (blk_cell BK370.out 4).trans rfl; have hfz93_0 := blk_frozen BK370.out 0; have hfz93_1 := blk_frozen BK370.out 1; have hfz93_2 := blk_frozen BK370.out 2; have hfz93_3 := blk_frozen BK370.out 3; have hfz93_4 := blk_frozen BK370.out 4) | (go_at_call 13; (with_reducible refine (skifflaw0_Num.calls t369 t374 _ A86.out).mono ?_); rintro e w' ⟨rfl, ⟨nd, rfl⟩⟩; (try first | exact ⟨rfl, _, World.drewN_drewN _ _ _⟩ | exact ⟨rfl, _, Eq.trans (World.drewN_drewN _ _ _) (congrArg (World.drewN _) (Nat.add_assoc _ _ _))⟩))))
                             go_ret
                             exact ⟨by first | rfl | (simp [errW_none, errW_some] <;> rfl) | (simp [*, errW_none, errW_some] <;> rfl), by repeat (first | (with_reducible first | exact HB.out | apply below_alloc | apply pw_below_drewN | apply below_drew1 | refine below_set ?_ GE354.out | refine below_set ?_ GE356.out | refine below_set ?_ GE367.out | refine below_set ?_ GE370.out) | exact HB.out)⟩
                            ·rw [if_neg c85] at H
                             exact absurd H (by simp)
                           ·rw [if_neg c84] at H
                            exact absurd H (by simp)
                          ·rw [if_neg c83] at H
                           exact absurd H (by simp)
                    ·rw [if_neg c40] at H
                     exact absurd H (by simp)
                   ·rw [if_neg c39] at H
                    exact absurd H (by simp)
                  ·rw [if_neg c38] at H
                   exact absurd H (by simp)
                 ·rw [if_neg c37] at H
                  exact absurd H (by simp)
                ·rw [if_neg c36] at H
                 exact absurd H (by simp)
               ·rw [if_neg c35] at H
                exact absurd H (by simp)
          ·rw [if_neg c15] at H
           exact absurd H (by simp)
         ·rw [if_neg c14] at H
          exact absurd H (by simp)
        ·rw [if_neg c13] at H
         exact absurd H (by simp)
       ·rw [if_neg c12] at H
        exact absurd H (by simp)
      ·rw [if_neg c11] at H
       exact absurd H (by simp)
     ·rw [if_neg c10] at H
      exact absurd H (by simp)
    ·rw [if_neg c9] at H
     exact absurd H (by simp)
   ·rw [if_neg c8] at H
    exact absurd H (by simp)
  ·rw [if_neg c7] at H
   exact absurd H (by simp)
 ·replace c5 := Bool.eq_false_iff.mpr c5
  subst c5
  have H1 : (none) = some r := by rw [if_neg (show ¬ (false = true) by decide)] at H; exact H
  clear H
  have H := H1
  clear H1
  exact absurd H (by simp)
/-- THE ONE PURE STATEMENT of skifflaw7_ChooseTable: yours. -/
def skifflaw7_ChooseTable.Pure : Prop := ∀ (a0 : Int) (a1 : Int) (a2 : Int), (Lit.int .i64 a0).wf = true → (Lit.int .i64 a1).wf = true → (Lit.int .i64 a2).wf = true → ∃ k, skifflaw7_ChooseTable.f k a0 a1 a2 = some true
theorem skifflaw7_ChooseTable.walk (P : skifflaw7_ChooseTable.Pure) (a0 : Int) (a1 : Int) (a2 : Int) (w : World) (w0 : (Lit.int .i64 a0).wf = true) (w1 : (Lit.int .i64 a1).wf = true) (w2 : (Lit.int .i64 a2).wf = true) :
  Calls Try.prog 5 #[.int .i64 a0, .int .i64 a1, .int .i64 a2] w fun e w' => e = .returned (.bool true) ∧ Below w.heap.size w w' := by
 obtain ⟨k, h⟩ := P a0 a1 a2 w0 w1 w2
 refine (skifflaw7_ChooseTable.calls k a0 a1 a2 true w h).mono ?_
 rintro e w' ⟨rfl, hd⟩
 exact ⟨rfl, hd⟩
end Go.Proofs.Ytjadcjkjpkkmkaa.PAll

/- Plain facts on bytes: what and, or, and-not of bytes are, bit by bit; no program in sight. -/
set_option linter.unnecessarySimpa false
set_option linter.unusedSimpArgs false
set_option linter.unusedVariables false
namespace Go.Proofs.Ytjadcjkjpkkmkaa.M
open Go.RowKit
abbrev B (x : Int) : BitVec 8 := BitVec.ofInt 8 x
theorem wrap8 (b : BitVec 8) : IntKind.u8.wrap (b.toNat : Int) = b.toNat := by
 rw [IntKind.wrap_u8]; have := b.isLt; omega
theorem bits_and_u8 (x y : Int) : Go.bits .and .u8 x y = ((B x &&& B y).toNat : Int) := wrap8 _
theorem bits_or_u8 (x y : Int) : Go.bits .or .u8 x y = ((B x ||| B y).toNat : Int) := wrap8 _
theorem bits_xor_u8 (x y : Int) : Go.bits .xor .u8 x y = ((B x ^^^ B y).toNat : Int) := wrap8 _
theorem bits_andNot_u8 (x y : Int) : Go.bits .andNot .u8 x y = ((B x &&& ~~~B y).toNat : Int) := wrap8 _
theorem B_toNat (b : BitVec 8) : B (b.toNat : Int) = b := by simp [B]
theorem toNat_B (x : Int) (h0 : 0 ≤ x) (h1 : x < 256) : ((B x).toNat : Int) = x := by
 obtain ⟨n, rfl⟩ := Int.eq_ofNat_of_zero_le h0
 simp [B]; omega
theorem B_pow (m : Nat) : B (2 ^ m % 256) = 1#8 <<< m := by
 apply BitVec.eq_of_toNat_eq
 have : ((2 : Int) ^ m % 256) = ((2 ^ m % 256 : Nat) : Int) := by simp
 simp only [B, this, BitVec.ofInt_natCast, BitVec.toNat_ofNat, BitVec.toNat_shiftLeft, Nat.shiftLeft_eq]
 simp
theorem B_mask (m : Nat) : B ((255 * 2 ^ m) % 256) = 255#8 <<< m := by
 apply BitVec.eq_of_toNat_eq
 have : ((255 : Int) * 2 ^ m % 256) = ((255 * 2 ^ m % 256 : Nat) : Int) := by simp
 simp only [B, this, BitVec.ofInt_natCast, BitVec.toNat_ofNat, BitVec.toNat_shiftLeft, Nat.shiftLeft_eq]
 simp
/-- Is bit m of x none? as the reference asks. -/
theorem zero_bit (x : Int) (h0 : 0 ≤ x) (h1 : x < 256) (m : Nat) (hm : m < 8) : (Go.bits .and .u8 (x / 2 ^ m) 1 == 0) = !(B x).getLsbD m := by
 obtain ⟨n, rfl⟩ := Int.eq_ofNat_of_zero_le h0
 have hn : n < 256 := by omega
 have e1 : ((n : Int) / 2 ^ m) = ((n / 2 ^ m : Nat) : Int) := by simp
 have hd : n / 2 ^ m < 256 := Nat.lt_of_le_of_lt (Nat.div_le_self _ _) hn
 rw [e1, bits_and_u8]
 have e2 : (B ((n / 2 ^ m : Nat) : Int) &&& B 1).toNat = n / 2 ^ m % 2 := by
  simp only [B, BitVec.ofInt_natCast, BitVec.toNat_and, BitVec.toNat_ofNat]
  rw [Nat.mod_eq_of_lt hd, show ((BitVec.ofInt 8 1).toNat) = 1 from rfl, Nat.and_one_is_mod]
 rw [e2]
 have e3 : (B (n : Int)).getLsbD m = n.testBit m := by
  show (BitVec.ofInt 8 (n : Int)).getLsbD m = _
  rw [BitVec.ofInt_natCast, BitVec.getLsbD_ofNat]; simp [hm]
 rw [e3, Nat.testBit_eq_decide_div_mod_eq]
 rcases Nat.mod_two_eq_zero_or_one (n / 2 ^ m) with h | h <;> simp [h]
/-- A byte of which the lowest n bits have been programmed, one by one, as the reference does it. -/
def clr (b w : Int) : Nat → Int
 | 0 => b
 | n + 1 => if (Go.bits .and .u8 (w / 2 ^ n) 1 == 0) = true then Go.bits .andNot .u8 (clr b w n) (2 ^ n % 256) else clr b w n
theorem clr_range (b w : Int) (h0 : 0 ≤ b) (h1 : b < 256) (n : Nat) : 0 ≤ clr b w n ∧ clr b w n < 256 := by
 induction n with
 | zero => exact ⟨h0, h1⟩
 | succ n ih =>
  rw [clr]
  split
  ·rw [bits_andNot_u8]; have := (B (clr b w n) &&& ~~~B (2 ^ n % 256)).isLt; omega
  ·exact ih
theorem clr_bit (b w : Int) (h0 : 0 ≤ w) (h1 : w < 256) (n : Nat) (hn : n ≤ 8) (i : Nat) (hi : i < 8) : (B (clr b w n)).getLsbD i = ((B b).getLsbD i && (decide (n ≤ i) || (B w).getLsbD i)) := by
 induction n with
 | zero => simp [clr]
 | succ n ih =>
  have ih := ih (by omega)
  rw [clr, zero_bit w h0 h1 n (by omega)]
  by_cases hw : (B w).getLsbD n = true
  ·rw [if_neg (by simp [hw]), ih]
   by_cases e : n = i
   ·subst e; simp [hw]
   ·have : decide (n ≤ i) = decide (n + 1 ≤ i) := by simp; omega
    rw [this]
  ·have hw' : (B w).getLsbD n = false := by simpa using hw
   rw [if_pos (by simp [hw']), bits_andNot_u8, B_toNat, B_pow]
   rw [BitVec.getLsbD_and, BitVec.getLsbD_not, ih]
   have e1 : (1#8 <<< n).getLsbD i = decide (n = i) := by
    rw [BitVec.getLsbD_shiftLeft]
    by_cases e : n = i
    ·subst e; simp [hi]
    ·by_cases h : i < n
     ·simp [h, e]
     ·have : 0 < i - n := by omega
      simp [hi, h, e, BitVec.getLsbD_one]
      omega
   rw [e1]
   by_cases e : n = i
   ·subst e; rw [hw']; simp
   ·have : decide (n ≤ i) = decide (n + 1 ≤ i) := by simp; omega
    simp [this, hi, e]
theorem mask_bit (b w : Int) (n i : Nat) (hi : i < 8) : (B (Go.bits .and .u8 b (Go.bits .or .u8 w ((255 * 2 ^ n) % 256)))).getLsbD i = ((B b).getLsbD i && (decide (n ≤ i) || (B w).getLsbD i)) := by
 rw [bits_or_u8, bits_and_u8, B_toNat, B_toNat, B_mask, BitVec.getLsbD_and, BitVec.getLsbD_or]
 have e1 : (255#8 <<< n).getLsbD i = decide (n ≤ i) := by
  rw [BitVec.getLsbD_shiftLeft]
  by_cases h : i < n
  ·simp [h]
  ·have h2 : n ≤ i := by omega
   have h3 : (255#8).getLsbD (i - n) = true := by
    have h4 : i - n < 8 := by omega
    have : ∀ j, j < 8 → (255#8).getLsbD j = true := by decide
    exact this _ h4
   simp [hi, h, h2, h3]
 rw [e1, Bool.or_comm (B w |>.getLsbD i)]
theorem mask_clr (b w : Int) (hb0 : 0 ≤ b) (hb1 : b < 256) (h0 : 0 ≤ w) (h1 : w < 256) (n : Nat) (hn : n ≤ 8) : Go.bits .and .u8 b (Go.bits .or .u8 w ((255 * 2 ^ n) % 256)) = clr b w n := by
 obtain ⟨c0, c1⟩ := clr_range b w hb0 hb1 n
 rw [← toNat_B (clr b w n) c0 c1]
 have hr : ∀ x, Go.bits .and .u8 b x = ((B (Go.bits .and .u8 b x)).toNat : Int) := by
  intro x
  rw [toNat_B]
  ·rw [bits_and_u8]; omega
  ·rw [bits_and_u8]; have := (B b &&& B x).isLt; omega
 rw [hr]
 congr 2
 apply BitVec.eq_of_getLsbD_eq
 intro i hi
 rw [mask_bit b w n i hi, clr_bit b w h0 h1 n hn i hi]
/-- On a byte 255 the word itself. -/
theorem clr_blank (w : Int) (h0 : 0 ≤ w) (h1 : w < 256) (N : Nat) (hN : N = 8) : clr 255 w N = w := by
 obtain ⟨e0, e1⟩ := clr_range 255 w (by omega) (by omega) N
 refine (toNat_B _ e0 e1).symm.trans (Eq.trans ?_ (toNat_B w h0 h1))
 congr 2
 apply BitVec.eq_of_getLsbD_eq
 intro i hi
 rw [clr_bit _ w h0 h1 N (by omega) i hi]
 have : (B 255).getLsbD i = true := by
  have h : ∀ j, j < 8 → (BitVec.ofInt 8 255).getLsbD j = true := by decide
  exact h i hi
 have h8 : decide (N ≤ i) = false := by simp; omega
 rw [this, h8]; rfl
end Go.Proofs.Ytjadcjkjpkkmkaa.M

/- Plain facts on flashes: texts spliced, words programmed, sectors erased, byte by byte; no memory in sight. -/
set_option linter.unnecessarySimpa false
set_option linter.unusedSimpArgs false
set_option linter.unusedVariables false
namespace Go.Proofs.Ytjadcjkjpkkmkaa.M
open Go.RowKit Go.Proofs.YtjadcjkjpkkmkaaW.PrintWords Go.Proofs.YtjadcjkjpkkmkaaW.PrintLast Go.Proofs.YtjadcjkjpkkmkaaW.PrintMore Go.Proofs.Ytjadcjkjpkkmkaa.Hand
theorem bt_lt (s : ByteArray) (i : Nat) (h : i < s.size) : bt s i = ((s[i]'h).toNat : Int) := bt_nat s i h
theorem bt_u8 (s : ByteArray) (i : Int) : 0 ≤ bt s i ∧ bt s i < 256 := by
 have := bt_range s i; omega
theorem bt_ext {a b : ByteArray} (h : a.size = b.size) (h2 : ∀ i : Nat, i < a.size → bt a i = bt b i) : a = b := by
 apply ByteArray.ext
 apply Array.ext h
 intro i h1 h3
 have := h2 i h1
 rw [bt_lt a i h1, bt_lt b i h3] at this
 have h4 : (a[i]'h1).toNat = (b[i]'h3).toNat := by exact_mod_cast this
 exact UInt8.toNat_inj.mp h4
theorem bt_data (s : ByteArray) (i : Nat) : bt s i = ((s.data.toList.getD i 0).toNat : Int) := by
 by_cases h : i < s.size
 ·rw [bt_lt s i h]
  have h' : i < s.data.toList.length := by rw [data_length]; exact h
  simp [List.getD_eq_getElem?_getD, List.getElem?_eq_getElem h']
  rfl
 ·have h' : ¬ i < s.data.toList.length := by rw [data_length]; exact h
  unfold bt
  rw [dif_neg (by simpa using h)]
  simp [List.getD_eq_getElem?_getD, List.getElem?_eq_none (Nat.le_of_not_lt h')]
theorem bt_append (a b : ByteArray) (i : Nat) : bt (a ++ b) i = if i < a.size then bt a i else bt b ((i - a.size : Nat) : Int) := by
 rw [bt_data, bt_data, bt_data]
 have hd : (a ++ b).data.toList = a.data.toList ++ b.data.toList := by simp
 rw [hd]
 have hl : a.data.toList.length = a.size := data_length a
 split
 ·rename_i h
  rw [List.getD_eq_getElem?_getD, List.getElem?_append_left (by omega), ← List.getD_eq_getElem?_getD]
 ·rename_i h
  rw [List.getD_eq_getElem?_getD, List.getElem?_append_right (by omega), ← List.getD_eq_getElem?_getD, hl]
theorem bt_extract (a : ByteArray) (s e i : Nat) (h : i < min e a.size - s) : bt (a.extract s e) i = bt a ((s + i : Nat) : Int) := by
 have h1 : i < (a.extract s e).size := by rw [ByteArray.size_extract]; exact h
 have h2 : s + i < a.size := by omega
 rw [bt_lt _ _ h1, bt_lt a (s + i) h2]
 simp [ByteArray.getElem_extract]
theorem bt_strOfNums (l : List Int) (i : Nat) (h : i < l.length) (h0 : 0 ≤ l.getD i 0) (h1 : l.getD i 0 < 256) : bt (strOfNums l) i = l.getD i 0 := by
 rw [bt_data]
 have e : (strOfNums l).data.toList = l.map fun n => UInt8.ofNat n.toNat := rfl
 rw [e]
 simp only [List.getD_eq_getElem?_getD, List.getElem?_map, List.getElem?_eq_getElem h, Option.map_some, Option.getD_some] at *
 simp
 omega
/-- A flash, some bytes of it others. -/
def sp (f : ByteArray) (at_ : Nat) (t : ByteArray) : ByteArray := (f.extract 0 at_ ++ t) ++ f.extract (at_ + t.size) f.size
theorem sp_size (f : ByteArray) (at_ : Nat) (t : ByteArray) (h : at_ + t.size ≤ f.size) : (sp f at_ t).size = f.size := by
 simp [sp, ByteArray.size_append, ByteArray.size_extract]; omega
theorem sp_bt (f : ByteArray) (at_ : Nat) (t : ByteArray) (h : at_ + t.size ≤ f.size) (i : Nat) (hi : i < f.size) :
  bt (sp f at_ t) i = if at_ ≤ i ∧ i < at_ + t.size then bt t ((i - at_ : Nat) : Int) else bt f i := by
 have s1 : (f.extract 0 at_).size = at_ := by rw [ByteArray.size_extract]; omega
 have s2 : (f.extract 0 at_ ++ t).size = at_ + t.size := by rw [ByteArray.size_append, s1]
 unfold sp
 rw [bt_append, s2]
 by_cases c1 : i < at_ + t.size
 ·rw [if_pos c1, bt_append, s1]
  by_cases c2 : i < at_
  ·rw [if_pos c2, if_neg (by omega), bt_extract _ _ _ _ (by omega), Nat.zero_add]
  ·rw [if_neg c2, if_pos ⟨by omega, c1⟩]
 ·rw [if_neg c1, if_neg (by omega), bt_extract _ _ _ _ (by omega)]
  congr 2; omega
/-- How many bits of byte j are programmed. -/
def tn (many : Int) (j : Nat) : Nat := (mn (mx (many - 8 * (j : Int)) 0) 8).toNat
theorem tn_eq (many : Int) (j : Nat) (h : 0 ≤ many) : tn many j = min (many.toNat - 8 * j) 8 := by
 unfold tn mn mx; split <;> split <;> omega
theorem tn_le (many : Int) (j : Nat) : tn many j ≤ 8 := by unfold tn mn mx; split <;> split <;> omega
theorem tornB_clr (f : ByteArray) (at_ : Nat) (x : ByteArray) (many : Int) (j : Nat) : tornB f at_ x many j = clr (bt f ((at_ + j : Nat) : Int)) (bt x j) (tn many j) := by
 unfold tornB maskV
 have h := mask_clr (bt f ((at_ + j : Nat) : Int)) (bt x j) (bt_u8 _ _).1 (bt_u8 _ _).2 (bt_u8 _ _).1 (bt_u8 _ _).2 (tn many j) (tn_le _ _)
 exact h
theorem tornF_size (f : ByteArray) (at_ : Nat) (x : ByteArray) (many : Int) (h : at_ + 4 ≤ f.size) : (tornF f at_ x many).size = f.size := by
 have : (strOfNums (tornL f at_ x many 4)).size = 4 := by rw [strOfNums_size', tornL_length]
 have h2 := sp_size f at_ (strOfNums (tornL f at_ x many 4)) (by omega)
 unfold sp at h2
 rw [this] at h2
 exact h2
theorem tornF_bt (f : ByteArray) (at_ : Nat) (x : ByteArray) (many : Int) (h : at_ + 4 ≤ f.size) (i : Nat) (hi : i < f.size) :
  bt (tornF f at_ x many) i = if at_ ≤ i ∧ i < at_ + 4 then clr (bt f i) (bt x ((i - at_ : Nat) : Int)) (tn many (i - at_)) else bt f i := by
 have hs : (strOfNums (tornL f at_ x many 4)).size = 4 := by rw [strOfNums_size', tornL_length]
 have h2 := sp_bt f at_ (strOfNums (tornL f at_ x many 4)) (by omega) i hi
 unfold sp at h2
 rw [hs] at h2
 unfold tornF
 rw [h2]
 by_cases c : at_ ≤ i ∧ i < at_ + 4
 ·rw [if_pos c, if_pos c]
  have hj : i - at_ < 4 := by omega
  have hg : (tornL f at_ x many 4).getD (i - at_) 0 = tornB f at_ x many (i - at_) := by simp [tornL, List.getD_eq_getElem?_getD, hj]
  have hc := tornB_clr f at_ x many (i - at_)
  rw [show at_ + (i - at_) = i by omega] at hc
  have hr := clr_range (bt f i) (bt x ((i - at_ : Nat) : Int)) (bt_u8 _ _).1 (bt_u8 _ _).2 (tn many (i - at_))
  rw [bt_strOfNums _ _ (by rw [tornL_length]; exact hj) (by rw [hg, hc]; exact hr.1) (by rw [hg, hc]; exact hr.2), hg, hc]
 ·rw [if_neg c, if_neg c]
theorem rL_at (f : ByteArray) (at_ : Nat) (x : ByteArray) (h : at_ + 4 ≤ f.size) (k : Nat) (hk : k ≤ 32) (j : Nat) (hj : j < 4) : (rL f at_ x k).getD j 0 = clr (bt f ((at_ + j : Nat) : Int)) (bt x j) (min (k - 8 * j) 8) := by
 induction k with
 | zero =>
  rw [rL, show min (0 - 8 * j) 8 = 0 by omega, clr]
  have hs : (f.extract at_ (at_ + 4)).size = 4 := by rw [ByteArray.size_extract]; omega
  have e1 := rd_bytesOf (f.extract at_ (at_ + 4)) (j : Int)
  have e2 : rd (bytesOf (f.extract at_ (at_ + 4))) (j : Int) = (bytesOf (f.extract at_ (at_ + 4))).getD j 0 := by unfold rd; simp
  rw [← e2, e1, bt_extract _ _ _ _ (by omega)]
 | succ k ih =>
  have ih := ih (by omega)
  have hlen := rL_length f at_ x k h
  rw [rL, rstep]
  by_cases e : k / 8 = j
  ·have e1 : min (k + 1 - 8 * j) 8 = k % 8 + 1 := by omega
   have e2 : min (k - 8 * j) 8 = k % 8 := by omega
   rw [e2] at ih
   rw [e1, clr, ← ih]
   unfold zeroBit
   rw [e]
   split
   ·simp [List.getD_eq_getElem?_getD, hlen, hj]
   ·rfl
  ·have e1 : min (k + 1 - 8 * j) 8 = min (k - 8 * j) 8 := by omega
   rw [e1, ← ih]
   split
   ·simp [List.getD_eq_getElem?_getD, e]
   ·rfl
theorem rtornF_eq (f : ByteArray) (at_ : Nat) (x : ByteArray) (many : Int) (h : at_ + 4 ≤ f.size) (h0 : 0 ≤ many) (h1 : many ≤ 32) : rtornF f at_ x many.toNat = tornF f at_ x many := by
 unfold rtornF tornF
 congr 3
 apply List.ext_getElem
 ·rw [rL_length _ _ _ _ h, tornL_length]
 ·intro j h2 h3
  rw [tornL_length] at h3
  have e1 := rL_at f at_ x h many.toNat (by omega) j h3
  have e2 : (tornL f at_ x many 4).getD j 0 = tornB f at_ x many j := by simp [tornL, List.getD_eq_getElem?_getD, h3]
  have e3 := tornB_clr f at_ x many j
  rw [tn_eq many j h0] at e3
  rw [List.getD_eq_getElem?_getD, List.getElem?_eq_getElem h2] at e1
  rw [List.getD_eq_getElem?_getD, List.getElem?_eq_getElem (by rw [tornL_length]; exact h3)] at e2
  simp only [Option.getD_some] at e1 e2
  rw [e1, e2, e3]
/-- n bytes 255. -/
def ff (n : Nat) : ByteArray := ⟨(List.replicate n 255).toArray⟩
theorem ff_size (n : Nat) : (ff n).size = n := by simp [ff, ByteArray.size]
theorem ff_bt (n i : Nat) (h : i < n) : bt (ff n) i = 255 := by
 rw [bt_data]
 simp [ff, List.getD_eq_getElem?_getD, h]
theorem ff_strOfNums (n : Nat) : strOfNums (List.replicate n 255) = ff n := by
 simp [strOfNums, ff]
/-- A flash, the first bytes of a sector erased. -/
def wornF (f : ByteArray) (s many : Nat) : ByteArray := sp f (s * 96) (ff many)
end Go.Proofs.Ytjadcjkjpkkmkaa.M

/- Plain facts: what the reference's PutEntry answers for every record, in closed form; no memory in sight. -/
set_option linter.unnecessarySimpa false
set_option linter.unusedSimpArgs false
set_option linter.unusedVariables false
namespace Go.Proofs.Ytjadcjkjpkkmkaa.M
open Go.RowKit Go.Proofs.YtjadcjkjpkkmkaaW.PrintWords Go.Proofs.YtjadcjkjpkkmkaaW.PrintLast Go.Proofs.YtjadcjkjpkkmkaaW.PrintMore Go.Proofs.Ytjadcjkjpkkmkaa.Hand
/-- Byte i of a number, the lowest first. -/
def lb (x : Int) (i : Nat) : Int := x / 2 ^ (8 * i) % 256
theorem lb_range (x : Int) (i : Nat) : 0 ≤ lb x i ∧ lb x i < 256 := by unfold lb; omega
theorem low1 (x : Int) : PBase.skiffref1_Low.f 6 x 1 = some (strOfNums [lb x 0]) := by
 simp [PBase.skiffref1_Low.f, PBase.skiffref1_Low.l0, wrap64, shr, lb, IntKind.bits]
theorem low2 (x : Int) : PBase.skiffref1_Low.f 6 x 2 = some (strOfNums [lb x 0, lb x 1]) := by
 simp [PBase.skiffref1_Low.f, PBase.skiffref1_Low.l0, wrap64, shr, lb, IntKind.bits]
theorem low4 (x : Int) : PBase.skiffref1_Low.f 6 x 4 = some (strOfNums [lb x 0, lb x 1, lb x 2, lb x 3]) := by
 simp [PBase.skiffref1_Low.f, PBase.skiffref1_Low.l0, wrap64, shr, lb, IntKind.bits]
/-- May a record be put? -/
def recMay (q sl sz sm : Int) : Bool := decide (1 ≤ q ∧ q ≤ 1048576 ∧ 0 ≤ sl ∧ sl ≤ 1 ∧ 1 ≤ sz ∧ sz ≤ 288 ∧ 0 ≤ sm ∧ sm ≤ 4294967295)
theorem upTo_eq' (a b c : Int) : PBase.skiffref1_upTo.f a b c = some (decide (b ≤ a ∧ a ≤ c)) := by
 unfold PBase.skiffref1_upTo.f
 by_cases h1 : a ≥ b
 ·simp [h1, show b ≤ a from h1]
 ·simp [h1, show ¬ b ≤ a from h1]
theorem RecordMay_eq (q sl sz sm : Int) : PBase.skiffref1_RecordMay.f q sl sz sm = some (recMay q sl sz sm) := by
 unfold PBase.skiffref1_RecordMay.f recMay
 simp only [upTo_eq', Option.bind_some]
 by_cases h1 : 1 ≤ q ∧ q ≤ 1048576
 ·by_cases h2 : 0 ≤ sl ∧ sl ≤ 1
  ·by_cases h3 : 1 ≤ sz ∧ sz ≤ 288
   ·simp [h1, h2, h3]
   ·rw [if_pos (by simpa using h1), if_pos (by simpa using h2), if_neg (by simpa using h3)]; congr 1; symm; rw [decide_eq_false_iff_not]; omega
  ·rw [if_pos (by simpa using h1), if_neg (by simpa using h2)]; congr 1; symm; rw [decide_eq_false_iff_not]; omega
 ·rw [if_neg (by simpa using h1)]; congr 1; symm; rw [decide_eq_false_iff_not]; omega
/-- The twelve bytes of a record. -/
def entL (q sl sz sm : Int) : List Int := [lb q 0, lb q 1, lb q 2, lb q 3, lb sl 0, 0, lb sz 0, lb sz 1, lb sm 0, lb sm 1, lb sm 2, lb sm 3]
/-- The bytes of a record: these, and their complements. -/
def ent (q sl sz sm : Int) : ByteArray := strOfNums (entL q sl sz sm ++ (entL q sl sz sm).map fun x => (255 - x) % 256)
theorem ent_size (q sl sz sm : Int) : (ent q sl sz sm).size = 24 := by rw [ent, strOfNums_size']; rfl
theorem bytesOf_strOfNums (l : List Int) (h : ∀ x ∈ l, 0 ≤ x ∧ x < 256) : bytesOf (strOfNums l) = l := by
 induction l with
 | nil => rfl
 | cons x xs ih =>
  have e : bytesOf (strOfNums (x :: xs)) = ((UInt8.ofNat x.toNat).toNat : Int) :: bytesOf (strOfNums xs) := by simp [bytesOf, strOfNums]
  rw [e, ih (fun y hy => h y (List.mem_cons_of_mem _ hy))]
  have := h x List.mem_cons_self
  congr 1
  rw [UInt8.toNat_ofNat']; omega
theorem strOfNums_append (a b : List Int) : strOfNums a ++ strOfNums b = strOfNums (a ++ b) := by
 simp [strOfNums, ByteArray.mk_append_mk]
theorem PutEntry_at (q sl sz sm : Int) (k : Nat) (hk : k = 6) : skiffref1_PutEntry.f k q sl sz sm = some (if recMay q sl sz sm = true then (ent q sl sz sm, 0) else (⟨#[]⟩, 400)) := by
 subst hk
 unfold skiffref1_PutEntry.f
 rw [RecordMay_eq, Option.bind_some]
 by_cases h : recMay q sl sz sm = true
 ·rw [if_pos h, if_pos h, low4, low1, low1, low2, low4]
  simp only [Option.bind_some, strOfNums_append, strOfNums_size']
  have z : strOfNums ([lb q 0, lb q 1, lb q 2, lb q 3] ++ [lb sl 0] ++ [lb 0 0] ++ [lb sz 0, lb sz 1] ++ [lb sm 0, lb sm 1, lb sm 2, lb sm 3]) = strOfNums (entL q sl sz sm) := rfl
  rw [z]
  unfold putFin
  rw [strOfNums_size', bytesOf_strOfNums]
  ·rfl
  ·intro x hx
   simp only [entL, List.mem_cons, List.mem_nil_iff, or_false] at hx
   rcases hx with rfl | rfl | rfl | rfl | rfl | rfl | rfl | rfl | rfl | rfl | rfl | rfl <;> first | exact lb_range _ _ | omega
 ·rw [if_neg h, if_neg h]
def putV (q sl sz sm : Int) : ByteArray × Int := if recMay q sl sz sm = true then (ent q sl sz sm, 0) else (⟨#[]⟩, 400)
theorem PutEntry_ev (q sl sz sm : Int) : Ev (fun k => skiffref1_PutEntry.f k q sl sz sm) (putV q sl sz sm) :=
 Ev.of (fun k => skiffref1_PutEntry.mono q sl sz sm k) (PutEntry_at q sl sz sm 6 rfl)
end Go.Proofs.Ytjadcjkjpkkmkaa.M

/- Plain facts: what the program's ops and the reference's answer for every flash, step and cut: the same; no memory in sight. -/
set_option linter.unnecessarySimpa false
set_option linter.unusedSimpArgs false
set_option linter.unusedVariables false
namespace Go.Proofs.Ytjadcjkjpkkmkaa.M
open Go.RowKit Go.Proofs.YtjadcjkjpkkmkaaW.PrintWords Go.Proofs.YtjadcjkjpkkmkaaW.PrintLast Go.Proofs.YtjadcjkjpkkmkaaW.PrintMore Go.Proofs.Ytjadcjkjpkkmkaa.Hand Go.Proofs.Ytjadcjkjpkkmkaa.PAll
/-- Evaluation that ends: one step of a function with rounds. -/
theorem Ev.one {α : Type} {g : Nat → Option α} {r : α} (h : ∀ k, g (k + 1) = some r) : Ev g r := ⟨1, fun k hk => by obtain ⟨m, rfl⟩ : ∃ m, k = m + 1 := ⟨k - 1, by omega⟩; exact h m⟩
theorem Ev.always {α : Type} {g : Nat → Option α} {r : α} (h : ∀ k, g k = some r) : Ev g r := ⟨0, fun k _ => h k⟩
abbrev I64 (x : Int) : Prop := -9223372036854775808 ≤ x ∧ x ≤ 9223372036854775807
theorem wrap_id {x : Int} (h : I64 x) : wrap64 x = x := by unfold wrap64; omega
/-- May a step be? -/
def opMay (e : Bool) (a : Int) (t : ByteArray) : Bool :=
 if e = true then decide (0 ≤ a ∧ a ≤ 672 ∧ a % 96 = 0 ∧ t.size = 0) else decide (0 ≤ a ∧ a ≤ 764 ∧ a % 4 = 0 ∧ t.size = 4)
theorem toList_nil (t : ByteArray) : (t.toList == ([] : List UInt8)) = decide (t.size = 0) := by
 rw [ByteArray.toList_eq]
 have h := data_length t
 cases hl : t.data.toList with
 | nil => rw [hl] at h; simp at h; exact (decide_eq_true h.symm).symm
 | cons a l => rw [hl] at h; simp at h; exact (decide_eq_false (by omega)).symm
theorem toList_inj {a b : ByteArray} : a.toList = b.toList ↔ a = b := by
 rw [ByteArray.toList_eq, ByteArray.toList_eq]
 exact ⟨fun h => Go.WideShapes.bytes_inj h, fun h => by rw [h]⟩
theorem upTo_eq (a b c : Int) : PBase.skiffref1_upTo.f a b c = some (decide (b ≤ a ∧ a ≤ c)) := by
 unfold PBase.skiffref1_upTo.f
 by_cases h : a ≥ b
 ·rw [if_pos h]; congr 1; simp; omega
 ·rw [if_neg h]; congr 1; symm; simp; omega
theorem ref_OpMay_eq (e : Bool) (a : Int) (t : ByteArray) : skiffref1_OpMay.f e a t = some (opMay e a t) := by
 unfold skiffref1_OpMay.f opMay
 cases e with
 | true =>
  rw [if_pos rfl, if_pos rfl, upTo_eq]
  simp only [Option.bind_some]
  by_cases h0 : 0 ≤ a ∧ a ≤ 672
  ·rw [if_pos (by simpa using h0), Int.tmod_eq_emod_of_nonneg h0.1]
   by_cases h1 : a % 96 = 0
   ·rw [if_pos h1, toList_nil]; congr 1; exact decide_eq_decide.mpr ⟨fun h => ⟨by omega, by omega, h1, h⟩, fun h => h.2.2.2⟩
   ·rw [if_neg h1]; congr 1; symm; simp; omega
  ·rw [if_neg (by simpa using h0)]; congr 1; symm; simp; omega
 | false =>
  rw [if_neg (by decide), if_neg (by decide)]
  unfold skiffref1_wordAt.f
  rw [upTo_eq]
  simp only [Option.bind_some]
  by_cases h0 : 0 ≤ a ∧ a ≤ 764
  ·rw [if_pos (by simpa using h0), Int.tmod_eq_emod_of_nonneg h0.1]
   simp only [Option.bind_some]
   by_cases h1 : a % 4 = 0
   ·rw [if_pos (by simpa using h1)]; congr 1; rw [Bool.eq_iff_iff]; simp; omega
   ·rw [if_neg (by simpa using h1)]; congr 1; symm; simp; omega
  ·rw [if_neg (by simpa using h0)]
   simp only [Option.bind_some]
   rw [if_neg (by decide)]; congr 1; symm; simp; omega
theorem full_go (n : Int) (hn : n ≤ 1000) (d : Nat) : ∀ (k : Nat) (i : Int), 0 ≤ i → i ≤ n → (n - i).toNat = d → d < k → skiffref1_full.l0 k n (List.replicate i.toNat 255 ++ List.replicate (n - i).toNat 0) i = some (ff n.toNat) := by
 induction d with
 | zero =>
  intro k i h0 h1 hd hk
  obtain ⟨k, rfl⟩ : ∃ m, k = m + 1 := ⟨k - 1, by omega⟩
  have hin : i = n := by omega
  subst hin
  simp only [skiffref1_full.l0]
  rw [if_neg (by omega)]
  simp [ff_strOfNums]
 | succ d ih =>
  intro k i h0 h1 hd hk
  obtain ⟨k, rfl⟩ : ∃ m, k = m + 1 := ⟨k - 1, by omega⟩
  simp only [skiffref1_full.l0]
  have hl : (List.replicate i.toNat (255 : Int) ++ List.replicate (n - i).toNat 0).length = n.toNat := by simp; omega
  rw [if_pos (by omega), if_pos h0, if_pos (by rw [hl]; omega), wrap_id (by omega)]
  have e : (List.replicate i.toNat (255 : Int) ++ List.replicate (n - i).toNat 0).set i.toNat 255 = List.replicate (i + 1).toNat 255 ++ List.replicate (n - (i + 1)).toNat 0 := by
   rw [show (n - i).toNat = (n - (i + 1)).toNat + 1 by omega, List.replicate_succ, show (i + 1).toNat = i.toNat + 1 by omega, List.replicate_succ']
   rw [List.set_append_right _ _ (by simp)]
   simp
  rw [e]
  exact ih k (i + 1) (by omega) (by omega) (by omega) (by omega)
theorem full_ev (n : Int) (h0 : 0 ≤ n) (hn : n ≤ 1000) : Ev (fun k => skiffref1_full.f k n) (ff n.toNat) := by
 refine Ev.of (fun k => skiffref1_full.mono _ _) (k := n.toNat + 1) ?_
 unfold skiffref1_full.f
 rw [if_pos h0, if_pos (by omega)]
 have := full_go n hn n.toNat (n.toNat + 1) 0 (by omega) h0 (by omega) (by omega)
 simpa using this
theorem ref_Worn_ev (f : ByteArray) (s m : Int) (hf : f.size = 768) (h0 : 0 ≤ s) (h1 : s < 8) (h2 : 0 ≤ m) (h3 : m ≤ 96) : Ev (fun k => skiffref1_Worn.f k f s m) (wornF f s.toNat m.toNat, 0) := by
 unfold skiffref1_Worn.f skiffref1_FlashMay.f
 simp only [Option.bind_some, hf, upTo_eq]
 have e1 : decide (0 ≤ s ∧ s ≤ 7) = true := by simp; omega
 have e2 : decide (0 ≤ m ∧ m ≤ 96) = true := by simp; omega
 have e3 : ((768 : Nat) : Int) == 768 := rfl
 simp only [e1, e2, e3, if_true]
 have w1 : wrap64 (s * 96) = s * 96 := wrap_id (by omega)
 have w2 : wrap64 (s * 96 + m) = s * 96 + m := wrap_id (by omega)
 simp only [w1, w2, if_pos (show 0 ≤ s * 96 by omega), if_pos (show s * 96 ≤ ((768 : Nat) : Int) by omega)]
 refine Ev.bind (full_ev m h2 (by omega)) ?_
 have s1 : (f.extract 0 (s * 96).toNat).size = (s * 96).toNat := by rw [ByteArray.size_extract]; omega
 have s2 : (f.extract (s * 96 + m).toNat 768).size = 768 - (s * 96 + m).toNat := by rw [ByteArray.size_extract]; omega
 refine Ev.always fun k => ?_
 rw [if_pos (by rw [s1, ff_size]; omega), if_pos (by omega), if_pos (by omega), if_pos (by rw [ByteArray.size_append, s1, s2, ff_size]; omega)]
 unfold wornF sp
 rw [ff_size, hf, show (s * 96).toNat = s.toNat * 96 by omega, show (s * 96 + m).toNat = s.toNat * 96 + m.toNat by omega]
end Go.Proofs.Ytjadcjkjpkkmkaa.M

/- Plain facts: what the program's entry.Get and the reference's GetEntry answer for every string: the same; no memory in sight. -/
set_option linter.unnecessarySimpa false
set_option linter.unusedSimpArgs false
set_option linter.unusedVariables false
namespace Go.Proofs.Ytjadcjkjpkkmkaa.M
open Go.RowKit Go.Proofs.YtjadcjkjpkkmkaaW.PrintWords Go.Proofs.YtjadcjkjpkkmkaaW.PrintLast Go.Proofs.YtjadcjkjpkkmkaaW.PrintMore Go.Proofs.Ytjadcjkjpkkmkaa.Hand Go.Proofs.Ytjadcjkjpkkmkaa.PAll
theorem wraps_i64 (n : Int) (h₀ : 0 ≤ n) (h₁ : n < 2 ^ 62) : IntKind.i64.wrap n = n := by rw [IntKind.wrap_i64]; omega
theorem or_step (x b : Int) (h0 : 0 ≤ x) (h1 : x < 1099511627776) (h2 : 0 ≤ b) (h3 : b < 256) : Go.bits .or .i64 (wrap64 (x * 256)) (wrap64 b) = x * 256 + b := by
 rw [show wrap64 (x * 256) = x * 256 by unfold wrap64; omega, show wrap64 b = b by unfold wrap64; omega]
 exact bits_join .i64 62 (by decide) wraps_i64 8 _ _ (by omega) (by omega) (by omega) h2 (by omega) (by omega)
theorem num_step (k : Nat) (s : ByteArray) (x : Int) (i : Nat) (hi : i < s.size) (hs : s.size < 1000) (h0 : 0 ≤ x) (h1 : x < 1099511627776) : PSc.entry_Num.l0 (k + 1) s x (i : Int) = PSc.entry_Num.l0 k s (x * 256 + bt s (i : Int)) ((i : Int) - 1) := by
 rw [PSc.entry_Num.l0, if_pos (by omega), if_pos (by omega), if_pos (by omega), or_step x _ h0 h1 (bt_u8 _ _).1 (bt_u8 _ _).2, show wrap64 ((i : Int) - 1) = (i : Int) - 1 by unfold wrap64; omega]
theorem num_end (k : Nat) (s : ByteArray) (x : Int) : PSc.entry_Num.l0 (k + 1) s x (-1) = some x := by rw [PSc.entry_Num.l0, if_neg (by omega)]
theorem of_step (k : Nat) (s : ByteArray) (x : Int) (i : Nat) (hi : i < s.size) (hs : s.size < 1000) (h0 : 0 ≤ x) (h1 : x < 1099511627776) : skiffref1_Of.l0 (k + 1) s x (i : Int) = skiffref1_Of.l0 k s (x * 256 + bt s (i : Int)) ((i : Int) - 1) := by
 rw [skiffref1_Of.l0, if_pos (by omega), if_pos (by omega), if_pos (by omega), or_step x _ h0 h1 (bt_u8 _ _).1 (bt_u8 _ _).2, show wrap64 ((i : Int) - 1) = (i : Int) - 1 by unfold wrap64; omega]
theorem of_end (k : Nat) (s : ByteArray) (x : Int) : skiffref1_Of.l0 (k + 1) s x (-1) = some x := by rw [skiffref1_Of.l0, if_neg (by omega)]
def n2 (s : ByteArray) (i : Nat) : Int := bt s i + 256 * bt s ((i + 1 : Nat) : Int)
def n4 (s : ByteArray) (i : Nat) : Int := bt s i + 256 * bt s ((i + 1 : Nat) : Int) + 65536 * bt s ((i + 2 : Nat) : Int) + 16777216 * bt s ((i + 3 : Nat) : Int)
theorem num4_eq (s : ByteArray) (h : s.size = 4) : PSc.entry_Num.f 6 s = some (n4 s 0) := by
 have b0 := bt_u8 s 0; have b1 := bt_u8 s 1; have b2 := bt_u8 s 2; have b3 := bt_u8 s 3
 unfold PSc.entry_Num.f
 rw [h]
 rw [show wrap64 (((4 : Nat) : Int) - 1) = ((3 : Nat) : Int) by unfold wrap64; omega]
 rw [num_step 5 s 0 3 (by omega) (by omega) (by omega) (by omega)]
 show PSc.entry_Num.l0 5 s (0 * 256 + bt s 3) ((2 : Nat) : Int) = _
 rw [num_step 4 s _ 2 (by omega) (by omega) (by omega) (by omega)]
 show PSc.entry_Num.l0 4 s ((0 * 256 + bt s 3) * 256 + bt s 2) ((1 : Nat) : Int) = _
 rw [num_step 3 s _ 1 (by omega) (by omega) (by omega) (by omega)]
 show PSc.entry_Num.l0 3 s (((0 * 256 + bt s 3) * 256 + bt s 2) * 256 + bt s 1) ((0 : Nat) : Int) = _
 rw [num_step 2 s _ 0 (by omega) (by omega) (by omega) (by omega)]
 show PSc.entry_Num.l0 2 s ((((0 * 256 + bt s 3) * 256 + bt s 2) * 256 + bt s 1) * 256 + bt s 0) (-1) = _
 rw [num_end]
 congr 1
 show _ = bt s 0 + 256 * bt s 1 + 65536 * bt s 2 + 16777216 * bt s 3
 omega
theorem num2_eq (s : ByteArray) (h : s.size = 2) : PSc.entry_Num.f 6 s = some (n2 s 0) := by
 have b0 := bt_u8 s 0; have b1 := bt_u8 s 1
 unfold PSc.entry_Num.f
 rw [h]
 rw [show wrap64 (((2 : Nat) : Int) - 1) = ((1 : Nat) : Int) by unfold wrap64; omega]
 rw [num_step 5 s _ 1 (by omega) (by omega) (by omega) (by omega)]
 show PSc.entry_Num.l0 5 s (0 * 256 + bt s 1) ((0 : Nat) : Int) = _
 rw [num_step 4 s _ 0 (by omega) (by omega) (by omega) (by omega)]
 show PSc.entry_Num.l0 4 s ((0 * 256 + bt s 1) * 256 + bt s 0) (-1) = _
 rw [num_end]
 congr 1
 show _ = bt s 0 + 256 * bt s 1
 omega
theorem of4_eq (s : ByteArray) (h : s.size = 4) : skiffref1_Of.f 6 s = some (n4 s 0) := by
 have b0 := bt_u8 s 0; have b1 := bt_u8 s 1; have b2 := bt_u8 s 2; have b3 := bt_u8 s 3
 unfold skiffref1_Of.f
 rw [h]
 rw [show wrap64 (((4 : Nat) : Int) - 1) = ((3 : Nat) : Int) by unfold wrap64; omega]
 rw [of_step 5 s 0 3 (by omega) (by omega) (by omega) (by omega)]
 show skiffref1_Of.l0 5 s (0 * 256 + bt s 3) ((2 : Nat) : Int) = _
 rw [of_step 4 s _ 2 (by omega) (by omega) (by omega) (by omega)]
 show skiffref1_Of.l0 4 s ((0 * 256 + bt s 3) * 256 + bt s 2) ((1 : Nat) : Int) = _
 rw [of_step 3 s _ 1 (by omega) (by omega) (by omega) (by omega)]
 show skiffref1_Of.l0 3 s (((0 * 256 + bt s 3) * 256 + bt s 2) * 256 + bt s 1) ((0 : Nat) : Int) = _
 rw [of_step 2 s _ 0 (by omega) (by omega) (by omega) (by omega)]
 show skiffref1_Of.l0 2 s ((((0 * 256 + bt s 3) * 256 + bt s 2) * 256 + bt s 1) * 256 + bt s 0) (-1) = _
 rw [of_end]
 congr 1
 show _ = bt s 0 + 256 * bt s 1 + 65536 * bt s 2 + 16777216 * bt s 3
 omega
theorem of2_eq (s : ByteArray) (h : s.size = 2) : skiffref1_Of.f 6 s = some (n2 s 0) := by
 have b0 := bt_u8 s 0; have b1 := bt_u8 s 1
 unfold skiffref1_Of.f
 rw [h]
 rw [show wrap64 (((2 : Nat) : Int) - 1) = ((1 : Nat) : Int) by unfold wrap64; omega]
 rw [of_step 5 s _ 1 (by omega) (by omega) (by omega) (by omega)]
 show skiffref1_Of.l0 5 s (0 * 256 + bt s 1) ((0 : Nat) : Int) = _
 rw [of_step 4 s _ 0 (by omega) (by omega) (by omega) (by omega)]
 show skiffref1_Of.l0 4 s ((0 * 256 + bt s 1) * 256 + bt s 0) (-1) = _
 rw [of_end]
 congr 1
 show _ = bt s 0 + 256 * bt s 1
 omega
theorem n4_extract (s : ByteArray) (i : Nat) (h : i + 4 ≤ s.size) : n4 (s.extract i (i + 4)) 0 = n4 s i := by
 unfold n4
 simp only [Nat.zero_add]
 rw [bt_extract s i (i + 4) 0 (by omega), bt_extract s i (i + 4) 1 (by omega), bt_extract s i (i + 4) 2 (by omega), bt_extract s i (i + 4) 3 (by omega), Nat.add_zero]
theorem n2_extract (s : ByteArray) (i : Nat) (h : i + 2 ≤ s.size) : n2 (s.extract i (i + 2)) 0 = n2 s i := by
 unfold n2
 simp only [Nat.zero_add]
 rw [bt_extract s i (i + 2) 0 (by omega), bt_extract s i (i + 2) 1 (by omega), Nat.add_zero]
/-- What stands in a place: the complements are right, and the record may be. -/
def getOk (s : ByteArray) : Prop := s.size = 24 ∧ (∀ i, i < 12 → bt s ((12 + i : Nat) : Int) = 255 - bt s ((i : Nat) : Int)) ∧ recMay (n4 s 0) (n2 s 4) (n2 s 6) (n4 s 8) = true
instance (s : ByteArray) : Decidable (getOk s) := by unfold getOk; exact inferInstance
def getV (s : ByteArray) : Int × Int × Int × Int × Int := if getOk s then (n4 s 0, n2 s 4, n2 s 6, n4 s 8, 0) else (0, 0, 0, 0, 400)
theorem complB_eq (b : Int) (h0 : 0 ≤ b) (h1 : b < 256) : complB b = 255 - b := by
 obtain ⟨n, rfl⟩ := Int.eq_ofNat_of_zero_le h0
 unfold complB
 rw [bits_xor_u8]
 have e : B (IntKind.u8.max) = BitVec.allOnes 8 := by decide
 rw [e, BitVec.allOnes_xor, BitVec.toNat_not]
 have e2 : (B (n : Int)).toNat = n := by simp [B]; omega
 rw [e2]; omega
theorem bytesOf_getD (s : ByteArray) (i : Nat) (h : i < s.size) : (bytesOf s).getD i 0 = bt s (i : Int) := by
 have := rd_bytesOf s (i : Int)
 rw [← this]
 simp [rd]
theorem compl_bt (s : ByteArray) (i : Nat) (h : i < s.size) : bt (strOfNums ((bytesOf s).map complB)) i = 255 - bt s (i : Int) := by
 have b := bt_u8 s (i : Int)
 have hl : i < ((bytesOf s).map complB).length := by rw [List.length_map, bytesOf_length]; exact h
 have e : ((bytesOf s).map complB).getD i 0 = 255 - bt s (i : Int) := by
  have := bytesOf_getD s i h
  have hl2 : i < (bytesOf s).length := by rw [bytesOf_length]; exact h
  rw [List.getD_eq_getElem?_getD, List.getElem?_map, List.getElem?_eq_getElem hl2, Option.map_some, Option.getD_some]
  rw [List.getD_eq_getElem?_getD, List.getElem?_eq_getElem hl2, Option.getD_some] at this
  rw [this, complB_eq _ b.1 b.2]
 rw [bt_strOfNums _ _ hl (by rw [e]; omega) (by rw [e]; omega), e]
theorem compl_iff (s : ByteArray) (h : s.size = 24) : (strOfNums ((bytesOf (s.extract 0 12)).map complB) = s.extract 12 s.size) ↔ ∀ i, i < 12 → bt s ((12 + i : Nat) : Int) = 255 - bt s ((i : Nat) : Int) := by
 have z1 : (s.extract 0 12).size = 12 := by rw [ByteArray.size_extract]; omega
 have z2 : (s.extract 12 s.size).size = 12 := by rw [ByteArray.size_extract]; omega
 constructor
 ·intro e i hi
  have e1 := compl_bt (s.extract 0 12) i (by omega)
  rw [e, bt_extract s 12 s.size i (by omega), bt_extract s 0 12 i (by omega), Nat.zero_add] at e1
  exact e1
 ·intro e
  apply bt_ext
  ·rw [strOfNums_size', List.length_map, bytesOf_length, z1, z2]
  ·intro i hi
   rw [strOfNums_size', List.length_map, bytesOf_length, z1] at hi
   rw [compl_bt _ _ (by omega), bt_extract s 12 s.size i (by omega), bt_extract s 0 12 i (by omega), Nat.zero_add, e i hi]
theorem in_eq (a b c : Int) : PSc.entry_in.f a b c = some (decide (b ≤ a ∧ a ≤ c)) := by
 unfold PSc.entry_in.f
 by_cases h1 : a ≥ b
 ·simp [h1, show b ≤ a from h1]
 ·simp [h1, show ¬ b ≤ a from h1]
theorem May_eq (q sl sz sm : Int) : PSc.entry_May.f q sl sz sm = some (recMay q sl sz sm) := by
 unfold PSc.entry_May.f PSc.entry_Slot.f PSc.entry_Size.f recMay
 simp only [in_eq, Option.bind_some]
 by_cases h1 : 1 ≤ q ∧ q ≤ 1048576
 ·by_cases h2 : 0 ≤ sl ∧ sl ≤ 1
  ·by_cases h3 : 1 ≤ sz ∧ sz ≤ 288
   ·simp [h1, h2, h3]
   ·rw [if_pos (by simpa using h1), if_pos (by simpa using h2), if_neg (by simpa using h3)]; congr 1; symm; rw [decide_eq_false_iff_not]; omega
  ·rw [if_pos (by simpa using h1), if_neg (by simpa using h2)]; congr 1; symm; rw [decide_eq_false_iff_not]; omega
 ·rw [if_neg (by simpa using h1)]; congr 1; symm; rw [decide_eq_false_iff_not]; omega
theorem Get_at (s : ByteArray) : PSc.entry_Get.f 7 s = some (getV s) := by
 unfold PSc.entry_Get.f
 by_cases h : s.size = 24
 ·rw [if_pos (by omega), if_pos (by omega), if_pos (by omega)]
  have z1 : (s.extract 0 12).size = 12 := by rw [ByteArray.size_extract]; omega
  have e0 : entry_complement.f (s.extract 0 12) = some (strOfNums ((bytesOf (s.extract 0 12)).map complB)) := by unfold entry_complement.f; rw [if_pos (by omega)]
  rw [e0, Option.bind_some, PSc.entry_Get.j0]
  by_cases hc : strOfNums ((bytesOf (s.extract 0 12)).map complB) = s.extract 12 s.size
  ·rw [hc, bne_self_eq_false, if_neg (by decide), if_pos (by omega), if_pos (by omega), num4_eq _ (by rw [ByteArray.size_extract]; omega), Option.bind_some, if_pos (by omega), if_pos (by omega), num2_eq _ (by rw [ByteArray.size_extract]; omega), Option.bind_some,
    if_pos (by omega), if_pos (by omega), num2_eq _ (by rw [ByteArray.size_extract]; omega), Option.bind_some, if_pos (by omega), if_pos (by omega), num4_eq _ (by rw [ByteArray.size_extract]; omega), Option.bind_some, May_eq, Option.bind_some]
   rw [n4_extract s 0 (by omega), n2_extract s 4 (by omega), n2_extract s 6 (by omega), n4_extract s 8 (by omega)]
   unfold getV
   by_cases hm : recMay (n4 s 0) (n2 s 4) (n2 s 6) (n4 s 8) = true
   ·rw [if_pos hm, if_pos ⟨h, (compl_iff s h).1 hc, hm⟩]
   ·rw [if_neg hm, if_neg (fun x => hm x.2.2)]
  ·have hb : (ByteArray.toList (strOfNums ((bytesOf (s.extract 0 12)).map complB)) != ByteArray.toList (s.extract 12 s.size)) = true := by
    rw [bne_iff_ne]; intro x; exact hc (toList_inj.1 x)
   rw [hb, if_pos rfl]
   unfold getV
   rw [if_neg (fun x => hc ((compl_iff s h).2 x.2.1))]
 ·rw [if_neg (by omega), PSc.entry_Get.j0, if_pos rfl]
  unfold getV
  rw [if_neg (fun x => h x.1)]
theorem Get_ev (s : ByteArray) : Ev (fun k => PSc.entry_Get.f k s) (getV s) := Ev.of (fun k => PSc.entry_Get.mono s k) (Get_at s)
theorem lb_n4 (s : ByteArray) (i : Nat) : lb (n4 s i) 0 = bt s (i : Int) ∧ lb (n4 s i) 1 = bt s ((i + 1 : Nat) : Int) ∧ lb (n4 s i) 2 = bt s ((i + 2 : Nat) : Int) ∧ lb (n4 s i) 3 = bt s ((i + 3 : Nat) : Int) := by
 have b0 := bt_u8 s (i : Int); have b1 := bt_u8 s ((i + 1 : Nat) : Int); have b2 := bt_u8 s ((i + 2 : Nat) : Int); have b3 := bt_u8 s ((i + 3 : Nat) : Int)
 unfold lb n4
 simp only [Nat.mul_zero, Nat.mul_one, show 8 * 2 = 16 from rfl, show 8 * 3 = 24 from rfl, show (2 : Int) ^ 0 = 1 from rfl, show (2 : Int) ^ 8 = 256 from rfl, show (2 : Int) ^ 16 = 65536 from rfl, show (2 : Int) ^ 24 = 16777216 from rfl]
 omega
theorem lb_n2 (s : ByteArray) (i : Nat) : lb (n2 s i) 0 = bt s (i : Int) ∧ lb (n2 s i) 1 = bt s ((i + 1 : Nat) : Int) := by
 have b0 := bt_u8 s (i : Int); have b1 := bt_u8 s ((i + 1 : Nat) : Int)
 unfold lb n2
 simp only [Nat.mul_zero, Nat.mul_one, show (2 : Int) ^ 0 = 1 from rfl, show (2 : Int) ^ 8 = 256 from rfl]
 omega
theorem ent_bt (q sl sz sm : Int) (i : Nat) (h : i < 12) : bt (ent q sl sz sm) ((i : Nat) : Int) = (entL q sl sz sm).getD i 0 ∧ bt (ent q sl sz sm) ((12 + i : Nat) : Int) = 255 - (entL q sl sz sm).getD i 0 := by
 have r : ∀ j, j < 12 → 0 ≤ (entL q sl sz sm).getD j 0 ∧ (entL q sl sz sm).getD j 0 < 256 := by
  intro j hj
  match j, hj with
  | 0, _ => exact lb_range _ _
  | 1, _ => exact lb_range _ _
  | 2, _ => exact lb_range _ _
  | 3, _ => exact lb_range _ _
  | 4, _ => exact lb_range _ _
  | 5, _ => exact ⟨Int.le_refl 0, (by decide : (0 : Int) < 256)⟩
  | 6, _ => exact lb_range _ _
  | 7, _ => exact lb_range _ _
  | 8, _ => exact lb_range _ _
  | 9, _ => exact lb_range _ _
  | 10, _ => exact lb_range _ _
  | 11, _ => exact lb_range _ _
 have hl : (entL q sl sz sm).length = 12 := rfl
 have e1 : (entL q sl sz sm ++ (entL q sl sz sm).map fun x => (255 - x) % 256).getD i 0 = (entL q sl sz sm).getD i 0 := by
  rw [List.getD_eq_getElem?_getD, List.getElem?_append_left (by omega), ← List.getD_eq_getElem?_getD]
 have e2 : (entL q sl sz sm ++ (entL q sl sz sm).map fun x => (255 - x) % 256).getD (12 + i) 0 = 255 - (entL q sl sz sm).getD i 0 := by
  have := r i h
  rw [List.getD_eq_getElem?_getD, List.getElem?_append_right (by omega), hl, show 12 + i - 12 = i by omega, List.getElem?_map]
  rw [List.getD_eq_getElem?_getD] at this ⊢
  rw [List.getElem?_eq_getElem (by omega)] at this ⊢
  simp only [Option.map_some, Option.getD_some] at this ⊢
  omega
 have := r i h
 unfold ent
 constructor
 ·rw [bt_strOfNums _ _ (by simp [hl]; omega) (by rw [e1]; omega) (by rw [e1]; omega), e1]
 ·rw [bt_strOfNums _ _ (by simp [hl]; omega) (by rw [e2]; omega) (by rw [e2]; omega), e2]
/-- The reference's way to say it: put again, it is the same. -/
theorem getOk_iff (s : ByteArray) (h : s.size = 24) : getOk s ↔ recMay (n4 s 0) (bt s ((4 : Nat) : Int)) (n2 s 6) (n4 s 8) = true ∧ ent (n4 s 0) (bt s ((4 : Nat) : Int)) (n2 s 6) (n4 s 8) = s := by
 have q0 := lb_n4 s 0; have q6 := lb_n2 s 6; have q8 := lb_n4 s 8
 have b4 := bt_u8 s ((4 : Nat) : Int); have b5 := bt_u8 s ((5 : Nat) : Int)
 have l4 : lb (bt s ((4 : Nat) : Int)) 0 = bt s ((4 : Nat) : Int) := by unfold lb; simp only [Nat.mul_zero, show (2 : Int) ^ 0 = 1 from rfl]; omega
 have e12 : entL (n4 s 0) (bt s ((4 : Nat) : Int)) (n2 s 6) (n4 s 8) = [bt s ((0 : Nat) : Int), bt s ((1 : Nat) : Int), bt s ((2 : Nat) : Int), bt s ((3 : Nat) : Int), bt s ((4 : Nat) : Int), 0, bt s ((6 : Nat) : Int), bt s ((7 : Nat) : Int), bt s ((8 : Nat) : Int), bt s ((9 : Nat) : Int), bt s ((10 : Nat) : Int), bt s ((11 : Nat) : Int)] := by
  unfold entL
  rw [q0.1, q0.2.1, q0.2.2.1, q0.2.2.2, q6.1, q6.2, q8.1, q8.2.1, q8.2.2.1, q8.2.2.2, l4]
 constructor
 ·rintro ⟨_, hc, hm⟩
  have z5 : bt s ((5 : Nat) : Int) = 0 := by
   unfold recMay at hm
   have := of_decide_eq_true hm
   have e : n2 s 4 = bt s ((4 : Nat) : Int) + 256 * bt s ((5 : Nat) : Int) := rfl
   omega
  have e2 : n2 s 4 = bt s ((4 : Nat) : Int) := by
   have e : n2 s 4 = bt s ((4 : Nat) : Int) + 256 * bt s ((5 : Nat) : Int) := rfl
   omega
  refine ⟨by rw [← e2]; exact hm, ?_⟩
  have low : ∀ j, j < 12 → (entL (n4 s 0) (bt s ((4 : Nat) : Int)) (n2 s 6) (n4 s 8)).getD j 0 = bt s ((j : Nat) : Int) := by
   intro j hj
   rw [e12]
   match j, hj with
   | 0, _ => rfl
   | 1, _ => rfl
   | 2, _ => rfl
   | 3, _ => rfl
   | 4, _ => rfl
   | 5, _ => exact z5.symm
   | 6, _ => rfl
   | 7, _ => rfl
   | 8, _ => rfl
   | 9, _ => rfl
   | 10, _ => rfl
   | 11, _ => rfl
  apply bt_ext
  ·rw [ent_size, h]
  ·intro i hi
   rw [ent_size] at hi
   by_cases c : i < 12
   ·rw [(ent_bt _ _ _ _ i c).1, low i c]
   ·obtain ⟨j, rfl⟩ : ∃ j, i = 12 + j := ⟨i - 12, by omega⟩
    rw [(ent_bt _ _ _ _ j (by omega)).2, low j (by omega), hc j (by omega)]
 ·rintro ⟨hm, he⟩
  have low : ∀ j, j < 12 → bt s ((j : Nat) : Int) = (entL (n4 s 0) (bt s ((4 : Nat) : Int)) (n2 s 6) (n4 s 8)).getD j 0 := by
   intro j hj
   have := (ent_bt (n4 s 0) (bt s ((4 : Nat) : Int)) (n2 s 6) (n4 s 8) j hj).1
   rw [he] at this
   exact this
  have z5 : bt s ((5 : Nat) : Int) = 0 := (low 5 (by omega)).trans (by rw [e12]; rfl)
  have e2 : n2 s 4 = bt s ((4 : Nat) : Int) := by
   have e : n2 s 4 = bt s ((4 : Nat) : Int) + 256 * bt s ((5 : Nat) : Int) := rfl
   omega
  refine ⟨h, fun i hi => ?_, by rw [e2]; exact hm⟩
  have := (ent_bt (n4 s 0) (bt s ((4 : Nat) : Int)) (n2 s 6) (n4 s 8) i hi).2
  rw [he] at this
  rw [this, low i hi]
theorem GetEntry_at (s : ByteArray) : skiffref1_GetEntry.f 6 s = some (getV s) := by
 unfold skiffref1_GetEntry.f
 by_cases h : s.size = 24
 ·rw [if_pos (by omega), if_pos (by omega), if_pos (by omega), of4_eq _ (by rw [ByteArray.size_extract]; omega), Option.bind_some, if_pos (by omega), if_pos (by omega), if_pos (by omega), of2_eq _ (by rw [ByteArray.size_extract]; omega), Option.bind_some,
   if_pos (by omega), if_pos (by omega), of4_eq _ (by rw [ByteArray.size_extract]; omega), Option.bind_some, PutEntry_at _ _ _ _ 6 rfl, Option.bind_some]
  rw [n4_extract s 0 (by omega), n2_extract s 6 (by omega), n4_extract s 8 (by omega)]
  have b4 := bt_u8 s ((4 : Nat) : Int)
  have w4 : wrap64 (bt s 4) = bt s ((4 : Nat) : Int) := by show wrap64 (bt s ((4 : Nat) : Int)) = _; unfold wrap64; omega
  rw [w4]
  unfold getV
  by_cases hm : recMay (n4 s 0) (bt s ((4 : Nat) : Int)) (n2 s 6) (n4 s 8) = true
  ·rw [if_pos hm, if_pos rfl]
   by_cases he : ent (n4 s 0) (bt s ((4 : Nat) : Int)) (n2 s 6) (n4 s 8) = s
   ·have ok := (getOk_iff s h).2 ⟨hm, he⟩
    have e2 : n2 s 4 = bt s ((4 : Nat) : Int) := by
     have e : n2 s 4 = bt s ((4 : Nat) : Int) + 256 * bt s ((5 : Nat) : Int) := rfl
     have hm2 := of_decide_eq_true ok.2.2
     have b5 := bt_u8 s ((5 : Nat) : Int)
     omega
    rw [if_pos (by rw [he]), if_pos ok, e2]
   ·rw [if_neg (fun x => he (toList_inj.1 x)), if_neg (fun x => he ((getOk_iff s h).1 x).2)]
  ·rw [if_neg hm, if_neg (by decide), if_neg (fun x => hm ((getOk_iff s h).1 x).1)]
 ·rw [if_neg (by omega)]
  unfold getV
  rw [if_neg (fun x => h x.1)]
theorem GetEntry_ev (s : ByteArray) : Ev (fun k => skiffref1_GetEntry.f k s) (getV s) := Ev.of (fun k => skiffref1_GetEntry.mono s k) (GetEntry_at s)
/-- A record that was put is found. -/
theorem getV_ent (q sl sz sm : Int) (h : recMay q sl sz sm = true) : getV (ent q sl sz sm) = (q, sl, sz, sm, 0) := by
 have hm := of_decide_eq_true h
 have lo : ∀ j, j < 12 → bt (ent q sl sz sm) ((j : Nat) : Int) = (entL q sl sz sm).getD j 0 := fun j hj => (ent_bt q sl sz sm j hj).1
 have e0 : n4 (ent q sl sz sm) 0 = q := by
  unfold n4
  rw [lo 0 (by omega), lo (0 + 1) (by omega), lo (0 + 2) (by omega), lo (0 + 3) (by omega)]
  show lb q 0 + 256 * lb q 1 + 65536 * lb q 2 + 16777216 * lb q 3 = q
  unfold lb
  simp only [Nat.mul_zero, Nat.mul_one, show 8 * 2 = 16 from rfl, show 8 * 3 = 24 from rfl, show (2 : Int) ^ 0 = 1 from rfl, show (2 : Int) ^ 8 = 256 from rfl, show (2 : Int) ^ 16 = 65536 from rfl, show (2 : Int) ^ 24 = 16777216 from rfl]
  omega
 have e8 : n4 (ent q sl sz sm) 8 = sm := by
  unfold n4
  rw [lo 8 (by omega), lo (8 + 1) (by omega), lo (8 + 2) (by omega), lo (8 + 3) (by omega)]
  show lb sm 0 + 256 * lb sm 1 + 65536 * lb sm 2 + 16777216 * lb sm 3 = sm
  unfold lb
  simp only [Nat.mul_zero, Nat.mul_one, show 8 * 2 = 16 from rfl, show 8 * 3 = 24 from rfl, show (2 : Int) ^ 0 = 1 from rfl, show (2 : Int) ^ 8 = 256 from rfl, show (2 : Int) ^ 16 = 65536 from rfl, show (2 : Int) ^ 24 = 16777216 from rfl]
  omega
 have e4 : n2 (ent q sl sz sm) 4 = sl := by
  unfold n2
  rw [lo 4 (by omega), lo (4 + 1) (by omega)]
  show lb sl 0 + 256 * 0 = sl
  unfold lb
  simp only [Nat.mul_zero, show (2 : Int) ^ 0 = 1 from rfl]
  omega
 have e6 : n2 (ent q sl sz sm) 6 = sz := by
  unfold n2
  rw [lo 6 (by omega), lo (6 + 1) (by omega)]
  show lb sz 0 + 256 * lb sz 1 = sz
  unfold lb
  simp only [Nat.mul_zero, Nat.mul_one, show (2 : Int) ^ 0 = 1 from rfl, show (2 : Int) ^ 8 = 256 from rfl]
  omega
 unfold getV
 have ok : getOk (ent q sl sz sm) := ⟨ent_size q sl sz sm, fun i hi => by rw [(ent_bt q sl sz sm i hi).2, lo i hi], by rw [e0, e4, e6, e8]; exact h⟩
 rw [if_pos ok, e0, e4, e6, e8]
end Go.Proofs.Ytjadcjkjpkkmkaa.M

/- Plain facts: what a step of flash makes of it, cut or whole, by the program and by the reference; no memory in sight. -/
set_option linter.unnecessarySimpa false
set_option linter.unusedSimpArgs false
set_option linter.unusedVariables false
namespace Go.Proofs.Ytjadcjkjpkkmkaa.M
open Go.RowKit Go.Proofs.YtjadcjkjpkkmkaaW.PrintWords Go.Proofs.YtjadcjkjpkkmkaaW.PrintLast Go.Proofs.YtjadcjkjpkkmkaaW.PrintMore Go.Proofs.Ytjadcjkjpkkmkaa.Hand Go.Proofs.Ytjadcjkjpkkmkaa.PAll
/-- As much of a step as is told. -/
def doF (f : ByteArray) (e : Bool) (a : Int) (t : ByteArray) (cut : Int) : ByteArray := if e = true then wornF f (a.toNat / 96) cut.toNat else tornF f a.toNat t (mn cut 32)
def cutOk (f : ByteArray) (e : Bool) (a : Int) (t : ByteArray) (cut : Int) : Prop := f.size = 768 ∧ opMay e a t = true ∧ 0 ≤ cut ∧ cut ≤ 96
instance (f : ByteArray) (e : Bool) (a : Int) (t : ByteArray) (cut : Int) : Decidable (cutOk f e a t cut) := by unfold cutOk; exact inferInstance
def cutV (f : ByteArray) (e : Bool) (a : Int) (t : ByteArray) (cut : Int) : ByteArray × Int := if cutOk f e a t cut then (doF f e a t cut, 0) else (⟨#[]⟩, 300)
theorem opMay_true {a : Int} {t : ByteArray} (h : opMay true a t = true) : 0 ≤ a ∧ a ≤ 672 ∧ a % 96 = 0 ∧ t.size = 0 := by
 unfold opMay at h; rw [if_pos rfl] at h; exact of_decide_eq_true h
theorem opMay_false {a : Int} {t : ByteArray} (h : opMay false a t = true) : 0 ≤ a ∧ a ≤ 764 ∧ a % 4 = 0 ∧ t.size = 4 := by
 unfold opMay at h; rw [if_neg (by decide)] at h; exact of_decide_eq_true h
theorem mn32 (cut : Int) (h0 : 0 ≤ cut) : 0 ≤ mn cut 32 ∧ mn cut 32 ≤ 32 := by unfold mn; split <;> omega
theorem ref_Torn_eq (f : ByteArray) (a : Int) (t : ByteArray) (m : Int) (hf : f.size = 768) (ha : 0 ≤ a ∧ a ≤ 764 ∧ a % 4 = 0 ∧ t.size = 4) (h0 : 0 ≤ m) (h1 : m ≤ 32) : skiffref1_Torn.f f a t m = some (tornF f a.toNat t m, 0) := by
 unfold skiffref1_Torn.f
 rw [if_pos (by omega), if_pos (by omega), if_pos (by omega), if_pos (by rw [Int.tmod_eq_emod_of_nonneg ha.1]; exact ha.2.2.1), if_pos (by omega), if_pos (by omega), if_pos (by omega), rtornF_eq f a.toNat t m (by omega) h0 h1]
theorem ref_Cut_no (f : ByteArray) (e : Bool) (a : Int) (t : ByteArray) (cut : Int) : Ev (fun k => skiffref1_Cut.j0 k f cut true e a t) (⟨#[]⟩, 300) :=
 Ev.one fun k => by simp only [skiffref1_Cut.j0, if_true]
theorem ref_Cut_ev (f : ByteArray) (e : Bool) (a : Int) (t : ByteArray) (cut : Int) : Ev (fun k => skiffref1_Cut.f k f e a t cut) (cutV f e a t cut) := by
 unfold skiffref1_Cut.f skiffref1_FlashMay.f
 simp only [Option.bind_some, ref_OpMay_eq e a t, upTo_eq]
 by_cases h1 : f.size = 768
 ·have e1 : ((f.size : Int) == 768) = true := by simp; omega
  simp only [e1, if_true]
  cases h2 : opMay e a t with
  | false =>
   simp only [Bool.false_eq_true, if_false]
   unfold cutV
   rw [if_neg (by unfold cutOk; rw [h2]; simp)]
   exact ref_Cut_no f e a t cut
  | true =>
   simp only [if_true]
   by_cases h4 : 0 ≤ cut ∧ cut ≤ 96
   ·have e4 : decide (0 ≤ cut ∧ cut ≤ 96) = true := by simpa using h4
    simp only [e4, Bool.not_true]
    unfold cutV
    rw [if_pos ⟨h1, h2, h4.1, h4.2⟩]
    cases e with
    | true =>
     obtain ⟨m0, m1, m2, m3⟩ := opMay_true h2
     have hw : wrap64 (Int.tdiv a 96) = a / 96 := by rw [Int.tdiv_eq_ediv_of_nonneg m0]; exact wrap_id (by omega)
     refine Ev.step (f := fun k => (skiffref1_Worn.f k f (a / 96) cut).bind fun bt345 => (some (bt345.1, bt345.2))) (fun k => by simp only [skiffref1_Cut.j0, Bool.false_eq_true, if_false, if_true, hw]) ?_
     refine Ev.bind (ref_Worn_ev f (a / 96) cut h1 (by omega) (by omega) h4.1 h4.2) (Ev.always fun k => ?_)
     unfold doF
     rw [if_pos rfl, show (a / 96).toNat = a.toNat / 96 by omega]
    | false =>
     have hm := opMay_false h2
     have hc := mn32 cut h4.1
     refine Ev.one fun k => ?_
     simp only [skiffref1_Cut.j0, Bool.false_eq_true, if_false]
     rw [ref_Torn_eq f a t (mn cut 32) h1 hm hc.1 hc.2]
     rfl
   ·have e4 : decide (0 ≤ cut ∧ cut ≤ 96) = false := decide_eq_false h4
    simp only [e4, Bool.not_false]
    unfold cutV
    rw [if_neg (by unfold cutOk; omega)]
    exact ref_Cut_no f e a t cut
 ·have e1 : ((f.size : Int) == 768) = false := by simp; omega
  simp only [e1, Bool.false_eq_true, if_false]
  unfold cutV
  rw [if_neg (by unfold cutOk; omega)]
  exact ref_Cut_no f e a t cut
theorem ref_Do_ev (f : ByteArray) (e : Bool) (a : Int) (t : ByteArray) : Ev (fun k => skiffref1_Do.f k f e a t) (cutV f e a t 96) := by
 unfold skiffref1_Do.f
 exact Ev.bind (ref_Cut_ev f e a t 96) (Ev.always fun k => rfl)
theorem Blank_ev : Ev (fun k => skiffref1_Blank.f k) (ff 768) := by
 unfold skiffref1_Blank.f
 exact Ev.bind (full_ev 768 (by omega) (by omega)) (Ev.always fun k => rfl)
/-- Which bytes a step reaches. -/
def width (e : Bool) : Nat := if e = true then 96 else 4
end Go.Proofs.Ytjadcjkjpkkmkaa.M

/- Plain facts: the records of a flash, by the program and by the reference: the same; the first free place; no memory in sight. -/
set_option linter.unnecessarySimpa false
set_option linter.unusedSimpArgs false
set_option linter.unusedVariables false
namespace Go.Proofs.Ytjadcjkjpkkmkaa.M
open Go.RowKit Go.Proofs.YtjadcjkjpkkmkaaW.PrintWords Go.Proofs.YtjadcjkjpkkmkaaW.PrintLast Go.Proofs.YtjadcjkjpkkmkaaW.PrintMore Go.Proofs.Ytjadcjkjpkkmkaa.Hand Go.Proofs.Ytjadcjkjpkkmkaa.PAll
/-- The bytes of place j. -/
def pl (f : ByteArray) (j : Nat) : ByteArray := f.extract (24 * j) (24 * j + 24)
/-- What is told of one place. -/
def told (j : Nat) (g : Int × Int × Int × Int × Int) : List S25 := if g.2.2.2.2 = 0 then [⟨24 * (j : Int), ⟨g.1, g.2.1, g.2.2.1, g.2.2.2.1⟩⟩] else []
def scanL (f : ByteArray) : Nat → List S25
 | 0 => []
 | n + 1 => scanL f n ++ told n (getV (pl f n))
def scanV (f : ByteArray) : List S25 × Int := if f.size = 768 then (scanL f 8, 0) else ([], 500)
theorem told_length (j : Nat) (g : Int × Int × Int × Int × Int) : (told j g).length ≤ 1 := by unfold told; split <;> simp
theorem scanL_length (f : ByteArray) (n : Nat) : (scanL f n).length ≤ n := by
 induction n with
 | zero => simp [scanL]
 | succ n ih => have := told_length n (getV (pl f n)); simp only [scanL, List.length_append]; omega
theorem at_eq (f : ByteArray) (j : Nat) (hf : f.size = 768) (hj : j < 8) (a : Int) (ha : a = 24 * (j : Int)) : PSc.journal_at.f f a = some (pl f j) := by
 subst ha
 unfold PSc.journal_at.f
 have w : wrap64 (24 * (j : Int) + 24) = 24 * (j : Int) + 24 := wrap_id (by omega)
 rw [w, if_pos (by omega), if_pos (by omega), if_pos (by omega)]
 congr 2 <;> omega
def toSc (x : S25) : PSc.S25 := ⟨x.f0, ⟨x.f1.f0, x.f1.f1, x.f1.f2, x.f1.f3⟩⟩
theorem scan_go (f : ByteArray) (hf : f.size = 768) (d : Nat) : ∀ (j : Nat), j + d = 8 → Ev (fun k => PSc.journal_Scan.l0 k f ((scanL f j).map toSc) (j : Int)) ((scanL f 8).map toSc, 0) := by
 induction d with
 | zero =>
  intro j hj
  obtain rfl : j = 8 := by omega
  exact Ev.one fun k => by rw [PSc.journal_Scan.l0, if_neg (by omega)]
 | succ d ih =>
  intro j hj
  have h1 := ih (j + 1) (by omega)
  have w : wrap64 ((j : Int) + 1) = ((j + 1 : Nat) : Int) := by rw [wrap_id (by omega)]; omega
  refine Ev.step (f := fun k => (PSc.entry_Get.f k (pl f j)).bind fun bt339 => (if bt339.2.2.2.2 = 0 then (if ((scanL f j).map toSc).length < 3518437208883 then (PSc.journal_Scan.l0 k f ((scanL f j).map toSc ++ [(⟨24 * (j : Int), (⟨bt339.1, bt339.2.1, bt339.2.2.1, bt339.2.2.2.1⟩ : PSc.S23)⟩ : PSc.S25)]) ((j + 1 : Nat) : Int)) else (none)) else (PSc.journal_Scan.l0 k f ((scanL f j).map toSc) ((j + 1 : Nat) : Int)))) (fun k => ?_) ?_
  ·rw [PSc.journal_Scan.l0, if_pos (by omega), at_eq f j hf (by omega) _ (by rw [wrap_id (by omega)]; omega), Option.bind_some, w, wrap_id (x := (j : Int) * 24) (by omega), Int.mul_comm (j : Int) 24]
  ·refine Ev.bind (Get_ev (pl f j)) ?_
   have hl := scanL_length f j
   unfold scanL told at h1
   rw [List.map_append] at h1
   by_cases c : (getV (pl f j)).2.2.2.2 = 0
   ·rw [if_pos c] at h1
    simp only [if_pos c, if_pos (show ((scanL f j).map toSc).length < 3518437208883 by rw [List.length_map]; omega)]
    exact h1
   ·rw [if_neg c, List.map_nil, List.append_nil] at h1
    simp only [if_neg c]
    exact h1
theorem Scan_ev (f : ByteArray) : Ev (fun k => PSc.journal_Scan.f k f) ((scanV f).1.map toSc, (scanV f).2) := by
 unfold PSc.journal_Scan.f scanV PSc.nor_May.f
 by_cases h : f.size = 768
 ·have e : ((f.size : Int) == 768) = true := by simp; omega
  simp only [Option.bind_some, e, if_true, if_pos h]
  exact scan_go f h 8 0 rfl
 ·have e : ((f.size : Int) == 768) = false := by simp; omega
  simp only [Option.bind_some, e, if_neg h]
  exact Ev.now _
theorem rscan_go (f : ByteArray) (hf : f.size = 768) (s : Nat) (hs : s < 2) (r : List S25 × Int) (hn : Ev (fun k => skiffref1_Scan.l0 k f (scanL f (4 * s + 4)) ((s + 1 : Nat) : Int)) r) (d : Nat) :
  ∀ (j : Nat), j + d = 4 * s + 4 → 4 * s ≤ j → Ev (fun k => skiffref1_Scan.l1 k f (scanL f j) (s : Int) (24 * (j : Int))) r := by
 have w1 : wrap64 ((s : Int) + 1) = ((s + 1 : Nat) : Int) := by rw [wrap_id (by omega)]; omega
 have w2 : wrap64 (((s + 1 : Nat) : Int) * 96) = 96 * (s : Int) + 96 := by rw [wrap_id (by omega)]; omega
 induction d with
 | zero =>
  intro j hj _
  obtain rfl : j = 4 * s + 4 := by omega
  refine Ev.step (fun k => ?_) hn
  rw [skiffref1_Scan.l1, w1, w2, if_neg (by rw [wrap_id (by omega)]; omega)]
 | succ d ih =>
  intro j hj h4
  have h1 := ih (j + 1) (by omega) (by omega)
  have w : wrap64 (24 * (j : Int) + 24) = 24 * ((j + 1 : Nat) : Int) := by rw [wrap_id (by omega)]; omega
  refine Ev.step (f := fun k => (skiffref1_GetEntry.f k (pl f j)).bind fun bt361 => (if bt361.2.2.2.2 = 0 then (if (scanL f j).length < 3518437208883 then (skiffref1_Scan.l1 k f (scanL f j ++ [(⟨24 * (j : Int), (⟨bt361.1, bt361.2.1, bt361.2.2.1, bt361.2.2.2.1⟩ : S23)⟩ : S25)]) (s : Int) (24 * ((j + 1 : Nat) : Int))) else (none)) else (skiffref1_Scan.l1 k f (scanL f j) (s : Int) (24 * ((j + 1 : Nat) : Int))))) (fun k => ?_) ?_
  ·rw [skiffref1_Scan.l1, w1, w2, w, if_pos (by omega), if_pos (by omega), if_pos (by omega), if_pos (by omega), show f.extract (24 * (j : Int)).toNat (24 * ((j + 1 : Nat) : Int)).toNat = pl f j by unfold pl; congr 1 <;> omega]
  ·refine Ev.bind (GetEntry_ev (pl f j)) ?_
   have hl := scanL_length f j
   unfold scanL told at h1
   by_cases c : (getV (pl f j)).2.2.2.2 = 0
   ·rw [if_pos c] at h1
    simp only [if_pos c, if_pos (show (scanL f j).length < 3518437208883 by omega)]
    exact h1
   ·rw [if_neg c, List.append_nil] at h1
    simp only [if_neg c]
    exact h1
theorem rscan_all (f : ByteArray) (hf : f.size = 768) : Ev (fun k => skiffref1_Scan.l0 k f [] 0) (scanL f 8, 0) := by
 have e2 : Ev (fun k => skiffref1_Scan.l0 k f (scanL f 8) ((2 : Nat) : Int)) (scanL f 8, 0) := Ev.one fun k => by rw [skiffref1_Scan.l0, if_neg (by omega)]
 have e1 : Ev (fun k => skiffref1_Scan.l0 k f (scanL f 4) ((1 : Nat) : Int)) (scanL f 8, 0) :=
  Ev.step (fun k => by rw [skiffref1_Scan.l0, if_pos (by omega), show wrap64 (((1 : Nat) : Int) * 96) = 24 * ((4 : Nat) : Int) by unfold wrap64; omega]) (rscan_go f hf 1 (by omega) _ e2 4 4 (by omega) (by omega))
 exact Ev.step (fun k => by rw [skiffref1_Scan.l0, if_pos (by omega), show wrap64 ((0 : Int) * 96) = 24 * ((0 : Nat) : Int) by unfold wrap64; omega]; rfl) (rscan_go f hf 0 (by omega) _ e1 4 0 (by omega) (by omega))
theorem ref_Scan_ev (f : ByteArray) : Ev (fun k => skiffref1_Scan.f k f) (scanV f) := by
 unfold skiffref1_Scan.f scanV skiffref1_FlashMay.f
 by_cases h : f.size = 768
 ·have e : ((f.size : Int) == 768) = true := by simp; omega
  simp only [Option.bind_some, e, if_true, if_pos h]
  exact rscan_all f h
 ·have e : ((f.size : Int) == 768) = false := by simp; omega
  simp only [Option.bind_some, e, if_neg h]
  exact Ev.now _
/-- The first place from j on, of n, that is blank. -/
def freeL (f : ByteArray) (j : Nat) : Nat → Int × Bool × Int
 | 0 => (0, false, 0)
 | n + 1 => if pl f j = ff 24 then (24 * (j : Int), true, 0) else freeL f (j + 1) n
def freeV (f : ByteArray) (s : Int) : Int × Bool × Int := if f.size = 768 ∧ 0 ≤ s ∧ s < 2 then freeL f (4 * s.toNat) 4 else (0, false, 500)
theorem rfree_go (f : ByteArray) (hf : f.size = 768) (s : Nat) (hs : s < 2) (n : Nat) : ∀ (j : Nat), j + n = 4 * s + 4 → Ev (fun k => skiffref1_FreePlace.l0 k f (s : Int) (24 * (j : Int))) (freeL f j n) := by
 have w1 : wrap64 ((s : Int) + 1) = ((s + 1 : Nat) : Int) := by rw [wrap_id (by omega)]; omega
 have w2 : wrap64 (((s + 1 : Nat) : Int) * 96) = 96 * (s : Int) + 96 := by rw [wrap_id (by omega)]; omega
 induction n with
 | zero =>
  intro j hj
  obtain rfl : j = 4 * s + 4 := by omega
  exact Ev.one fun k => by rw [skiffref1_FreePlace.l0, w1, w2, if_neg (by rw [wrap_id (by omega)]; omega)]; rfl
 | succ n ih =>
  intro j hj
  have h1 := ih (j + 1) (by omega)
  have w : wrap64 (24 * (j : Int) + 24) = 24 * ((j + 1 : Nat) : Int) := by rw [wrap_id (by omega)]; omega
  refine Ev.step (f := fun k => (skiffref1_full.f k 24).bind fun t405 => (if (pl f j).toList = t405.toList then (some (24 * (j : Int), true, 0)) else (skiffref1_FreePlace.l0 k f (s : Int) (24 * ((j + 1 : Nat) : Int))))) (fun k => ?_) ?_
  ·rw [skiffref1_FreePlace.l0, w1, w2, w, if_pos (by omega), if_pos (by omega), if_pos (by omega), if_pos (by omega), show f.extract (24 * (j : Int)).toNat (24 * ((j + 1 : Nat) : Int)).toNat = pl f j by unfold pl; congr 1 <;> omega]
  ·refine Ev.bind (full_ev 24 (by omega) (by omega)) ?_
   unfold freeL
   by_cases c : pl f j = ff 24
   ·have e : (pl f j).toList = (ff (24 : Int).toNat).toList := by rw [c]; rfl
    simp only [if_pos c, if_pos e]; exact Ev.now _
   ·have e : ¬ (pl f j).toList = (ff (24 : Int).toNat).toList := fun x => c (toList_inj.1 x)
    simp only [if_neg c, if_neg e]; exact h1
theorem ref_Free_ev (f : ByteArray) (s : Int) : Ev (fun k => skiffref1_FreePlace.f k f s) (freeV f s) := by
 have no : Ev (fun k => skiffref1_FreePlace.j0 k f s true) (0, false, 500) := Ev.one fun k => by rw [skiffref1_FreePlace.j0, if_pos rfl]
 unfold skiffref1_FreePlace.f freeV skiffref1_FlashMay.f
 by_cases h : f.size = 768
 ·have e : ((f.size : Int) == 768) = true := by simp; omega
  simp only [Option.bind_some, e, if_true, upTo_eq]
  by_cases h1 : 0 ≤ s ∧ s ≤ 1
  ·rw [if_pos (by omega), decide_eq_true h1]
   obtain ⟨n, rfl⟩ := Int.eq_ofNat_of_zero_le h1.1
   exact Ev.step (fun k => by rw [skiffref1_FreePlace.j0, if_neg (by decide), wrap_id (x := (n : Int) * 96) (by omega), show (n : Int) * 96 = 24 * ((4 * n : Nat) : Int) by omega]) (rfree_go f h n (by omega) 4 (4 * n) rfl)
  ·rw [if_neg (by omega), decide_eq_false h1]
   exact no
 ·have e : ((f.size : Int) == 768) = false := by simp; omega
  simp only [Option.bind_some, e]
  rw [if_neg (by omega)]
  exact no
end Go.Proofs.Ytjadcjkjpkkmkaa.M

/- Plain facts: a text in words, by the program and by the reference: the same; no memory in sight. -/
set_option linter.unnecessarySimpa false
set_option linter.unusedSimpArgs false
set_option linter.unusedVariables false
namespace Go.Proofs.Ytjadcjkjpkkmkaa.M
open Go.RowKit Go.Proofs.YtjadcjkjpkkmkaaW.PrintWords Go.Proofs.YtjadcjkjpkkmkaaW.PrintLast Go.Proofs.YtjadcjkjpkkmkaaW.PrintMore Go.Proofs.Ytjadcjkjpkkmkaa.Hand Go.Proofs.Ytjadcjkjpkkmkaa.PAll
/-- Word i of a text: its four bytes from 4 i on, the last ones 255. -/
def wordAt (t : ByteArray) (i : Nat) : ByteArray := t.extract (4 * i) (4 * i + 4) ++ ff (4 - (t.size - 4 * i))
def many (t : ByteArray) : Nat := (t.size + 3) / 4
/-- A text in words. -/
def wl (a : Int) (t : ByteArray) (n : Nat) : List S87 := (List.range n).map fun (i : Nat) => (⟨false, a + 4 * (i : Int), wordAt t i⟩ : S87)
theorem wl_succ (a : Int) (t : ByteArray) (n : Nat) : wl a t (n + 1) = wl a t n ++ [⟨false, a + 4 * (n : Int), wordAt t n⟩] := by
 unfold wl; rw [List.range_succ, List.map_append]; rfl
theorem wl_length (a : Int) (t : ByteArray) (n : Nat) : (wl a t n).length = n := by simp [wl]
theorem wl_rd (a : Int) (t : ByteArray) (n i : Nat) (h : i < n) : rd_T87 (wl a t n) i = ⟨false, a + 4 * (i : Int), wordAt t i⟩ := by
 unfold rd_T87 wl
 simp [List.getD_eq_getElem?_getD, h]
theorem wordAt_size (t : ByteArray) (i : Nat) (h : 4 * i < t.size) : (wordAt t i).size = 4 := by
 unfold wordAt; rw [ByteArray.size_append, ByteArray.size_extract, ff_size]; omega
theorem wordAt_bt (t : ByteArray) (i j : Nat) (h : 4 * i < t.size) (hj : j < 4) : bt (wordAt t i) j = if 4 * i + j < t.size then bt t ((4 * i + j : Nat) : Int) else 255 := by
 have s1 : (t.extract (4 * i) (4 * i + 4)).size = min (4 * i + 4) t.size - 4 * i := by rw [ByteArray.size_extract]
 unfold wordAt
 rw [bt_append, s1]
 by_cases c : 4 * i + j < t.size
 ·rw [if_pos (by omega), if_pos c, bt_extract _ _ _ _ (by omega)]
 ·rw [if_neg (by omega), if_neg c, ff_bt _ _ (by omega)]
def wordsOk (a : Int) (t : ByteArray) : Prop := 0 ≤ a ∧ a ≤ 768 ∧ a % 4 = 0 ∧ (t.size : Int) ≤ 768 - a
instance (a : Int) (t : ByteArray) : Decidable (wordsOk a t) := by unfold wordsOk; exact inferInstance
def wordsV (a : Int) (t : ByteArray) : List S87 × Int := if wordsOk a t then (wl a t (many t), 0) else ([], 300)
theorem refwords_go (a : Int) (t u : ByteArray) (h0 : 0 ≤ a) (h1 : a ≤ 768) (ht : t.size ≤ 768) (hu : u.size = 4 * many t) (hut : ∀ i, i < many t → u.extract (4 * i) (4 * i + 4) = wordAt t i) (d : Nat) : ∀ (k i : Nat), i ≤ many t → many t - i = d → d < k →
  skiffref1_Words.l0 k a u (wl a t i) (4 * (i : Int)) = some (wl a t (many t), 0) := by
 have hmt : many t ≤ 192 := by unfold many; omega
 induction d with
 | zero =>
  intro k i hi hd hk
  obtain ⟨k, rfl⟩ : ∃ m, k = m + 1 := ⟨k - 1, by omega⟩
  obtain rfl : i = many t := by omega
  simp only [skiffref1_Words.l0]
  rw [if_neg (by omega)]
 | succ d ih =>
  intro k i hi hd hk
  obtain ⟨k, rfl⟩ : ∃ m, k = m + 1 := ⟨k - 1, by omega⟩
  simp only [skiffref1_Words.l0]
  have hw : wrap64 (4 * (i : Int) + 4) = 4 * (i : Int) + 4 := wrap_id (by omega)
  have hw2 : wrap64 (a + 4 * (i : Int)) = a + 4 * (i : Int) := wrap_id (by omega)
  rw [if_pos (by omega), if_pos (by omega), hw, hw2, if_pos (by omega), if_pos (by omega), if_pos (by rw [wl_length]; omega)]
  rw [show (4 * (i : Int)).toNat = 4 * i by omega, show (4 * (i : Int) + 4).toNat = 4 * i + 4 by omega, hut i (by omega)]
  have := ih k (i + 1) (by omega) (by omega) (by omega)
  rw [wl_succ, show 4 * ((i + 1 : Nat) : Int) = 4 * (i : Int) + 4 by omega] at this
  exact this
theorem ref_Words_no (a : Int) (t : ByteArray) : Ev (fun k => skiffref1_Words.j0 k a t true) ([], 300) := Ev.one fun k => by simp only [skiffref1_Words.j0, if_true]
theorem ref_Words_ev (a : Int) (t : ByteArray) (ha : I64 a) (ht : t.size ≤ 140737488351232) : Ev (fun k => skiffref1_Words.f k a t) (wordsV a t) := by
 unfold skiffref1_Words.f wordsV
 simp only [upTo_eq, Option.bind_some]
 by_cases h0 : 0 ≤ a ∧ a ≤ 768
 ·have e0 : decide (0 ≤ a ∧ a ≤ 768) = true := decide_eq_true h0
  simp only [e0, if_true]
  have hm : Int.tmod a 4 = a % 4 := Int.tmod_eq_emod_of_nonneg (by omega)
  simp only [hm]
  by_cases h2 : a % 4 = 0
  ·simp only [if_pos h2]
   have hw : wrap64 (768 - a) = 768 - a := wrap_id (by omega)
   simp only [hw]
   by_cases h3 : (t.size : Int) > 768 - a
   ·have e3 : decide ((t.size : Int) > 768 - a) = true := decide_eq_true h3
    simp only [e3]
    rw [if_neg (by unfold wordsOk; omega)]
    exact ref_Words_no a t
   ·have e3 : decide ((t.size : Int) > 768 - a) = false := decide_eq_false h3
    simp only [e3]
    rw [if_pos ⟨by omega, by omega, h2, by omega⟩]
    refine Ev.step (f := fun k => (skiffref1_full.f k ((4 - ((t.size : Int) % 4)) % 4)).bind fun t150 => (if t.size + t150.size ≤ 9223372036854775807 then (skiffref1_Words.l0 k a (t ++ t150) ([] : List (S87)) 0) else (none))) (fun k => by simp only [skiffref1_Words.j0, Bool.false_eq_true, if_false]) ?_
    refine Ev.bind (full_ev _ (by omega) (by omega)) ?_
    obtain ⟨p, hp⟩ : ∃ p : Nat, ((4 - ((t.size : Int) % 4)) % 4).toNat = p := ⟨_, rfl⟩
    rw [hp]
    have hpm : t.size + p = 4 * many t := by unfold many; omega
    simp only [ff_size, if_pos (show t.size + p ≤ 9223372036854775807 by omega)]
    refine Ev.of (fun k => (skiffref1_Words.mono_l k).2 _ _ _ _) (k := many t + 1) ?_
    have hu : (t ++ ff p).size = 4 * many t := by rw [ByteArray.size_append, ff_size]; omega
    have := refwords_go a t (t ++ ff p) (by omega) (by omega) (by omega) hu (fun i hi => ?_) (many t) (many t + 1) 0 (by omega) (by omega) (by omega)
    ·simpa [wl] using this
    ·have hlt : 4 * i < t.size := by unfold many at hi; omega
     apply bt_ext
     ·rw [wordAt_size t i hlt, ByteArray.size_extract, hu]; omega
     ·intro j hj
      rw [ByteArray.size_extract, hu] at hj
      rw [wordAt_bt t i j hlt (by omega), bt_extract _ _ _ _ (by omega), bt_append]
      by_cases c : 4 * i + j < t.size
      ·rw [if_pos c, if_pos c]
      ·rw [if_neg c, if_neg c, ff_bt _ _ (by omega)]
  ·simp only [if_neg h2]
   rw [if_neg (by unfold wordsOk; omega)]
   exact ref_Words_no a t
 ·have e0 : decide (0 ≤ a ∧ a ≤ 768) = false := decide_eq_false h0
  simp only [e0, Bool.false_eq_true, if_false]
  rw [if_neg (by unfold wordsOk; omega)]
  exact ref_Words_no a t
end Go.Proofs.Ytjadcjkjpkkmkaa.M

/- Plain facts: the flash of one record that the laws begin with; no memory in sight. -/
set_option linter.unnecessarySimpa false
set_option linter.unusedSimpArgs false
set_option linter.unusedVariables false
namespace Go.Proofs.Ytjadcjkjpkkmkaa.M
open Go.RowKit Go.Proofs.YtjadcjkjpkkmkaaW.PrintWords Go.Proofs.YtjadcjkjpkkmkaaW.PrintLast Go.Proofs.YtjadcjkjpkkmkaaW.PrintMore Go.Proofs.Ytjadcjkjpkkmkaa.Hand Go.Proofs.Ytjadcjkjpkkmkaa.PAll
theorem tn_all (j : Nat) (h : j < 4) : tn 32 j = 8 := by rw [tn_eq _ _ (by omega)]; omega
/-- The first m bytes of t stand from a on in a flash that is G elsewhere. -/
def onto (G : ByteArray) (a : Nat) (t : ByteArray) (m : Nat) (F : ByteArray) : Prop := F.size = 768 ∧ ∀ i : Nat, i < 768 → bt F i = if a ≤ i ∧ i < a + m ∧ i - a < t.size then bt t ((i - a : Nat) : Int) else bt G i
theorem onto_step (G : ByteArray) (a : Nat) (t F : ByteArray) (j : Nat) (h : onto G a t (4 * j) F) (hG : ∀ i, a ≤ i → i < a + 4 * many t → bt G ((i : Nat) : Int) = 255) (hj : j < many t) (hr : a + 4 * many t ≤ 768) : onto G a t (4 * (j + 1)) (tornF F (a + 4 * j) (wordAt t j) 32) := by
 obtain ⟨h1, h2⟩ := h
 have hj4 : 4 * j < t.size := by unfold many at hj; omega
 refine ⟨by rw [tornF_size _ _ _ _ (by omega)]; exact h1, fun i hi => ?_⟩
 rw [tornF_bt _ _ _ _ (by omega) i (by omega), h2 i hi]
 by_cases c : a + 4 * j ≤ i ∧ i < a + 4 * j + 4
 ·rw [if_pos c, if_neg (by omega), tn_all _ (by omega), hG i (by omega) (by omega), clr_blank _ (bt_u8 _ _).1 (bt_u8 _ _).2 8 rfl, wordAt_bt t j _ hj4 (by omega)]
  by_cases c2 : i - a < t.size
  ·rw [if_pos (by omega), if_pos (by omega)]; congr 1; omega
  ·rw [if_neg (by omega), if_neg (by omega)]
 ·rw [if_neg c]
  by_cases c2 : a ≤ i ∧ i < a + 4 * j ∧ i - a < t.size
  ·rw [if_pos c2, if_pos (by omega)]
  ·rw [if_neg c2, if_neg (by omega)]
/-- All steps, one behind the other. -/
def doL (F : ByteArray) (l : List S87) : ByteArray := l.foldl (fun F o => (cutV F o.f0 o.f1 o.f2 96).1) F
theorem doL_cons (F : ByteArray) (o : S87) (l : List S87) : doL F (o :: l) = doL (cutV F o.f0 o.f1 o.f2 96).1 l := rfl
theorem doL_at (F : ByteArray) (l : List S87) (i : Nat) (h : i < l.length) : doL F (l.drop i) = doL (cutV F (rd_T87 l i).f0 (rd_T87 l i).f1 (rd_T87 l i).f2 96).1 (l.drop (i + 1)) := by
 have e : rd_T87 l i = l[i] := by simp [rd_T87, List.getD_eq_getElem?_getD, List.getElem?_eq_getElem h]
 rw [List.drop_eq_getElem_cons h, doL_cons, e]
theorem doL_end (F : ByteArray) (l : List S87) : doL F (l.drop l.length) = F := by rw [List.drop_length]; rfl
theorem onto_all (G : ByteArray) (a : Nat) (t : ByteArray) (ha : a % 4 = 0) (hG : ∀ i, a ≤ i → i < a + 4 * many t → bt G ((i : Nat) : Int) = 255) (hr : a + 4 * many t ≤ 768) (d : Nat) :
  ∀ (j : Nat) (F : ByteArray), j + d = many t → onto G a t (4 * j) F → onto G a t (4 * many t) (doL F ((wl a t (many t)).drop j)) := by
 induction d with
 | zero =>
  intro j F hj h
  obtain rfl : j = many t := by omega
  have := doL_end F (wl a t (many t))
  rw [wl_length] at this
  rw [this]
  exact h
 | succ d ih =>
  intro j F hj h
  have hs := onto_step G a t F j h hG (by omega) hr
  have hjm : j < many t := by omega
  have hj4 : 4 * j < t.size := by unfold many at hjm; omega
  have ok : cutOk F false ((a : Int) + 4 * (j : Int)) (wordAt t j) 96 := by
   refine ⟨h.1, ?_, by omega, by omega⟩
   unfold opMay
   rw [if_neg (by decide), decide_eq_true_eq]
   have := wordAt_size t j hj4
   omega
  have hv : (cutV F false ((a : Int) + 4 * (j : Int)) (wordAt t j) 96).1 = tornF F (a + 4 * j) (wordAt t j) 32 := by
   unfold cutV
   rw [if_pos ok]
   unfold doF
   rw [if_neg (by decide)]
   show tornF F ((a : Int) + 4 * (j : Int)).toNat (wordAt t j) (mn 96 32) = _
   rw [show ((a : Int) + 4 * (j : Int)).toNat = a + 4 * j by omega]
   rfl
  rw [doL_at F _ j (by rw [wl_length]; omega), wl_rd _ _ _ _ (by omega)]
  show onto G a t (4 * many t) (doL (cutV F false ((a : Int) + 4 * (j : Int)) (wordAt t j) 96).1 ((wl a t (many t)).drop (j + 1)))
  rw [hv]
  exact ih (j + 1) _ (by omega) hs
/-- A text laid down at a place that is blank. -/
theorem lay (G : ByteArray) (a : Nat) (t : ByteArray) (hs : G.size = 768) (ha : a % 4 = 0) (hG : ∀ i, a ≤ i → i < a + 4 * many t → bt G ((i : Nat) : Int) = 255) (hr : a + 4 * many t ≤ 768) :
  (doL G (wl a t (many t))).size = 768 ∧ ∀ i : Nat, i < 768 → bt (doL G (wl a t (many t))) i = if a ≤ i ∧ i < a + t.size then bt t ((i - a : Nat) : Int) else bt G i := by
 have h0 : onto G a t (4 * 0) G := ⟨hs, fun i hi => by rw [if_neg (by omega)]⟩
 obtain ⟨h1, h2⟩ := onto_all G a t ha hG hr (many t) 0 G (by omega) h0
 rw [List.drop_zero] at h1 h2
 refine ⟨h1, fun i hi => ?_⟩
 rw [h2 i hi]
 have : t.size ≤ 4 * many t := by unfold many; omega
 by_cases c : a ≤ i ∧ i < a + t.size
 ·rw [if_pos c, if_pos (by omega)]
 ·rw [if_neg c, if_neg (by omega)]
/-- "ab", six times. -/
def ab : ByteArray := ⟨#[97, 98, 97, 98, 97, 98, 97, 98, 97, 98, 97, 98]⟩
def abSum : Int := 3146506012
theorem ab_crc : Ev (fun k => skiffref1_Crc.f k ab) abSum := Ev.of (fun k => skiffref1_Crc.mono ab k) (k := 200) (by kernel_rfl)
theorem ab_many : many ab = 3 := rfl
theorem ab_size : ab.size = 12 := rfl
def held1 : ByteArray := doL (ff 768) (wl (192 : Nat) ab (many ab))
theorem held1_size : held1.size = 768 := (lay (ff 768) 192 ab (ff_size 768) rfl (fun i h1 h2 => ff_bt 768 i (by rw [ab_many] at h2; omega)) (by rw [ab_many]; omega)).1
theorem held1_bt (i : Nat) (hi : i < 768) : bt held1 i = if 192 ≤ i ∧ i < 204 then bt ab ((i - 192 : Nat) : Int) else 255 := by
 have := (lay (ff 768) 192 ab (ff_size 768) rfl (fun i h1 h2 => ff_bt 768 i (by rw [ab_many] at h2; omega)) (by rw [ab_many]; omega)).2 i hi
 rw [ab_size, ff_bt _ _ hi] at this
 exact this
def rec1 : ByteArray := ent 1 0 12 abSum
theorem rec1_size : rec1.size = 24 := ent_size _ _ _ _
theorem rec1_many : many rec1 = 6 := by unfold many; rw [rec1_size]
def heldF : ByteArray := doL held1 (wl (0 : Nat) rec1 (many rec1))
theorem heldF_lay : heldF.size = 768 ∧ ∀ i : Nat, i < 768 → bt heldF i = if 0 ≤ i ∧ i < 0 + rec1.size then bt rec1 ((i - 0 : Nat) : Int) else bt held1 i :=
 lay held1 0 rec1 held1_size rfl (fun i h1 h2 => by rw [rec1_many] at h2; rw [held1_bt i (by omega), if_neg (by omega)]) (by rw [rec1_many]; omega)
theorem heldF_size : heldF.size = 768 := heldF_lay.1
theorem heldF_bt (i : Nat) (hi : i < 768) : bt heldF i = if i < 24 then bt rec1 (i : Int) else if 192 ≤ i ∧ i < 204 then bt ab ((i - 192 : Nat) : Int) else 255 := by
 rw [heldF_lay.2 i hi, rec1_size, held1_bt i hi]
 by_cases c : i < 24
 ·rw [if_pos c, if_pos (by omega)]; rfl
 ·rw [if_neg c, if_neg (by omega)]
theorem pl_size (f : ByteArray) (j : Nat) (hf : f.size = 768) (hj : j < 8) : (pl f j).size = 24 := by unfold pl; rw [ByteArray.size_extract]; omega
theorem pl_bt (f : ByteArray) (j : Nat) (hf : f.size = 768) (hj : j < 8) (i : Nat) (hi : i < 24) : bt (pl f j) (i : Int) = bt f ((24 * j + i : Nat) : Int) := bt_extract f _ _ i (by omega)
theorem pl_blank (f : ByteArray) (j : Nat) (hf : f.size = 768) (hj : j < 8) (h : ∀ i, 24 * j ≤ i → i < 24 * j + 24 → bt f ((i : Nat) : Int) = 255) : pl f j = ff 24 := by
 apply bt_ext
 ·rw [pl_size f j hf hj, ff_size]
 ·intro i hi
  rw [pl_size f j hf hj] at hi
  rw [pl_bt f j hf hj i hi, h _ (by omega) (by omega), ff_bt _ _ hi]
theorem getV_ff : getV (ff 24) = (0, 0, 0, 0, 400) := by
 unfold getV
 rw [if_neg]
 rintro ⟨_, h, _⟩
 have := h 0 (by omega)
 rw [ff_bt 24 (12 + 0) (by omega), ff_bt 24 0 (by omega)] at this
 omega
theorem told_ff (j : Nat) : told j (getV (ff 24)) = [] := by rw [getV_ff]; rfl
/-- No records stand in a flash of which all places are blank. -/
theorem scanL_blank (f : ByteArray) (n : Nat) (h : ∀ j, j < n → pl f j = ff 24) : scanL f n = [] := by
 induction n with
 | zero => rfl
 | succ n ih => rw [scanL, ih (fun j hj => h j (by omega)), h n (by omega), told_ff]; rfl
theorem scanV_held1 : scanV held1 = ([], 0) := by
 unfold scanV
 rw [if_pos held1_size, scanL_blank held1 8 (fun j hj => pl_blank held1 j held1_size hj (fun i h1 h2 => by rw [held1_bt i (by omega), if_neg (by omega)]))]
theorem pl_heldF0 : pl heldF 0 = rec1 := by
 apply bt_ext
 ·rw [pl_size _ _ heldF_size (by omega), rec1_size]
 ·intro i hi
  rw [pl_size _ _ heldF_size (by omega)] at hi
  rw [pl_bt _ _ heldF_size (by omega) i hi, heldF_bt _ (by omega), if_pos (by omega)]
  congr 1; omega
theorem pl_heldF (j : Nat) (h0 : 0 < j) (h : j < 8) : pl heldF j = ff 24 := pl_blank heldF j heldF_size h (fun i h1 h2 => by rw [heldF_bt i (by omega), if_neg (by omega), if_neg (by omega)])
theorem rec1_may : recMay 1 0 12 abSum = true := by decide
def place1 : S25 := ⟨0, ⟨1, 0, 12, abSum⟩⟩
theorem scanL_heldF (n : Nat) (h0 : 0 < n) (h : n ≤ 8) : scanL heldF n = [place1] := by
 induction n with
 | zero => omega
 | succ n ih =>
  rw [scanL]
  by_cases c : n = 0
  ·subst c
   rw [pl_heldF0, rec1, getV_ent _ _ _ _ rec1_may]; rfl
  ·rw [ih (by omega) (by omega), pl_heldF n (by omega) (by omega), told_ff]; rfl
theorem freeV_held1 : freeV held1 0 = (0, true, 0) := by
 unfold freeV
 rw [if_pos ⟨held1_size, by omega, by omega⟩]
 show freeL held1 0 4 = _
 rw [freeL, pl_blank held1 0 held1_size (by omega) (fun i h1 h2 => by rw [held1_bt i (by omega), if_neg (by omega)]), if_pos rfl]; rfl
theorem held1_ab : held1.extract 192 204 = ab := by
 apply bt_ext
 ·rw [ByteArray.size_extract, held1_size, ab_size]; omega
 ·intro i hi
  rw [ByteArray.size_extract, held1_size] at hi
  rw [bt_extract _ _ _ _ (by rw [held1_size]; omega), held1_bt _ (by omega), if_pos (by omega), show 192 + i - 192 = i by omega]
theorem Next_held1 : Ev (fun k => skiffref1_NextSeq.f k held1) (1, 0) := by
 have h := ref_Scan_ev held1
 rw [scanV_held1] at h
 unfold skiffref1_NextSeq.f
 refine Ev.bind h ?_
 exact Ev.one fun k => by
  show skiffref1_NextSeq.l0 (k + 1) [] 0 0 = _
  rw [skiffref1_NextSeq.l0, if_neg (by decide), if_neg (by decide), show wrap64 (0 + 1) = 1 by unfold wrap64; omega]
theorem RecordOf_held1 : Ev (fun k => skiffref1_RecordOf.f k held1 0 12) (1, 0, 12, abSum, 0) := by
 have hb : skiffref1_Base.f 0 = some (192, 0) := by kernel_rfl
 have hs := held1_size
 have e : ((held1.size : Int) == 768) = true := by rw [hs]; rfl
 have w204 : wrap64 (192 + 12) = 204 := by unfold wrap64; omega
 have hx : held1.extract (192 : Int).toNat (204 : Int).toNat = ab := held1_ab
 unfold skiffref1_RecordOf.f skiffref1_FlashMay.f
 simp only [hb, Option.bind_some, e, if_true, upTo_eq]
 refine Ev.step (f := fun k => (skiffref1_NextSeq.f k held1).bind fun bt380 => (if bt380.2 = 0 then ((skiffref1_Crc.f k ab).bind fun t382 => (some (bt380.1, 0, 12, t382, 0))) else (some (0, 0, 0, 0, bt380.2)))) (fun k => ?_) ?_
 ·rw [skiffref1_RecordOf.j0, if_neg (by decide), w204, hx]
  simp only [if_pos (show (0 : Int) ≤ 192 by decide), if_pos (show (192 : Int) ≤ 204 by decide), if_pos (show (204 : Int) ≤ (held1.size : Int) by rw [hs]; decide)]
 ·refine Ev.bind Next_held1 ?_
  simp only [if_true]
  exact Ev.bind ab_crc (Ev.now _)
theorem Active_held1 : Ev (fun k => skiffref1_Active.f k held1) (0, 0, 0, 0, 0, 701) := by
 have h := ref_Scan_ev held1
 rw [scanV_held1] at h
 unfold skiffref1_Active.f
 refine Ev.bind h ?_
 exact Ev.one fun k => by
  show skiffref1_Active.l0 (k + 1) held1 [] (-1) 0 = _
  rw [skiffref1_Active.l0, if_neg (by decide), if_pos (by decide)]
theorem wordsV_rec1 : wordsV 0 rec1 = (wl (0 : Nat) rec1 (many rec1), 0) := by
 unfold wordsV
 rw [if_pos ⟨by omega, by omega, by decide, by rw [rec1_size]; omega⟩]; rfl
theorem wordsV_ab : wordsV 192 ab = (wl (192 : Nat) ab (many ab), 0) := by
 unfold wordsV
 rw [if_pos ⟨by omega, by omega, by decide, by rw [ab_size]; omega⟩]; rfl
theorem Append_held1 : Ev (fun k => skiffref1_Append.f k held1 1 0 12 abSum) (wl (0 : Nat) rec1 (many rec1), 0) := by
 have hp := PutEntry_ev 1 0 12 abSum
 rw [show putV 1 0 12 abSum = (rec1, 0) from by unfold putV; rw [if_pos rec1_may]; rfl] at hp
 have e : ((held1.size : Int) == 768) = true := by rw [held1_size]; rfl
 have hf := ref_Free_ev held1 0
 rw [freeV_held1] at hf
 have hw := ref_Words_ev 0 rec1 (by omega) (by rw [rec1_size]; omega)
 rw [wordsV_rec1] at hw
 unfold skiffref1_Append.f skiffref1_FlashMay.f
 refine Ev.bind hp ?_
 simp only [Option.bind_some, e, if_true]
 refine Ev.step (f := fun k => (skiffref1_Active.f k held1).bind fun bt410 => (if bt410.2.2.2.2.2 = 0 then (skiffref1_Append.j1 k held1 rec1 (wrap64 (Int.tdiv bt410.1 96))) else (skiffref1_Append.j1 k held1 rec1 0))) (fun k => by rw [skiffref1_Append.j0]; rfl) ?_
 refine Ev.bind Active_held1 ?_
 simp only [show ¬ ((701 : Int) = 0) by decide, if_false]
 refine Ev.step (fun k => by rw [skiffref1_Append.j1]) ?_
 refine Ev.bind hf ?_
 simp only [if_true]
 refine Ev.bind hw ?_
 have hl : ([] : List S87).length + (wl (0 : Nat) rec1 (many rec1)).length < 4398046511104 := by rw [wl_length, rec1_many]; decide
 simp only [if_pos hl]
 exact Ev.now _
end Go.Proofs.Ytjadcjkjpkkmkaa.M

