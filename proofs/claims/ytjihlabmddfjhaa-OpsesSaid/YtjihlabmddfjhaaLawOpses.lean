-- Written by this session's own program (wip/tools/mk_rows.py): the row of a law with a struct parameter.
import Derived.Test.YtjihlabmddfjhaaRows
import Derived.Test.YtjihlabmddfjhaaPAllx7
import Derived.Test.YtjihlabmddfjhaaPureOpses
import Derived.WalkKit
import Derived.ProofKit
import Derived.OpenShut
import Derived.ShutString
import Derived.ChangeOld
import Derived.Below
import Derived.SizedLaws
import Derived.Lib.SmallJoins
namespace Go.Proofs.Ytjihlabmddfjhaa.opses
open Go.ChangeShapes Go.WideShapes Go.ChangeAt Go.RowKit
open Go.ChangeMaps (open_string shut_string)
set_option linter.unusedVariables false
theorem own : ownKnob Try.prog.godebug = none := by kernel_rfl
theorem cells35 : Try.prog.cellsOf 35 = 3 := by kernel_rfl
set_option maxRecDepth 100000 in
theorem lifted (os : Os) (started : os.Started) (H : Type) (enc : TypeId × Value → H) :
    ReturnsInHanded {} Try.checked os 4 .any (Rows.opsesSpec.pre6 enc Try.prog Try.f4 Rows.opsesRow.domain false) (Rows.opsesSpec.post enc Try.prog Try.f4 false true false false) := by
  refine returnsInHanded_of_change_sized (C := Try.checked) own started (by kernel_rfl) Try.func4
    (ChangeSpec.witness6 (enc := enc) (C := Try.checked) false ⟨#[], #[.string ByteArray.empty, .agg #[.bool false, .int .i64 0, .string ByteArray.empty], .int .i64 0, .string ByteArray.empty, .int .i64 0], []⟩ 8 (by kernel_rfl) (by kernel_rfl) (by kernel_rfl) (by kernel_rfl)) ?_
  intro W base args ds gs before hval0 hW hcnd hsz0 _
  have hsz : (DataW.weightsEach Try.prog (Try.f4.params.toList ++ Rows.opsesSpec.plain.varTypes Try.prog) (ds ++ gs)).all (· ≤ reachBytes) = true := hsz0
  have hval : ∀ (j : Nat) t v, Try.f4.params[j]? = some t → args[j]? = some v → Value.okWide Try.prog W .any base t v := hval0
  have hW' := hW
  obtain ⟨p, q, hA0, hV, rfl, hfz, hnd⟩ := hW
  have hA : DataW.TrodAll enc Try.prog W 0 (fun _ => true) true Try.f4.params.toList args.toList ds p := hA0
  rw [Try.params4] at hA hval hsz
  obtain ⟨v0, vs0, d0, ds0, p0, q0, hargs, rfl, rfl, h0, r0⟩ := trodAll_cons hA
  obtain ⟨v1, vs1, d1, ds1, p1, q1, rfl, rfl, rfl, h1, r1⟩ := trodAll_cons r0
  obtain ⟨v2, vs2, d2, ds2, p2, q2, rfl, rfl, rfl, h2, r2⟩ := trodAll_cons r1
  obtain ⟨v3, vs3, d3, ds3, p3, q3, rfl, rfl, rfl, h3, r3⟩ := trodAll_cons r2
  obtain ⟨v4, vs4, d4, ds4, p4, q4, rfl, rfl, rfl, h4, r4⟩ := trodAll_cons r3
  obtain ⟨rfl, rfl, rfl⟩ := trodAll_nil r4
  obtain rfl : args = #[v0, v1, v2, v3, v4] := by cases args; simp_all
  obtain ⟨rfl, rfl⟩ := trodVars_none hV
  obtain ⟨a0, rfl, rfl, rfl, y0⟩ := open_string Try.underlying9 (hval 0 9 v0 rfl rfl) h0
  obtain ⟨a1_0, a1_1, a1_2, e1_0, e1_1, e1_2, n1, rfl, rfl, rfl, t1_0, t1_1, t1_2⟩ := Go.Joins.open_agg3 Try.underlying35 (by kernel_rfl) cells35 (hval 1 35 v1 rfl rfl) h1
  obtain ⟨b1_0, g1_0, rfl⟩ := DataW.trod_bool Try.underlying4 t1_0
  obtain ⟨b1_1, g1_1, rfl, w1⟩ := DataW.trod_int Try.underlying3 t1_1
  obtain ⟨b1_2, g1_2, rfl, y1⟩ := DataW.trod_string Try.underlying9 t1_2
  obtain rfl : a1_0 = .bool b1_0 := by simpa using g1_0
  obtain rfl : a1_1 = .int .i64 b1_1 := by simpa using g1_1
  obtain rfl : a1_2 = .string b1_2 := by simpa using g1_2
  obtain ⟨a2, rfl, rfl, rfl, w2⟩ := open_int Try.underlying3 (hval 2 3 v2 rfl rfl) h2
  obtain ⟨a3, rfl, rfl, rfl, y3⟩ := open_string Try.underlying9 (hval 3 9 v3 rfl rfl) h3
  have w3 : a3.size ≤ 140737488351232 := by
    have z := sized_string hsz (j := 3) (t := 9) rfl rfl
    rw [Array.length_toList] at z
    exact z
  obtain ⟨a4, rfl, rfl, rfl, w4⟩ := open_int Try.underlying3 (hval 4 3 v4 rfl rfl) h4
  clear hA0 hval0 hsz0 hsz
  obtain ⟨k, hk⟩ := Pure.Opses a0 b1_0 b1_1 b1_2 a2 a3 a4 (bounds_i64 w1) (bounds_i64 w2) w3
  refine (PAll.skifflaw3_Opses.calls k a0 b1_0 b1_1 b1_2 a2 a3 a4 true W hk).mono fun e W' ⟨he, bel⟩ => ?_
  subst he
  exact ⟨_, rfl, _, _, _, [], _, [], hW', trodAll_mk1 (shut_bool Try.underlying4 _), (trodAll_cons_mk (shut_string Try.underlying9 y0) (trodAll_cons_mk (Go.Joins.shut_agg3 Try.underlying35 (by kernel_rfl) cells35 (Go.Joins.field_of_Trod (shut_bool Try.underlying4 b1_0) rfl) (Go.Joins.field_of_Trod (shut_int Try.underlying3 w1) rfl) (Go.Joins.field_of_Trod (shut_string Try.underlying9 y1) rfl)) (trodAll_cons_mk (shut_int Try.underlying3 w2) (trodAll_cons_mk (shut_string Try.underlying9 y3) (trodAll_cons_mk (shut_int Try.underlying3 w4) trodAll_mk0))))), rfl, bel.frame _, fun h => by cases h⟩
theorem over : Rows.opsesRow.holds Try.pinned (OpenSpec.ofChange Rows.opsesSpec) :=
  OpenClaim.holds_of_wide 4 Try.f4 rfl rfl rfl rfl rfl rfl rfl ⟨rfl, rfl, rfl, rfl, rfl⟩ rfl rfl rfl rfl rfl (by kernel_rfl) Try.func4 (by kernel_rfl)
    (of_decide_eq_true (by kernel_rfl)) (by unfold Func.isWrapper; first | (rw [if_pos (by decide +kernel)]; kernel_rfl) | (rw [if_neg (by decide +kernel)]; exact ⟨rfl, rfl⟩))
    (fun os started H enc _ => lifted os started H enc)
theorem proved : Rows.OpsesSaid := over
#print axioms proved
end Go.Proofs.Ytjihlabmddfjhaa.opses
namespace Go.Proofs.Ytjihlabmddfjhaa
/-- The row, under a short name, for the claim. -/
theorem opses_holds : Rows.OpsesSaid := opses.proved
end Go.Proofs.Ytjihlabmddfjhaa
