/- A step that is cut, done again, is done; cut at none it is nothing, cut at the most it is whole: for every flash, step and cut. -/
import Derived.Test.YtjihlabmddfjhaaMTwice
import Derived.Test.YtjihlabmddfjhaaPAllx9
set_option linter.unnecessarySimpa false
set_option linter.unusedSimpArgs false
set_option linter.unusedVariables false
namespace Go.Proofs.Ytjihlabmddfjhaa.Pure
open Go.RowKit Go.Proofs.Ytjihlabmddfjhaa.Hand Go.Proofs.Ytjihlabmddfjhaa.PAll Go.Proofs.YtjihlabmddfjhaaW.PrintWords Go.Proofs.YtjihlabmddfjhaaW.PrintLast Go.Proofs.Ytjihlabmddfjhaa.M

def OpsCutsPure : Prop := ∀ (a0 : ByteArray) (a1_0 : Bool) (a1_1 : Int) (a1_2 : ByteArray) (a2 : Int), I64 a1_1 → ∃ k, skifflaw3_OpsCuts.f k a0 a1_0 a1_1 a1_2 a2 = some true
theorem OpsCuts : OpsCutsPure := by
  intro f e a t cut ha
  refine Ev.rounds (g := fun k => skifflaw3_OpsCuts.f k f e a t cut) ?_
  unfold skifflaw3_OpsCuts.f
  refine Ev.bind awake3 ?_
  rw [wrap_mod cut 97 (by omega) (by omega)]
  have c0 : 0 ≤ (cut % 18446744073709551616) % 97 := Int.emod_nonneg _ (by omega)
  have c1 : (cut % 18446744073709551616) % 97 < 97 := Int.emod_lt_of_pos _ (by omega)
  generalize (cut % 18446744073709551616) % 97 = c at c0 c1
  simp only [if_true]
  refine Ev.bind (ops_Do_ev f e a t ha) (Ev.bind (ops_Cut_ev f e a t c ha) ?_)
  by_cases h : cutOk f e a t 96
  · have hc : cutOk f e a t c := ⟨h.1, h.2.1, c0, by omega⟩
    have h0 : cutOk f e a t 0 := ⟨h.1, h.2.1, by omega, by omega⟩
    have hb : cutOk (doF f e a t c) e a t 96 := cutOk_doF hc h.2.1 (by omega) (by omega)
    have v1 := ops_Do_ev (doF f e a t c) e a t ha
    have v2 := ops_Cut_ev f e a t 0 ha
    have v3 := ops_Cut_ev f e a t 96 ha
    rw [cutV_ok hb, doF_again f e a t c hc] at v1
    rw [cutV_ok h0, doF_zero f e a t h0] at v2
    rw [cutV_ok h] at v3
    rw [cutV_ok h, cutV_ok hc]
    simp only [num_eq, Option.bind_some, if_true, bne_self_eq_false]
    refine Ev.step (fun k => by rw [skifflaw3_OpsCuts.j0, if_neg (by decide)]) (Ev.bind v1 (Ev.bind v2 (Ev.bind v3 (Ev.always fun k => ?_))))
    simp only [num_eq, Option.bind_some, if_true]
    rfl
  · have hc : ¬ cutOk f e a t c := fun q => h ⟨q.1, q.2.1, by omega, by omega⟩
    rw [cutV_no h, cutV_no hc]
    simp only [num_eq, Option.bind_some]
    refine Ev.one fun k => ?_
    rw [if_neg (by decide), skifflaw3_OpsCuts.j0, if_pos rfl]
    rw [ByteArray.toList_eq]
    rfl
end Go.Proofs.Ytjihlabmddfjhaa.Pure
