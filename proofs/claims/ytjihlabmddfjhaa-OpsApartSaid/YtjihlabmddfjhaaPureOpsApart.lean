/- Two steps at places apart may be done in either row: for every flash and every two steps. -/
import Derived.Test.YtjihlabmddfjhaaMTwice
import Derived.Test.YtjihlabmddfjhaaPAllx11
set_option linter.unnecessarySimpa false
set_option linter.unusedSimpArgs false
set_option linter.unusedVariables false
namespace Go.Proofs.Ytjihlabmddfjhaa.Pure
open Go.RowKit Go.Proofs.Ytjihlabmddfjhaa.Hand Go.Proofs.Ytjihlabmddfjhaa.PAll Go.Proofs.YtjihlabmddfjhaaW.PrintWords Go.Proofs.YtjihlabmddfjhaaW.PrintLast Go.Proofs.Ytjihlabmddfjhaa.M

def OpsApartPure : Prop := ∀ (a0 : ByteArray) (a1_0 : Bool) (a1_1 : Int) (a1_2 : ByteArray) (a2_0 : Bool) (a2_1 : Int) (a2_2 : ByteArray), I64 a1_1 → I64 a2_1 → ∃ k, skifflaw3_OpsApart.f k a0 a1_0 a1_1 a1_2 a2_0 a2_1 a2_2 = some true
theorem apart_no (x y : ByteArray) (e1 : Bool) (a1 : Int) (t1 : ByteArray) (e2 : Bool) (a2 : Int) (t2 : ByteArray) : Ev (fun k => skifflaw3_OpsApart.j0 k x y true e1 a1 t1 e2 a2 t2) true :=
  Ev.one fun k => by rw [skifflaw3_OpsApart.j0, if_pos rfl]
theorem may_range {e : Bool} {a : Int} {t : ByteArray} (h : opMay e a t = true) : 0 ≤ a ∧ a ≤ 764 := by
  cases e with
  | true => obtain ⟨m0, m1, m2, m3⟩ := opMay_true h; omega
  | false => obtain ⟨m0, m1, m2, m3⟩ := opMay_false h; omega
theorem OpsApart : OpsApartPure := by
  intro f e1 a1 t1 e2 a2 t2 ha1 ha2
  refine Ev.rounds (g := fun k => skifflaw3_OpsApart.f k f e1 a1 t1 e2 a2 t2) ?_
  unfold skifflaw3_OpsApart.f
  refine Ev.bind awake3 ?_
  simp only [if_true]
  refine Ev.bind (ops_Do_ev f e1 a1 t1 ha1) (Ev.bind (ops_Do_ev f e2 a2 t2 ha2) ?_)
  by_cases h1 : cutOk f e1 a1 t1 96
  · rw [cutV_ok h1]
    simp only [num_eq, Option.bind_some, if_true]
    by_cases h2 : cutOk f e2 a2 t2 96
    · rw [cutV_ok h2]
      have r1 := may_range h1.2.1
      have r2 := may_range h2.2.1
      obtain ⟨w1, hw1⟩ : ∃ w1 : Int, (width e1 : Int) = w1 := ⟨_, rfl⟩
      obtain ⟨w2, hw2⟩ : ∃ w2 : Int, (width e2 : Int) = w2 := ⟨_, rfl⟩
      have b1 : w1 ≤ 96 ∧ 0 ≤ w1 := by rw [← hw1]; unfold width; cases e1 <;> decide
      have b2 : w2 ≤ 96 ∧ 0 ≤ w2 := by rw [← hw2]; unfold width; cases e2 <;> decide
      have go2 : Ev (fun k => skifflaw3_OpsApart.j2 k (doF f e1 a1 t1 96) (doF f e2 a2 t2 96) w1 w2 e1 a1 t1 e2 a2 t2) true := by
        have x1 : wrap64 (a2 + w2) = a2 + w2 := wrap_id (by omega)
        have x2 : wrap64 (a1 + w1) = a1 + w1 := wrap_id (by omega)
        have yes : Ev (fun k => skifflaw3_OpsApart.j3 k (doF f e1 a1 t1 96) (doF f e2 a2 t2 96) true e1 a1 t1 e2 a2 t2) true :=
          Ev.one fun k => by
            rw [skifflaw3_OpsApart.j3, if_pos rfl, ref_OpMay_eq, ref_OpMay_eq, h1.2.1, h2.2.1]
            rfl
        have no (hn : ¬ (a1 < a2 + width e2 ∧ a2 < a1 + width e1)) : Ev (fun k => skifflaw3_OpsApart.j3 k (doF f e1 a1 t1 96) (doF f e2 a2 t2 96) false e1 a1 t1 e2 a2 t2) true := by
          have k1 : cutOk (doF f e1 a1 t1 96) e2 a2 t2 96 := cutOk_doF h1 h2.2.1 (by omega) (by omega)
          have k2 : cutOk (doF f e2 a2 t2 96) e1 a1 t1 96 := cutOk_doF h2 h1.2.1 (by omega) (by omega)
          have v1 := ops_Do_ev (doF f e1 a1 t1 96) e2 a2 t2 ha2
          have v2 := ops_Do_ev (doF f e2 a2 t2 96) e1 a1 t1 ha1
          rw [cutV_ok k1, doF_comm f e1 a1 t1 e2 a2 t2 h1 h2 hn] at v1
          rw [cutV_ok k2] at v2
          refine Ev.step (fun k => by rw [skifflaw3_OpsApart.j3, if_neg (by decide)]) (Ev.bind v1 (Ev.bind v2 (Ev.always fun k => ?_)))
          simp only [num_eq, Option.bind_some, if_true]
          simp
        by_cases c1 : a1 < a2 + w2
        · by_cases c2 : a2 < a1 + w1
          · refine Ev.step (fun k => ?_) yes
            rw [skifflaw3_OpsApart.j2, x1, x2, if_pos c1, decide_eq_true c2]
          · refine Ev.step (fun k => ?_) (no (by rw [hw1, hw2]; omega))
            rw [skifflaw3_OpsApart.j2, x1, x2, if_pos c1, decide_eq_false c2]
        · refine Ev.step (fun k => ?_) (no (by rw [hw1, hw2]; omega))
          rw [skifflaw3_OpsApart.j2, x1, if_neg c1]
      have go1 : Ev (fun k => skifflaw3_OpsApart.j1 k (doF f e1 a1 t1 96) (doF f e2 a2 t2 96) w1 4 e1 a1 t1 e2 a2 t2) true := by
        refine Ev.step (fun k => ?_) go2
        rw [skifflaw3_OpsApart.j1, ← hw2]
        cases e2 with
        | true => rw [if_pos rfl]; rfl
        | false => rw [if_neg (by decide)]; rfl
      refine Ev.step (fun k => ?_) go1
      simp only [bne_self_eq_false]
      rw [skifflaw3_OpsApart.j0, if_neg (by decide), ← hw1]
      cases e1 with
      | true => rw [if_pos rfl]; rfl
      | false => rw [if_neg (by decide)]; rfl
    · rw [cutV_no h2]
      exact apart_no _ _ _ _ _ _ _ _
  · rw [cutV_no h1]
    simp only [num_eq, Option.bind_some]
    exact apart_no _ _ _ _ _ _ _ _
end Go.Proofs.Ytjihlabmddfjhaa.Pure
