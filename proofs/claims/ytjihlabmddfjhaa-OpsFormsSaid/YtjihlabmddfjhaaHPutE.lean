/- The reference's PutEntry: what it answers for every record, and that it changes nothing that was there. -/
import Derived.Test.YtjihlabmddfjhaaHWords2
import Derived.Test.YtjihlabmddfjhaaPBasex1
import Derived.Lib.Hide
import Derived.Outline
set_option linter.unnecessarySimpa false
set_option linter.unusedSimpArgs false
set_option linter.unusedVariables false
namespace Go.Proofs.Ytjihlabmddfjhaa.Hand
open Go.RowKit Go.Proofs.YtjihlabmddfjhaaW.PrintWords Go.Proofs.YtjihlabmddfjhaaW.PrintLast Go.Proofs.YtjihlabmddfjhaaW.PrintMore Go.Proofs.Ytjihlabmddfjhaa.HWords
attribute [local go_sem] max2_int min2_int max_two min_two
theorem info5' : (Try.prog.info? 5).map (fun i => (i.zero, i.size, i.bytes)) = some (some (.int .u8 0), 1, 1) := by kernel_rfl
theorem bw_below (W : World) (e : TypeId) (s : ByteArray) : Below W.heap.size W (Lib.bytesWorld W e s) := bytes_below (Below.refl _ _) (Nat.le_refl _) e s
theorem run_conv_ {P : Program} {a : Act} {o : Oper} {W : World} {src dst e : TypeId} {x : Operand} {s : ByteArray} (ho : o.op = .convert src dst x) (hx : a.eval x = .string s) {u : TypeDesc}
    (hs : P.underlying src = some u) (hd : P.underlying dst = some (.slice e)) (he : P.underlying e = some (.int .u8)) :
    (execOp a.eval o).run P W = .ok (.value (.slice (some ⟨W.heap.size, 0, none⟩) s.size (grownCap W s.size 0 e))) (Lib.bytesWorld W e s) := by
  simp [execOp, ho, hx, Lib.run_convert_string_bytes W src dst e s hs hd he]
/-- The bytes behind j rounds: the complements of the first j stand behind. -/
def putL (l : List Int) (j : Nat) : List Int := l ++ (l.take j).map fun x => (255 - x) % 256
theorem putL_zero (l : List Int) : putL l 0 = l := by simp [putL]
theorem putL_length (l : List Int) (j : Nat) : (putL l j).length = l.length + min j l.length := by simp [putL]
theorem putL_at (l : List Int) (j : Nat) (h : j < l.length) : (putL l j).getD j 0 = l.getD j 0 := by
  simp [putL, List.getD_eq_getElem?_getD, List.getElem?_append_left h]
theorem putL_succ (l : List Int) (j : Nat) (h : j < l.length) : putL l (j + 1) = putL l j ++ [(255 - l.getD j 0) % 256] := by
  unfold putL
  rw [List.take_succ_eq_append_getElem h, List.map_append, ← List.append_assoc]
  simp only [List.getD_eq_getElem?_getD, List.getElem?_eq_getElem h, Option.getD_some, List.map_cons, List.map_nil]
def putFin (s : ByteArray) : Option (ByteArray × Int) := if 12 ≤ s.size then (if s.size ≤ 1000 then some (strOfNums (putL (bytesOf s) 12), 0) else none) else none
theorem putFin_some {s : ByteArray} {r1 : ByteArray} {r2 : Int} (h : putFin s = some (r1, r2)) : 12 ≤ s.size ∧ s.size ≤ 1000 ∧ r1 = strOfNums (putL (bytesOf s) 12) ∧ r2 = 0 := by
  unfold putFin at h
  by_cases c1 : 12 ≤ s.size
  · rw [if_pos c1] at h
    by_cases c2 : s.size ≤ 1000
    · rw [if_pos c2] at h
      simp only [Option.some.injEq, Prod.mk.injEq] at h
      exact ⟨c1, c2, h.1.symm, h.2.symm⟩
    · rw [if_neg c2] at h; exact absurd h (by simp)
  · rw [if_neg c1] at h; exact absurd h (by simp)
/-! ### skiffref1_PutEntry: function 29 -/
def skiffref1_PutEntry.f (k : Nat) (a0_0 : Int) (a0_1 : Int) (a0_2 : Int) (a0_3 : Int) : Option (ByteArray × Int) := (PBase.skiffref1_RecordMay.f a0_0 a0_1 a0_2 a0_3).bind fun t111 => (if t111 = true then ((PBase.skiffref1_Low.f k a0_0 4).bind fun t112 => ((PBase.skiffref1_Low.f k a0_1 1).bind fun t113 => (if t112.size + t113.size ≤ 9223372036854775807 then ((PBase.skiffref1_Low.f k 0 1).bind fun t114 => (if (t112 ++ t113).size + t114.size ≤ 9223372036854775807 then ((PBase.skiffref1_Low.f k a0_2 2).bind fun t115 => (if ((t112 ++ t113) ++ t114).size + t115.size ≤ 9223372036854775807 then ((PBase.skiffref1_Low.f k a0_3 4).bind fun t116 => (if (((t112 ++ t113) ++ t114) ++ t115).size + t116.size ≤ 9223372036854775807 then (putFin ((((t112 ++ t113) ++ t114) ++ t115) ++ t116)) else (none))) else (none))) else (none))) else (none)))) else (some ((⟨#[]⟩ : ByteArray), 400)))
theorem skiffref1_PutEntry.mono : ∀ a0 a1 a2 a3 k, LeO (skiffref1_PutEntry.f k a0 a1 a2 a3) (skiffref1_PutEntry.f (k + 1) a0 a1 a2 a3) := by
  intro a0 a1 a2 a3 k
  unfold skiffref1_PutEntry.f
  repeat' first
      | (with_reducible exact PBase.skiffref1_Low.mono _ _ _)
      | (with_reducible exact LeO.refl _)
      | (with_reducible exact LeO.none _)
      | (with_reducible refine LeO.ite ?_ ?_)
      | (with_reducible refine LeO.bind ?_ (fun _ => ?_))
      | exact PBase.skiffref1_Low.mono _ _ _
      | exact LeO.none _
      | refine LeO.ite ?_ ?_
      | refine LeO.bind ?_ (fun _ => ?_)
def skiffref1_PutEntry.T3 : Bool × List (List Nat × List Nat) := (true, [([], []), ([0], [0]), ([1], [1]), ([], []), ([3], [3]), ([4, 2], [4]), ([2, 5], [2, 5]), ([5], []), ([6, 7], [6, 7]), ([], []), ([9], [9]), ([10, 7], [10]), ([8, 11], [8, 11]), ([], []), ([13], [13]), ([14, 11], [14]), ([12, 15], [12, 15]), ([16], [16]), ([17, 15, 0, 1, 2, 3, 4, 5, 6, 7, 8, 9, 10, 11, 12, 13, 14, 15, 16, 17], [17])])
def skiffref1_PutEntry.B3 : List Nat := [0, 1, 3, 0, 8, 31, 63, 63, 255, 0, 512, 1727, 4095, 0, 8192, 28351, 65535, 131071, 262143]
theorem skiffref1_PutEntry.tab3 : rtab .any (opsOf Try.f29 3) = skiffref1_PutEntry.T3 := by kernel_rfl
theorem skiffref1_PutEntry.bits3 : waitsOk skiffref1_PutEntry.T3.2 skiffref1_PutEntry.B3 = true := by kernel_rfl
set_option maxHeartbeats 8000000 in
set_option maxRecDepth 100000 in
theorem skiffref1_PutEntry.calls (k : Nat) (a0_0 : Int) (a0_1 : Int) (a0_2 : Int) (a0_3 : Int) (r1 : ByteArray) (r2 : Int) (w : World) (h : skiffref1_PutEntry.f k a0_0 a0_1 a0_2 a0_3 = some (r1, r2)) :
    Calls Try.prog 29 #[.agg #[.int .i64 a0_0, .int .i64 a0_1, .int .i64 a0_2, .int .i64 a0_3]] w fun e w' => e = .returned (.tuple #[.string r1, .int .i64 r2]) ∧ Below w.heap.size w w' := by
  have hu25 := Try.underlying25
  have HB := Aside0.mk (Below.refl w.heap.size w)
  have H : ((PBase.skiffref1_RecordMay.f a0_0 a0_1 a0_2 a0_3).bind fun t111 => (if t111 = true then ((PBase.skiffref1_Low.f k a0_0 4).bind fun t112 => ((PBase.skiffref1_Low.f k a0_1 1).bind fun t113 => (if t112.size + t113.size ≤ 9223372036854775807 then ((PBase.skiffref1_Low.f k 0 1).bind fun t114 => (if (t112 ++ t113).size + t114.size ≤ 9223372036854775807 then ((PBase.skiffref1_Low.f k a0_2 2).bind fun t115 => (if ((t112 ++ t113) ++ t114).size + t115.size ≤ 9223372036854775807 then ((PBase.skiffref1_Low.f k a0_3 4).bind fun t116 => (if (((t112 ++ t113) ++ t114) ++ t115).size + t116.size ≤ 9223372036854775807 then (putFin ((((t112 ++ t113) ++ t114) ++ t115) ++ t116)) else (none))) else (none))) else (none))) else (none)))) else (some ((⟨#[]⟩ : ByteArray), 400)))) = some (r1, r2) := h
  clear h
  replace H := Option.bind_eq_some_iff.mp H
  obtain ⟨t111, A20, H⟩ := H
  replace H : (if t111 = true then ((PBase.skiffref1_Low.f k a0_0 4).bind fun t112 => ((PBase.skiffref1_Low.f k a0_1 1).bind fun t113 => (if t112.size + t113.size ≤ 9223372036854775807 then ((PBase.skiffref1_Low.f k 0 1).bind fun t114 => (if (t112 ++ t113).size + t114.size ≤ 9223372036854775807 then ((PBase.skiffref1_Low.f k a0_2 2).bind fun t115 => (if ((t112 ++ t113) ++ t114).size + t115.size ≤ 9223372036854775807 then ((PBase.skiffref1_Low.f k a0_3 4).bind fun t116 => (if (((t112 ++ t113) ++ t114) ++ t115).size + t116.size ≤ 9223372036854775807 then (putFin ((((t112 ++ t113) ++ t114) ++ t115) ++ t116)) else (none))) else (none))) else (none))) else (none)))) else (some ((⟨#[]⟩ : ByteArray), 400))) = some (r1, r2) := H
  have A2 := Aside0.mk A20
  clear A20
  by_cases c3 : t111 = true
  · subst c3
    have H1 : ((PBase.skiffref1_Low.f k a0_0 4).bind fun t112 => ((PBase.skiffref1_Low.f k a0_1 1).bind fun t113 => (if t112.size + t113.size ≤ 9223372036854775807 then ((PBase.skiffref1_Low.f k 0 1).bind fun t114 => (if (t112 ++ t113).size + t114.size ≤ 9223372036854775807 then ((PBase.skiffref1_Low.f k a0_2 2).bind fun t115 => (if ((t112 ++ t113) ++ t114).size + t115.size ≤ 9223372036854775807 then ((PBase.skiffref1_Low.f k a0_3 4).bind fun t116 => (if (((t112 ++ t113) ++ t114) ++ t115).size + t116.size ≤ 9223372036854775807 then (putFin ((((t112 ++ t113) ++ t114) ++ t115) ++ t116)) else (none))) else (none))) else (none))) else (none)))) = some (r1, r2) := by rw [if_pos rfl] at H; exact H
    clear H
    have H := H1
    clear H1
    replace H := Option.bind_eq_some_iff.mp H
    obtain ⟨t112, A40, H⟩ := H
    replace H : ((PBase.skiffref1_Low.f k a0_1 1).bind fun t113 => (if t112.size + t113.size ≤ 9223372036854775807 then ((PBase.skiffref1_Low.f k 0 1).bind fun t114 => (if (t112 ++ t113).size + t114.size ≤ 9223372036854775807 then ((PBase.skiffref1_Low.f k a0_2 2).bind fun t115 => (if ((t112 ++ t113) ++ t114).size + t115.size ≤ 9223372036854775807 then ((PBase.skiffref1_Low.f k a0_3 4).bind fun t116 => (if (((t112 ++ t113) ++ t114) ++ t115).size + t116.size ≤ 9223372036854775807 then (putFin ((((t112 ++ t113) ++ t114) ++ t115) ++ t116)) else (none))) else (none))) else (none))) else (none))) = some (r1, r2) := H
    have A4 := Aside0.mk A40
    clear A40
    replace H := Option.bind_eq_some_iff.mp H
    obtain ⟨t113, A50, H⟩ := H
    replace H : (if t112.size + t113.size ≤ 9223372036854775807 then ((PBase.skiffref1_Low.f k 0 1).bind fun t114 => (if (t112 ++ t113).size + t114.size ≤ 9223372036854775807 then ((PBase.skiffref1_Low.f k a0_2 2).bind fun t115 => (if ((t112 ++ t113) ++ t114).size + t115.size ≤ 9223372036854775807 then ((PBase.skiffref1_Low.f k a0_3 4).bind fun t116 => (if (((t112 ++ t113) ++ t114) ++ t115).size + t116.size ≤ 9223372036854775807 then (putFin ((((t112 ++ t113) ++ t114) ++ t115) ++ t116)) else (none))) else (none))) else (none))) else (none)) = some (r1, r2) := H
    have A5 := Aside0.mk A50
    clear A50
    by_cases c6 : t112.size + t113.size ≤ 9223372036854775807
    · rw [if_pos c6] at H
      have c6b0 := eq_true c6
      have c6b1 : decide (t112.size + t113.size ≤ 9223372036854775807) = true := decide_eq_true c6
      try have c6b2 : (9223372036854775807 < t112.size + t113.size) = False := eq_false (Nat.not_lt.2 c6)
      have c6b3 := c6b2
      try simp only [ByteArray.size_append] at c6b3
      replace H := Option.bind_eq_some_iff.mp H
      obtain ⟨t114, A70, H⟩ := H
      replace H : (if (t112 ++ t113).size + t114.size ≤ 9223372036854775807 then ((PBase.skiffref1_Low.f k a0_2 2).bind fun t115 => (if ((t112 ++ t113) ++ t114).size + t115.size ≤ 9223372036854775807 then ((PBase.skiffref1_Low.f k a0_3 4).bind fun t116 => (if (((t112 ++ t113) ++ t114) ++ t115).size + t116.size ≤ 9223372036854775807 then (putFin ((((t112 ++ t113) ++ t114) ++ t115) ++ t116)) else (none))) else (none))) else (none)) = some (r1, r2) := H
      have A7 := Aside0.mk A70
      clear A70
      by_cases c8 : (t112 ++ t113).size + t114.size ≤ 9223372036854775807
      · rw [if_pos c8] at H
        have c8b0 := eq_true c8
        have c8b1 : decide ((t112 ++ t113).size + t114.size ≤ 9223372036854775807) = true := decide_eq_true c8
        try have c8b2 : (9223372036854775807 < (t112 ++ t113).size + t114.size) = False := eq_false (Nat.not_lt.2 c8)
        have c8b3 := c8b2
        try simp only [ByteArray.size_append] at c8b3
        replace H := Option.bind_eq_some_iff.mp H
        obtain ⟨t115, A90, H⟩ := H
        replace H : (if ((t112 ++ t113) ++ t114).size + t115.size ≤ 9223372036854775807 then ((PBase.skiffref1_Low.f k a0_3 4).bind fun t116 => (if (((t112 ++ t113) ++ t114) ++ t115).size + t116.size ≤ 9223372036854775807 then (putFin ((((t112 ++ t113) ++ t114) ++ t115) ++ t116)) else (none))) else (none)) = some (r1, r2) := H
        have A9 := Aside0.mk A90
        clear A90
        by_cases c10 : ((t112 ++ t113) ++ t114).size + t115.size ≤ 9223372036854775807
        · rw [if_pos c10] at H
          have c10b0 := eq_true c10
          have c10b1 : decide (((t112 ++ t113) ++ t114).size + t115.size ≤ 9223372036854775807) = true := decide_eq_true c10
          try have c10b2 : (9223372036854775807 < ((t112 ++ t113) ++ t114).size + t115.size) = False := eq_false (Nat.not_lt.2 c10)
          have c10b3 := c10b2
          try simp only [ByteArray.size_append] at c10b3
          replace H := Option.bind_eq_some_iff.mp H
          obtain ⟨t116, A110, H⟩ := H
          replace H : (if (((t112 ++ t113) ++ t114) ++ t115).size + t116.size ≤ 9223372036854775807 then (putFin ((((t112 ++ t113) ++ t114) ++ t115) ++ t116)) else (none)) = some (r1, r2) := H
          have A11 := Aside0.mk A110
          clear A110
          by_cases c12 : (((t112 ++ t113) ++ t114) ++ t115).size + t116.size ≤ 9223372036854775807
          · rw [if_pos c12] at H
            have c12b0 := eq_true c12
            have c12b1 : decide ((((t112 ++ t113) ++ t114) ++ t115).size + t116.size ≤ 9223372036854775807) = true := decide_eq_true c12
            try have c12b2 : (9223372036854775807 < (((t112 ++ t113) ++ t114) ++ t115).size + t116.size) = False := eq_false (Nat.not_lt.2 c12)
            have c12b3 := c12b2
            try simp only [ByteArray.size_append] at c12b3
            have HS := putFin_some H
            clear H
            obtain ⟨hlo0, hhi0, hr1, hr2⟩ := HS
            have HR := Lib.hid hr1
            clear hr1
            obtain rfl := hr2
            obtain ⟨ss, hss⟩ : ∃ ss : ByteArray, ((((t112 ++ t113) ++ t114) ++ t115) ++ t116) = ss := ⟨_, rfl⟩
            rw [hss] at hlo0 hhi0
            have HSS := Lib.hid hss
            have HR2 : Hid (r1 = strOfNums (putL (bytesOf ss) 12)) := by rw [← hss]; exact HR.out
            clear hss HR
            have HLO := Lib.hid hlo0
            have HHI := Lib.hid hhi0
            clear hlo0 hhi0
            go_enter Try.func29, Try.ntmps29
            try go_wp2_with (first | ((with_reducible refine gate_dst (N := 1) rfl ?_); refine box_event ?hg (N := 1) ?hd (cs := #[.int .i64 a0_0, .int .i64 a0_1, .int .i64 a0_2, .int .i64 a0_3]) (t := 25) ?hr ?_; (case hd => rfl); (case hg => rfl); (case hr => first | (go_simp; done) | (go_simp; rfl)); intro gb110 hg w13 hbox hb; have n0_ := Aside0.mk (below_step (by repeat (first | (with_reducible first | exact HB.out | apply below_alloc | apply pw_below_drewN | apply below_drew1) | exact HB.out)) hb); have n1_ := Aside0.mk (hbox); have n2_ := Aside0.mk ((by rw [hg]; exact (below_size (by repeat (first | (with_reducible first | exact HB.out | apply below_alloc | apply pw_below_drewN | apply below_drew1) | exact HB.out))) : w.heap.size ≤ gb110)); have n3_ := Aside0.mk ((by rw [hg]; exact (below_size (by repeat (first | (with_reducible first | exact HB.out | apply below_alloc | apply pw_below_drewN | apply below_drew1) | exact HB.out))) : w.heap.size ≤ gb110)); clear HB; have HB := n0_; have BK110 := n1_; have GW110 := n2_; have GE110 := n3_; clear n0_ n1_ n2_ n3_; clear hb hbox hg; have hcz14_0 : w13.cell? ⟨gb110, 0, none⟩ = some (.int .i64 a0_0) := (blk_cell BK110.out 0).trans rfl; have hcz14_1 : w13.cell? ⟨gb110, 1, none⟩ = some (.int .i64 a0_1) := (blk_cell BK110.out 1).trans rfl; have hcz14_2 : w13.cell? ⟨gb110, 2, none⟩ = some (.int .i64 a0_2) := (blk_cell BK110.out 2).trans rfl; have hcz14_3 : w13.cell? ⟨gb110, 3, none⟩ = some (.int .i64 a0_3) := (blk_cell BK110.out 3).trans rfl; have hfz14_0 := blk_frozen BK110.out 0; have hfz14_1 := blk_frozen BK110.out 1; have hfz14_2 := blk_frozen BK110.out 2; have hfz14_3 := blk_frozen BK110.out 3) | ((with_reducible refine gate_callee (f := 54) rfl ?_); refine goesL_ (some 7) rfl rfl Try.func54 (by kernel_rfl) rfl #[.agg #[.int .i64 a0_0, .int .i64 a0_1, .int .i64 a0_2, .int .i64 a0_3]] rfl (by (try simp only [List.map_toArray, List.map_cons, List.map_nil]); first | done | rfl | (simp only [List.length_drop, List.length_take]; rfl)) ?_; (with_reducible refine (PBase.skiffref1_RecordMay.calls a0_0 a0_1 a0_2 a0_3 true _ A2.out).mono ?_); rintro e w15 ⟨rfl, hb⟩; refine ⟨_, rfl, ?_⟩; have n0_ := Aside0.mk (blk_below (g := gb110) (o := .cells #[.int .i64 a0_0, .int .i64 a0_1, .int .i64 a0_2, .int .i64 a0_3] 25 (0, 0)) (by (with_reducible repeat (first | refine blk_drewN ?_ _ | refine blk_drew ?_ | refine blk_alloc ?_ _)); exact BK110.out) hb); have n1_ := Aside0.mk (below_step (by repeat (first | (with_reducible first | exact HB.out | apply below_alloc | apply pw_below_drewN | apply below_drew1 | refine below_set ?_ GE110.out) | exact HB.out)) hb); clear BK110; clear HB; have BK110 := n0_; have HB := n1_; clear n0_ n1_; (try clear hb); (try clear hb2); (try clear hk); (try clear hi)))
            have n0_ := Aside0.mk (blk_drew BK110.out)
            have n1_ := Aside0.mk (below_drew1 HB.out)
            clear BK110
            clear HB
            have BK110 := n0_
            have HB := n1_
            clear n0_ n1_
            refine start_ (n := 19) (S := fun w' => w'.cell? ⟨gb110, 0, none⟩ = some (.int .i64 a0_0) ∧ w'.cell? ⟨gb110, 1, none⟩ = some (.int .i64 a0_1) ∧ w'.cell? ⟨gb110, 2, none⟩ = some (.int .i64 a0_2) ∧ w'.cell? ⟨gb110, 3, none⟩ = some (.int .i64 a0_3)) (ds := []) #[false, false, false, false, false, false, false, false, false, false, false, false, false, false, false, false, false, false, false] (by kernel_rfl) rfl rfl ⟨(blk_cell BK110.out 0).trans rfl, (blk_cell BK110.out 1).trans rfl, (blk_cell BK110.out 2).trans rfl, (blk_cell BK110.out 3).trans rfl⟩ (fun hHeld => ?_); refine with_tabW skiffref1_PutEntry.tab3 skiffref1_PutEntry.bits3 (fun HT_ HW_ => ?_)
            generalize w15.drew = w16 at BK110 HB hHeld ⊢
            refine pure_ (i := 0) (N := some 9) (v := ?_) (a' := ?_) #[true, false, false, false, false, false, false, false, false, false, false, false, false, false, false, false, false, false, false] rfl rfl (any_of HT_.out (by kernel_rfl)) (fun _ _ _ h => h) (Or.inl ⟨by rfl, ?_⟩) ?_ ?_
            rotate_left
            · intro w'
              go_simp
              with_reducible rfl
            rotate_left
            · simp only [Act.put, List.setIfInBounds_toArray, List.set_cons_zero, List.set_cons_succ, i64_w, i32_w]
              rfl
            refine pure_ (i := 3) (N := some 12) (v := ?_) (a' := ?_) #[true, false, false, true, false, false, false, false, false, false, false, false, false, false, false, false, false, false, false] rfl rfl (any_of HT_.out (by kernel_rfl)) (fun _ _ _ h => h) (Or.inl ⟨by rfl, ?_⟩) ?_ ?_
            rotate_left
            · intro w'
              go_simp
              with_reducible rfl
            rotate_left
            · simp only [Act.put, List.setIfInBounds_toArray, List.set_cons_zero, List.set_cons_succ, i64_w, i32_w]
              rfl
            refine pure_ (i := 9) (N := some 18) (v := ?_) (a' := ?_) #[true, false, false, true, false, false, false, false, false, true, false, false, false, false, false, false, false, false, false] rfl rfl (any_of HT_.out (by kernel_rfl)) (fun _ _ _ h => h) (Or.inl ⟨by rfl, ?_⟩) ?_ ?_
            rotate_left
            · intro w'
              go_simp
              with_reducible rfl
            rotate_left
            · simp only [Act.put, List.setIfInBounds_toArray, List.set_cons_zero, List.set_cons_succ, i64_w, i32_w]
              rfl
            refine pure_ (i := 13) (N := some 22) (v := ?_) (a' := ?_) #[true, false, false, true, false, false, false, false, false, true, false, false, false, true, false, false, false, false, false] rfl rfl (any_of HT_.out (by kernel_rfl)) (fun _ _ _ h => h) (Or.inl ⟨by rfl, ?_⟩) ?_ ?_
            rotate_left
            · intro w'
              go_simp
              with_reducible rfl
            rotate_left
            · simp only [Act.put, List.setIfInBounds_toArray, List.set_cons_zero, List.set_cons_succ, i64_w, i32_w]
              rfl
            refine take_ (i := 1) (N := some 10) (v := ?_) (a' := ?_) #[true, true, false, true, false, false, false, false, false, true, false, false, false, true, false, false, false, false, false] rfl rfl (take_ofW HT_.out HW_.out (by kernel_rfl)) (fun _ _ _ h => h) (Or.inl ⟨by rfl, ?_⟩) hHeld ?_ ?_
            rotate_left
            · rintro w' ⟨s0, s1, s2, s3⟩
              go_simp
              with_reducible rfl
            rotate_left
            · simp only [Act.put, List.setIfInBounds_toArray, List.set_cons_zero, List.set_cons_succ, i64_w, i32_w]
              rfl
            refine take_ (i := 4) (N := some 13) (v := ?_) (a' := ?_) #[true, true, false, true, true, false, false, false, false, true, false, false, false, true, false, false, false, false, false] rfl rfl (take_ofW HT_.out HW_.out (by kernel_rfl)) (fun _ _ _ h => h) (Or.inl ⟨by rfl, ?_⟩) hHeld ?_ ?_
            rotate_left
            · rintro w' ⟨s0, s1, s2, s3⟩
              go_simp
              with_reducible rfl
            rotate_left
            · simp only [Act.put, List.setIfInBounds_toArray, List.set_cons_zero, List.set_cons_succ, i64_w, i32_w]
              rfl
            refine take_ (i := 10) (N := some 19) (v := ?_) (a' := ?_) #[true, true, false, true, true, false, false, false, false, true, true, false, false, true, false, false, false, false, false] rfl rfl (take_ofW HT_.out HW_.out (by kernel_rfl)) (fun _ _ _ h => h) (Or.inl ⟨by rfl, ?_⟩) hHeld ?_ ?_
            rotate_left
            · rintro w' ⟨s0, s1, s2, s3⟩
              go_simp
              with_reducible rfl
            rotate_left
            · simp only [Act.put, List.setIfInBounds_toArray, List.set_cons_zero, List.set_cons_succ, i64_w, i32_w]
              rfl
            refine take_ (i := 14) (N := some 23) (v := ?_) (a' := ?_) #[true, true, false, true, true, false, false, false, false, true, true, false, false, true, true, false, false, false, false] rfl rfl (take_ofW HT_.out HW_.out (by kernel_rfl)) (fun _ _ _ h => h) (Or.inl ⟨by rfl, ?_⟩) hHeld ?_ ?_
            rotate_left
            · rintro w' ⟨s0, s1, s2, s3⟩
              go_simp
              with_reducible rfl
            rotate_left
            · simp only [Act.put, List.setIfInBounds_toArray, List.set_cons_zero, List.set_cons_succ, i64_w, i32_w]
              rfl
            refine one_ (i := 2) (N := some 11) #[true, true, true, true, true, false, false, false, false, true, true, false, false, true, true, false, false, false, false] rfl rfl (one_of HT_.out (by kernel_rfl)) (by decide) (fun K hK => ?_)
            refine goes_ Try.func55 (by kernel_rfl) rfl #[.int .i64 a0_0, .int .i64 4] (by rfl) rfl rfl (by (try simp only [List.map_toArray, List.map_cons, List.map_nil]); first | done | rfl | (simp only [List.length_drop, List.length_take]; rfl)) ?_
            with_reducible refine (PBase.skiffref1_Low.calls k a0_0 4 t112 _ A4.out).mono ?_
            rintro e w17 ⟨rfl, hb⟩
            refine ⟨_, rfl, ?_⟩
            have n0_ := Aside0.mk (blk_below (g := gb110) (o := .cells #[.int .i64 a0_0, .int .i64 a0_1, .int .i64 a0_2, .int .i64 a0_3] 25 (0, 0)) (by (with_reducible repeat (first | refine blk_drewN ?_ _ | refine blk_drew ?_ | refine blk_alloc ?_ _)); exact BK110.out) hb)
            have n1_ := Aside0.mk (below_step (by repeat (first | (with_reducible first | exact HB.out | apply below_alloc | apply pw_below_drewN | apply below_drew1 | refine below_set ?_ GE110.out) | exact HB.out)) hb)
            clear BK110
            clear HB
            have BK110 := n0_
            have HB := n1_
            clear n0_ n1_
            (try clear hb)
            (try clear hb2)
            (try clear hk)
            (try clear hi)
            refine hK.out _ _ ⟨(blk_cell BK110.out 0).trans rfl, (blk_cell BK110.out 1).trans rfl, (blk_cell BK110.out 2).trans rfl, (blk_cell BK110.out 3).trans rfl⟩ (fun hHeld => ?_)
            clear hK K
            refine norm_ (a' := ?_) ?_ ?_
            rotate_left
            · show Act.put _ (some 11) _ = _
              simp only [Act.put, List.setIfInBounds_toArray, List.set_cons_zero, List.set_cons_succ, i64_w, i32_w]
              rfl
            refine one_ (i := 5) (N := some 14) #[true, true, true, true, true, true, false, false, false, true, true, false, false, true, true, false, false, false, false] rfl rfl (one_of HT_.out (by kernel_rfl)) (by decide) (fun K hK => ?_)
            refine goes_ Try.func55 (by kernel_rfl) rfl #[.int .i64 a0_1, .int .i64 1] (by rfl) rfl rfl (by (try simp only [List.map_toArray, List.map_cons, List.map_nil]); first | done | rfl | (simp only [List.length_drop, List.length_take]; rfl)) ?_
            with_reducible refine (PBase.skiffref1_Low.calls k a0_1 1 t113 _ A5.out).mono ?_
            rintro e w18 ⟨rfl, hb⟩
            refine ⟨_, rfl, ?_⟩
            have n0_ := Aside0.mk (blk_below (g := gb110) (o := .cells #[.int .i64 a0_0, .int .i64 a0_1, .int .i64 a0_2, .int .i64 a0_3] 25 (0, 0)) (by (with_reducible repeat (first | refine blk_drewN ?_ _ | refine blk_drew ?_ | refine blk_alloc ?_ _)); exact BK110.out) hb)
            have n1_ := Aside0.mk (below_step (by repeat (first | (with_reducible first | exact HB.out | apply below_alloc | apply pw_below_drewN | apply below_drew1 | refine below_set ?_ GE110.out) | exact HB.out)) hb)
            clear BK110
            clear HB
            have BK110 := n0_
            have HB := n1_
            clear n0_ n1_
            (try clear hb)
            (try clear hb2)
            (try clear hk)
            (try clear hi)
            refine hK.out _ _ ⟨(blk_cell BK110.out 0).trans rfl, (blk_cell BK110.out 1).trans rfl, (blk_cell BK110.out 2).trans rfl, (blk_cell BK110.out 3).trans rfl⟩ (fun hHeld => ?_)
            clear hK K
            refine norm_ (a' := ?_) ?_ ?_
            rotate_left
            · show Act.put _ (some 14) _ = _
              simp only [Act.put, List.setIfInBounds_toArray, List.set_cons_zero, List.set_cons_succ, i64_w, i32_w]
              rfl
            refine pure_ (i := 6) (N := some 15) (v := ?_) (a' := ?_) #[true, true, true, true, true, true, true, false, false, true, true, false, false, true, true, false, false, false, false] rfl rfl (any_of HT_.out (by kernel_rfl)) (fun _ _ _ h => h) (Or.inl ⟨by rfl, ?_⟩) ?_ ?_
            rotate_left
            · intro w'
              go_simp
              with_reducible rfl
            rotate_left
            · simp only [Act.put, List.setIfInBounds_toArray, List.set_cons_zero, List.set_cons_succ, i64_w, i32_w]
              rfl
            refine one_ (i := 7) (N := some 16) #[true, true, true, true, true, true, true, true, false, true, true, false, false, true, true, false, false, false, false] rfl rfl (one_of HT_.out (by kernel_rfl)) (by decide) (fun K hK => ?_)
            refine goes_ Try.func55 (by kernel_rfl) rfl #[.int .i64 0, .int .i64 1] (by rfl) rfl rfl (by (try simp only [List.map_toArray, List.map_cons, List.map_nil]); first | done | rfl | (simp only [List.length_drop, List.length_take]; rfl)) ?_
            with_reducible refine (PBase.skiffref1_Low.calls k 0 1 t114 _ A7.out).mono ?_
            rintro e w19 ⟨rfl, hb⟩
            refine ⟨_, rfl, ?_⟩
            have n0_ := Aside0.mk (blk_below (g := gb110) (o := .cells #[.int .i64 a0_0, .int .i64 a0_1, .int .i64 a0_2, .int .i64 a0_3] 25 (0, 0)) (by (with_reducible repeat (first | refine blk_drewN ?_ _ | refine blk_drew ?_ | refine blk_alloc ?_ _)); exact BK110.out) hb)
            have n1_ := Aside0.mk (below_step (by repeat (first | (with_reducible first | exact HB.out | apply below_alloc | apply pw_below_drewN | apply below_drew1 | refine below_set ?_ GE110.out) | exact HB.out)) hb)
            clear BK110
            clear HB
            have BK110 := n0_
            have HB := n1_
            clear n0_ n1_
            (try clear hb)
            (try clear hb2)
            (try clear hk)
            (try clear hi)
            refine hK.out _ _ ⟨(blk_cell BK110.out 0).trans rfl, (blk_cell BK110.out 1).trans rfl, (blk_cell BK110.out 2).trans rfl, (blk_cell BK110.out 3).trans rfl⟩ (fun hHeld => ?_)
            clear hK K
            refine norm_ (a' := ?_) ?_ ?_
            rotate_left
            · show Act.put _ (some 16) _ = _
              simp only [Act.put, List.setIfInBounds_toArray, List.set_cons_zero, List.set_cons_succ, i64_w, i32_w]
              rfl
            refine pure_ (i := 8) (N := some 17) (v := ?_) (a' := ?_) #[true, true, true, true, true, true, true, true, true, true, true, false, false, true, true, false, false, false, false] rfl rfl (any_of HT_.out (by kernel_rfl)) (fun _ _ _ h => h) (Or.inl ⟨by rfl, ?_⟩) ?_ ?_
            rotate_left
            · intro w'
              go_simp
              with_reducible rfl
            rotate_left
            · simp only [Act.put, List.setIfInBounds_toArray, List.set_cons_zero, List.set_cons_succ, i64_w, i32_w]
              rfl
            refine one_ (i := 11) (N := some 20) #[true, true, true, true, true, true, true, true, true, true, true, true, false, true, true, false, false, false, false] rfl rfl (one_of HT_.out (by kernel_rfl)) (by decide) (fun K hK => ?_)
            refine goes_ Try.func55 (by kernel_rfl) rfl #[.int .i64 a0_2, .int .i64 2] (by rfl) rfl rfl (by (try simp only [List.map_toArray, List.map_cons, List.map_nil]); first | done | rfl | (simp only [List.length_drop, List.length_take]; rfl)) ?_
            with_reducible refine (PBase.skiffref1_Low.calls k a0_2 2 t115 _ A9.out).mono ?_
            rintro e w20 ⟨rfl, hb⟩
            refine ⟨_, rfl, ?_⟩
            have n0_ := Aside0.mk (blk_below (g := gb110) (o := .cells #[.int .i64 a0_0, .int .i64 a0_1, .int .i64 a0_2, .int .i64 a0_3] 25 (0, 0)) (by (with_reducible repeat (first | refine blk_drewN ?_ _ | refine blk_drew ?_ | refine blk_alloc ?_ _)); exact BK110.out) hb)
            have n1_ := Aside0.mk (below_step (by repeat (first | (with_reducible first | exact HB.out | apply below_alloc | apply pw_below_drewN | apply below_drew1 | refine below_set ?_ GE110.out) | exact HB.out)) hb)
            clear BK110
            clear HB
            have BK110 := n0_
            have HB := n1_
            clear n0_ n1_
            (try clear hb)
            (try clear hb2)
            (try clear hk)
            (try clear hi)
            refine hK.out _ _ ⟨(blk_cell BK110.out 0).trans rfl, (blk_cell BK110.out 1).trans rfl, (blk_cell BK110.out 2).trans rfl, (blk_cell BK110.out 3).trans rfl⟩ (fun hHeld => ?_)
            clear hK K
            refine norm_ (a' := ?_) ?_ ?_
            rotate_left
            · show Act.put _ (some 20) _ = _
              simp only [Act.put, List.setIfInBounds_toArray, List.set_cons_zero, List.set_cons_succ, i64_w, i32_w]
              rfl
            refine pure_ (i := 12) (N := some 21) (v := ?_) (a' := ?_) #[true, true, true, true, true, true, true, true, true, true, true, true, true, true, true, false, false, false, false] rfl rfl (any_of HT_.out (by kernel_rfl)) (fun _ _ _ h => h) (Or.inl ⟨by rfl, ?_⟩) ?_ ?_
            rotate_left
            · intro w'
              go_simp
              with_reducible rfl
            rotate_left
            · simp only [Act.put, List.setIfInBounds_toArray, List.set_cons_zero, List.set_cons_succ, i64_w, i32_w]
              rfl
            refine one_ (i := 15) (N := some 24) #[true, true, true, true, true, true, true, true, true, true, true, true, true, true, true, true, false, false, false] rfl rfl (one_of HT_.out (by kernel_rfl)) (by decide) (fun K hK => ?_)
            refine goes_ Try.func55 (by kernel_rfl) rfl #[.int .i64 a0_3, .int .i64 4] (by rfl) rfl rfl (by (try simp only [List.map_toArray, List.map_cons, List.map_nil]); first | done | rfl | (simp only [List.length_drop, List.length_take]; rfl)) ?_
            with_reducible refine (PBase.skiffref1_Low.calls k a0_3 4 t116 _ A11.out).mono ?_
            rintro e w21 ⟨rfl, hb⟩
            refine ⟨_, rfl, ?_⟩
            have n0_ := Aside0.mk (blk_below (g := gb110) (o := .cells #[.int .i64 a0_0, .int .i64 a0_1, .int .i64 a0_2, .int .i64 a0_3] 25 (0, 0)) (by (with_reducible repeat (first | refine blk_drewN ?_ _ | refine blk_drew ?_ | refine blk_alloc ?_ _)); exact BK110.out) hb)
            have n1_ := Aside0.mk (below_step (by repeat (first | (with_reducible first | exact HB.out | apply below_alloc | apply pw_below_drewN | apply below_drew1 | refine below_set ?_ GE110.out) | exact HB.out)) hb)
            clear BK110
            clear HB
            have BK110 := n0_
            have HB := n1_
            clear n0_ n1_
            (try clear hb)
            (try clear hb2)
            (try clear hk)
            (try clear hi)
            refine hK.out _ _ ⟨(blk_cell BK110.out 0).trans rfl, (blk_cell BK110.out 1).trans rfl, (blk_cell BK110.out 2).trans rfl, (blk_cell BK110.out 3).trans rfl⟩ (fun hHeld => ?_)
            clear hK K
            refine norm_ (a' := ?_) ?_ ?_
            rotate_left
            · show Act.put _ (some 24) _ = _
              simp only [Act.put, List.setIfInBounds_toArray, List.set_cons_zero, List.set_cons_succ, i64_w, i32_w]
              rfl
            refine pure_ (i := 16) (N := some 25) (v := ?_) (a' := ?_) #[true, true, true, true, true, true, true, true, true, true, true, true, true, true, true, true, true, false, false] rfl rfl (any_of HT_.out (by kernel_rfl)) (fun _ _ _ h => h) (Or.inl ⟨by rfl, ?_⟩) ?_ ?_
            rotate_left
            · intro w'
              go_simp
              with_reducible rfl
            rotate_left
            · simp only [Act.put, List.setIfInBounds_toArray, List.set_cons_zero, List.set_cons_succ, i64_w, i32_w]
              rfl
            have kb := fun (s : ByteArray) (W : World) => print_bytes (P := Try.prog) 9 30 5 Try.underlying9 Try.underlying30 Try.underlying5 s W
            refine one_ (i := 17) (N := some 26) #[true, true, true, true, true, true, true, true, true, true, true, true, true, true, true, true, true, true, false] rfl rfl (one_of HT_.out (by kernel_rfl)) (by decide) (fun K hK => ?_)
            rw [HSS.out]
            refine event_step (by rfl) (run_conv_ (s := ss) rfl rfl Try.underlying9 Try.underlying30 Try.underlying5) ?_
            have n0_ := Aside0.mk (blk_below (g := gb110) (by exact BK110.out) (bw_below _ 5 ss))
            have n1_ := Aside0.mk (below_step HB.out (bw_below _ 5 ss))
            have hmsl := msl_conv (w21) w.heap.size (below_size HB.out) 5 ss
            clear BK110
            clear HB
            have BK110 := n0_
            have HB := n1_
            clear n0_ n1_ kb
            generalize Lib.bytesWorld w21 5 ss = wc at hmsl BK110 HB ⊢
            generalize w21.heap.size = gc at hmsl ⊢
            generalize grownCap w21 ss.size 0 5 = cc at hmsl ⊢
            refine hK.out _ _ ⟨(blk_cell BK110.out 0).trans rfl, (blk_cell BK110.out 1).trans rfl, (blk_cell BK110.out 2).trans rfl, (blk_cell BK110.out 3).trans rfl⟩ (fun hHeld => ?_)
            clear hK K
            refine norm_ (a' := ?_) ?_ ?_
            rotate_left
            · simp only [Act.put, List.setIfInBounds_toArray, List.set_cons_zero, List.set_cons_succ, i64_w, i32_w]
              rfl
            refine pure_ (i := 18) (N := some 4) (v := ?_) (a' := ?_) #[true, true, true, true, true, true, true, true, true, true, true, true, true, true, true, true, true, true, true] rfl rfl (any_of HT_.out (by kernel_rfl)) (fun _ _ _ h => h) (Or.inl ⟨by rfl, ?_⟩) ?_ ?_
            rotate_left
            · intro w'
              go_simp
              with_reducible rfl
            rotate_left
            · simp only [Act.put, List.setIfInBounds_toArray, List.set_cons_zero, List.set_cons_succ, i64_w, i32_w]
              rfl
            refine done_ (done_of HT_.out (by kernel_rfl)) ?_
            have HMS := Lib.hid hmsl
            clear hmsl hHeld BK110 HT_ HW_
            have hl12 := HLO.out
            have hhi := HHI.out
            clear HLO HHI
            go_wp2
            go_loopw [4, 5] (fun v i wr => ∃ j : Nat, j ≤ 12 ∧ i = .int .i64 j ∧ MSl wr w.heap.size v (putL (bytesOf ss) j) ∧ Below w.heap.size w wr) (fun _ i _ => 12 - (intOf i).toNat)
            case atStart => exact ⟨0, Nat.zero_le _, rfl, by rw [putL_zero]; exact HMS.out, HB.out⟩
            case round =>
              obtain ⟨j, hj, rfl, hm1, hb1⟩ := hrel
              by_cases hlt : j < 12
              · obtain ⟨g, c, rfl, hg1, hg2, hg3, hg4, hg5⟩ := id hm1
                have hlen := putL_length (bytesOf ss) j
                have hbl := bytesOf_length ss
                have hjl : j < (putL (bytesOf ss) j).length := by omega
                have hcell := (hg4 j hjl).1
                rw [putL_at _ _ (by omega)] at hcell
                have HMM := Lib.hid hm1
                have HB1 := Lib.hid hb1
                have HN := Lib.hid (putL_succ (bytesOf ss) j (by omega))
                have HLN := Lib.hid (show (putL (bytesOf ss) j).length + 1 ≤ 140737488355328 by omega)
                clear hm1 hb1 hg4 hg5 hbl
                obtain ⟨n, hn⟩ : ∃ n, (putL (bytesOf ss) j).length = n := ⟨_, rfl⟩
                generalize (bytesOf ss).getD j 0 = x at hcell HN
                have HMM2 : Hid (MSl wr w.heap.size (.slice (some ⟨g, 0, none⟩) n c) (putL (bytesOf ss) j)) := by rw [← hn]; exact HMM.out
                rw [hn] at hjl hlen ⊢
                clear hn HMM
                go_wp2_with (at_builtin; (refine msl_append (w0 := w) (base := w.heap.size) rfl _ _ 30 5 rfl Try.underlying30 info5' _ (putL (bytesOf ss) j) rfl ?mA wr.heap.size 1 ((255 - x) % 256) rfl ?mC ?mD (Nat.le_refl _) ?mE ?_); (case mA => exact HMM2.out.below (below_alloc (Below.refl _ _) _) (Nat.le_refl _)); (case mC => simp [go_sem]); (case mD => exact below_alloc HB1.out _); (case mE => exact HLN.out); intro v1 w2 hm2 hb2; have HM2 := Lib.hid hm2; have HB2 := Lib.hid hb2; clear hm2 hb2)
                go_roundw
                case rel => exact ⟨j + 1, by omega, by go_num, by rw [HN.out]; exact HM2.out, HB2.out⟩
                case measure => simp [intOf]; omega
              · obtain rfl : j = 12 := by omega
                have hconv := hm1.string (P := Try.prog) 30 9 5 Try.underlying30 Try.underlying5 Try.underlying9
                have HB1 := Lib.hid hb1
                obtain ⟨g, c, rfl, hg1, hg2, hg3, hg4, hg5⟩ := hm1
                clear hb1 hg4 hg5
                go_wp2
                go_ret2
                exact ⟨by rw [HR2.out]; rfl, HB1.out⟩
          · rw [if_neg c12] at H
            exact absurd H (by simp)
        · rw [if_neg c10] at H
          exact absurd H (by simp)
      · rw [if_neg c8] at H
        exact absurd H (by simp)
    · rw [if_neg c6] at H
      exact absurd H (by simp)
  · replace c3 := Bool.eq_false_iff.mpr c3
    subst c3
    have H1 : (some ((⟨#[]⟩ : ByteArray), 400)) = some (r1, r2) := by rw [if_neg (show ¬ (false = true) by decide)] at H; exact H
    clear H
    have H := H1
    clear H1
    simp only [Option.some.injEq, Prod.mk.injEq] at H
    obtain ⟨rfl, rfl⟩ := H
    go_enter Try.func29, Try.ntmps29
    go_wp2_with (first | ((with_reducible refine gate_dst (N := 1) rfl ?_); refine box_event ?hg (N := 1) ?hd (cs := #[.int .i64 a0_0, .int .i64 a0_1, .int .i64 a0_2, .int .i64 a0_3]) (t := 25) ?hr ?_; (case hd => rfl); (case hg => rfl); (case hr => first | (go_simp; done) | (go_simp; rfl)); intro gb110 hg w22 hbox hb; have n0_ := Aside0.mk (below_step (by repeat (first | (with_reducible first | exact HB.out | apply below_alloc | apply pw_below_drewN | apply below_drew1) | exact HB.out)) hb); have n1_ := Aside0.mk (hbox); have n2_ := Aside0.mk ((by rw [hg]; exact (below_size (by repeat (first | (with_reducible first | exact HB.out | apply below_alloc | apply pw_below_drewN | apply below_drew1) | exact HB.out))) : w.heap.size ≤ gb110)); have n3_ := Aside0.mk ((by rw [hg]; exact (below_size (by repeat (first | (with_reducible first | exact HB.out | apply below_alloc | apply pw_below_drewN | apply below_drew1) | exact HB.out))) : w.heap.size ≤ gb110)); clear HB; have HB := n0_; have BK110 := n1_; have GW110 := n2_; have GE110 := n3_; clear n0_ n1_ n2_ n3_; clear hb hbox hg; have hcz23_0 : w22.cell? ⟨gb110, 0, none⟩ = some (.int .i64 a0_0) := (blk_cell BK110.out 0).trans rfl; have hcz23_1 : w22.cell? ⟨gb110, 1, none⟩ = some (.int .i64 a0_1) := (blk_cell BK110.out 1).trans rfl; have hcz23_2 : w22.cell? ⟨gb110, 2, none⟩ = some (.int .i64 a0_2) := (blk_cell BK110.out 2).trans rfl; have hcz23_3 : w22.cell? ⟨gb110, 3, none⟩ = some (.int .i64 a0_3) := (blk_cell BK110.out 3).trans rfl; have hfz23_0 := blk_frozen BK110.out 0; have hfz23_1 := blk_frozen BK110.out 1; have hfz23_2 := blk_frozen BK110.out 2; have hfz23_3 := blk_frozen BK110.out 3) | ((with_reducible refine gate_callee (f := 54) rfl ?_); refine goesL_ (some 7) rfl rfl Try.func54 (by kernel_rfl) rfl #[.agg #[.int .i64 a0_0, .int .i64 a0_1, .int .i64 a0_2, .int .i64 a0_3]] rfl (by (try simp only [List.map_toArray, List.map_cons, List.map_nil]); first | done | rfl | (simp only [List.length_drop, List.length_take]; rfl)) ?_; (with_reducible refine (PBase.skiffref1_RecordMay.calls a0_0 a0_1 a0_2 a0_3 false _ A2.out).mono ?_); rintro e w24 ⟨rfl, hb⟩; refine ⟨_, rfl, ?_⟩; have n0_ := Aside0.mk (blk_below (g := gb110) (o := .cells #[.int .i64 a0_0, .int .i64 a0_1, .int .i64 a0_2, .int .i64 a0_3] 25 (0, 0)) (by (with_reducible repeat (first | refine blk_drewN ?_ _ | refine blk_drew ?_ | refine blk_alloc ?_ _)); exact BK110.out) hb); have n1_ := Aside0.mk (below_step (by repeat (first | (with_reducible first | exact HB.out | apply below_alloc | apply pw_below_drewN | apply below_drew1 | refine below_set ?_ GE110.out) | exact HB.out)) hb); clear BK110; clear HB; have BK110 := n0_; have HB := n1_; clear n0_ n1_; (try clear hb); (try clear hb2); (try clear hk); (try clear hi)))
    go_ret2
    exact ⟨by first | rfl | (simp [errW_none, errW_some] <;> rfl) | (simp [*, errW_none, errW_some] <;> rfl), by repeat (first | (with_reducible first | exact HB.out | apply below_alloc | apply pw_below_drewN | apply below_drew1 | refine below_set ?_ GE110.out) | exact HB.out)⟩

end Go.Proofs.Ytjihlabmddfjhaa.Hand
