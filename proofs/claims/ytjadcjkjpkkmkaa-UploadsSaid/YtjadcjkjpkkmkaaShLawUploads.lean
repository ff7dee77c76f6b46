-- By hand: the row of Uploads (a string, a device with a slice of operations, two numbers).
import Derived.Test.YtjadcjkjpkkmkaaShU7
import Derived.Test.YtjadcjkjpkkmkaaRows
import Derived.WalkKit
import Derived.ProofKit
import Derived.OpenShut
import Derived.ShutString
import Derived.ChangeOld
import Derived.Below
import Derived.SizedLaws
import Derived.Carry
import Derived.Deep.Slices
import Derived.Deep.Fields
import Derived.ChangeSame
import Derived.Lib.SmallJoins
namespace Go.Proofs.Ytjadcjkjpkkmkaa.uploads
open Go.Joins Go.ChangeShapes Go.WideShapes Go.ChangeAt Go.RowKit Go.Deep
open Go.ChangeMaps (open_string shut_string)
open Go.Proofs.YtjadcjkjpkkmkaaW.PrintWords Go.Proofs.Ytjadcjkjpkkmkaa.PAll
set_option linter.unusedVariables false
set_option linter.unusedSimpArgs false
section
variable {H : Type} {enc : TypeId × Value → H} {P : Program} {w : World} {base : Nat} {spare : Nat → Bool} {held : Bool}
theorem open_slice_fields {t e : TypeId} {fs : Array Field} {fuel : Nat} {cs : List Value} {x : DataW H × List MemPlace} (ht : P.underlying t = some (.slice e)) (he : P.underlying e = some (.struct fs))
    (hone : oneCellFields P fs = true) (hC : P.cellsOf e = fs.size) (h : DataW.trod enc P w base spare held fuel t cs = some x) :
    (cs = [.slice none 0 0] ∧ x = (.nil, [])) ∨
    ∃ (a : Addr) (len cap m : Nat) (D : Nat → DataW H) (Pl : Nat → List MemPlace), cs = [.slice (some a) len cap] ∧ base ≤ a.block ∧ len ≤ cap ∧ cap ≤ maxLen ∧ m = (if spare a.block then cap else len) ∧
      x = (.slice ((List.range len).map D) ((List.range (m - len)).map fun j => D (len + j)), MemPlace.row a (m * fs.size) ++ (List.range m).flatMap Pl) ∧
      ∀ i, i < m → ∃ (ys : List (DataW H × List MemPlace)) (n : Nat), D i = .agg (ys.map (·.1)) ∧ Pl i = ys.flatMap (·.2) ∧ ys.length = fs.size ∧
        ∀ (j : Nat) (f : Field), fs[j]? = some f → ∃ (v : Value) (y : DataW H × List MemPlace), w.cell? (a.add (i * fs.size + j)) = some v ∧ ys[j]? = some y ∧ DataW.trod enc P w base spare held n f.type [v] = some y := by
  rcases open_slice ht h with h0 | ⟨a, len, cap, m, n, D, Pl, hcs, hb, hl, hm, hmm, hx, hi⟩
  · exact .inl h0
  · refine .inr ⟨a, len, cap, m, D, Pl, hcs, hb, hl, hm, hmm, by rw [hC] at hx; exact hx, fun i him => ?_⟩
    obtain ⟨cs', hc, ht'⟩ := hi i him
    rw [hC] at hc
    obtain ⟨ys, n', hn', hy, hlen, hyl, hf⟩ := DataW.trod_struct he ht'
    obtain ⟨_, hcl, hat⟩ := World.cells?_some hc
    simp only [Prod.mk.injEq] at hy
    refine ⟨ys, n', hy.1, hy.2, hyl, fun j f hj => ?_⟩
    obtain ⟨ho, hk⟩ := hone_of hone j f hj
    have hjl : j < fs.size := (Array.getElem?_eq_some_iff.1 hj).1
    have hcell := hat j hjl
    have hv : cs'[j]? = some (cs'[j]'(by omega)) := List.getElem?_eq_getElem (by omega)
    have h1 := hf j f hj
    rw [ho, hk] at h1
    have hone' : (cs'.drop j).take 1 = [cs'[j]'(by omega)] := by
      rw [List.drop_eq_getElem_cons (by omega)]
      rfl
    rw [hone'] at h1
    have hys : ys[j]? = some (ys[j]'(by omega)) := List.getElem?_eq_getElem (by omega)
    refine ⟨_, _, ?_, hys, h1.trans hys⟩
    rw [← Go.Deep.add_add, hcell, hv]
end
section
variable {H : Type} {enc : TypeId × Value → H} {P : Program} {w : World} {base : Nat} {spare : Nat → Bool} {held : Bool}
theorem open_agg6 {r : Reach} {b0 : Nat} {t : TypeId} {f0 f1 f2 f3 f4 f5 : Field} {v : Value} {d : DataW H} {p : List MemPlace} (hs : P.underlying t = some (.struct #[f0, f1, f2, f3, f4, f5])) (hone : oneCellFields P #[f0, f1, f2, f3, f4, f5] = true) (hC : P.cellsOf t = 6)
    (hv : Value.okWide P w r b0 t v) (h : DataW.Trod enc P w base spare held t v d p) :
    ∃ (v0 v1 v2 v3 v4 v5 : Value) (y0 y1 y2 y3 y4 y5 : DataW H × List MemPlace) (n : Nat), v = .agg #[v0, v1, v2, v3, v4, v5] ∧ d = .agg [y0.1, y1.1, y2.1, y3.1, y4.1, y5.1] ∧ p = y0.2 ++ (y1.2 ++ (y2.2 ++ (y3.2 ++ (y4.2 ++ y5.2)))) ∧
      DataW.trod enc P w base spare held n f0.type [v0] = some y0 ∧ DataW.trod enc P w base spare held n f1.type [v1] = some y1 ∧ DataW.trod enc P w base spare held n f2.type [v2] = some y2 ∧ DataW.trod enc P w base spare held n f3.type [v3] = some y3 ∧ DataW.trod enc P w base spare held n f4.type [v4] = some y4 ∧ DataW.trod enc P w base spare held n f5.type [v5] = some y5 := by
  obtain ⟨cs, rfl, hsz⟩ := okWide_struct hs hv
  obtain ⟨l⟩ := cs
  match l, hsz.trans hC with
  | [c0, c1, c2, c3, c4, c5], _ =>
    obtain ⟨fuel, hf⟩ := h
    obtain ⟨xs, n, _, hx, _, hlen, hg⟩ := DataW.trod_struct hs hf
    obtain ⟨o0, k0⟩ := hone_of hone 0 f0 rfl
    obtain ⟨o1, k1⟩ := hone_of hone 1 f1 rfl
    obtain ⟨o2, k2⟩ := hone_of hone 2 f2 rfl
    obtain ⟨o3, k3⟩ := hone_of hone 3 f3 rfl
    obtain ⟨o4, k4⟩ := hone_of hone 4 f4 rfl
    obtain ⟨o5, k5⟩ := hone_of hone 5 f5 rfl
    match xs, hlen with
    | [y0, y1, y2, y3, y4, y5], _ =>
      simp only [Prod.mk.injEq] at hx
      exact ⟨c0, c1, c2, c3, c4, c5, y0, y1, y2, y3, y4, y5, n, rfl, by simpa using hx.1, by simpa using hx.2, by simpa [Value.cells, o0, k0] using hg 0 f0 rfl, by simpa [Value.cells, o1, k1] using hg 1 f1 rfl, by simpa [Value.cells, o2, k2] using hg 2 f2 rfl, by simpa [Value.cells, o3, k3] using hg 3 f3 rfl, by simpa [Value.cells, o4, k4] using hg 4 f4 rfl, by simpa [Value.cells, o5, k5] using hg 5 f5 rfl⟩
end
theorem own : ownKnob Try.prog.godebug = none := by kernel_rfl
theorem laidOut : laidOutB Try.prog = true := by kernel_rfl
theorem cells56 : Try.prog.cellsOf 56 = 6 := by kernel_rfl
theorem cells87 : Try.prog.cellsOf 87 = 3 := by kernel_rfl
theorem bytes87 : Try.prog.bytesOf 87 = 32 := by kernel_rfl
/-- The slice of operations, read as a list. -/
theorem ops_in {H : Type} {enc : TypeId × Value → H} {W : World} {base : Nat} {held : Bool} {fuel : Nat} {v : Value} {y : DataW H × List MemPlace} (h : DataW.trod enc Try.prog W base (fun _ => true) held fuel 54 [v] = some y) :
    ∃ (A : Option Addr) (l : List S87) (c : Nat), v = .slice A l.length c ∧ l.length ≤ c ∧ Kd.C k87 W A l.length l ∧ (∀ x, x ∈ l → M.okOp x) ∧ (l = [] ∨ ∃ es sp : List (DataW H), y.1 = .slice es sp ∧ es.length = l.length) := by
  rcases open_slice_fields Try.underlying54 Try.underlying87 (by kernel_rfl) cells87 h with ⟨hv, _⟩ | ⟨a, len, cap, m, D, Pl, hv, _, hl, hc, hm, hx, hi⟩
  · obtain rfl : v = .slice none 0 0 := by simpa using hv
    exact ⟨none, [], 0, rfl, Nat.le_refl _, ⟨rfl, by decide, fun h => absurd h (by decide)⟩, fun x hx => absurd hx (by simp), Or.inl rfl⟩
  · obtain rfl : v = .slice (some a) len cap := by simpa using hv
    rw [if_pos rfl] at hm
    have key : ∀ i, i < len → ∃ x : S87, M.okOp x ∧ W.cell? (a.add (i * 3 + 0)) = some (.bool x.f0) ∧ W.cell? (a.add (i * 3 + 1)) = some (.int .i64 x.f1) ∧ W.cell? (a.add (i * 3 + 2)) = some (.string x.f2) := by
      intro i hil
      obtain ⟨ys, n, _, _, _, hf⟩ := hi i (by omega)
      obtain ⟨v0, y0, c0, _, t0⟩ := hf 0 _ rfl
      obtain ⟨v1, y1, c1, _, t1⟩ := hf 1 _ rfl
      obtain ⟨v2, y2, c2, _, t2⟩ := hf 2 _ rfl
      obtain ⟨b, g0, _⟩ := DataW.trod_bool Try.underlying4 t0
      obtain ⟨z, g1, _, w⟩ := DataW.trod_int Try.underlying3 t1
      obtain ⟨s, g2, _, _⟩ := DataW.trod_string Try.underlying9 t2
      obtain rfl : v0 = .bool b := by simpa using g0
      obtain rfl : v1 = .int .i64 z := by simpa using g1
      obtain rfl : v2 = .string s := by simpa using g2
      exact ⟨⟨b, z, s⟩, bounds_i64 w, c0, c1, c2⟩
    let g : Nat → S87 := fun i => if h : i < len then Classical.choose (key i h) else ⟨false, 0, ByteArray.empty⟩
    have gs : ∀ i, i < len → M.okOp (g i) ∧ W.cell? (a.add (i * 3 + 0)) = some (.bool (g i).f0) ∧ W.cell? (a.add (i * 3 + 1)) = some (.int .i64 (g i).f1) ∧ W.cell? (a.add (i * 3 + 2)) = some (.string (g i).f2) := by
      intro i hil
      have e : g i = Classical.choose (key i hil) := dif_pos hil
      rw [e]; exact Classical.choose_spec (key i hil)
    have gl : ((List.range len).map g).length = len := by simp
    have mx : maxLen ≤ 9223372036854775807 := by decide
    refine ⟨some a, (List.range len).map g, cap, by rw [gl], by rw [gl]; exact hl, ?_, ?_, Or.inr ⟨_, _, by rw [hx], by simp⟩⟩
    · rw [gl]
      refine ⟨gl, by omega, fun _ => ⟨a, rfl, fun j p hp => ?_⟩⟩
      have hj : j < len := by rw [← gl]; exact (List.getElem?_eq_some_iff.1 hp).1
      obtain rfl : g j = p := by simpa [List.getElem?_map, List.getElem?_range hj] using hp
      obtain ⟨_, c0, c1, c2⟩ := gs j hj
      refine ⟨_, rfl, k87_mk W (g j), fun i u hu => ?_⟩
      match i, hu with
      | 0, hu => obtain rfl := Option.some.inj hu; exact c0
      | 1, hu => obtain rfl := Option.some.inj hu; exact c1
      | 2, hu => obtain rfl := Option.some.inj hu; exact c2
      | _ + 3, hu => exact absurd hu (by simp)
    · intro x hx
      obtain ⟨i, hi', rfl⟩ := List.mem_map.1 hx
      exact (gs i (List.mem_range.1 hi')).1
set_option maxRecDepth 100000 in
theorem lifted (os : Os) (started : os.Started) (H : Type) (enc : TypeId × Value → H) :
    ReturnsInHanded {} Try.checked os 8 .any (Rows.uploadsSpec.pre6 enc Try.prog Try.f8 Rows.uploadsRow.domain false) (Rows.uploadsSpec.post enc Try.prog Try.f8 false true false false) := by
  refine returnsInHanded_of_change_sized (C := Try.checked) own started (by kernel_rfl) Try.func8
    (ChangeSpec.witness6 (enc := enc) (C := Try.checked) false ⟨#[], #[.string ByteArray.empty, .agg #[.int .i64 0, .int .i64 0, .int .i64 0, .int .i64 0, .int .i64 0, .slice none 0 0], .int .i64 0, .int .i64 0], []⟩ 8 (by kernel_rfl) (by kernel_rfl) (by kernel_rfl) (by kernel_rfl)) ?_
  intro W base args ds gs before hval0 hW hcnd hsz0 _
  have hsz : (DataW.weightsEach Try.prog (Try.f8.params.toList ++ Rows.uploadsSpec.plain.varTypes Try.prog) (ds ++ gs)).all (· ≤ reachBytes) = true := hsz0
  have hval : ∀ (j : Nat) t v, Try.f8.params[j]? = some t → args[j]? = some v → Value.okWide Try.prog W .any base t v := hval0
  have hW' := hW
  obtain ⟨p, q, hA0, hV, rfl, hfz, hnd⟩ := hW
  have hA : DataW.TrodAll enc Try.prog W 0 (fun _ => true) true Try.f8.params.toList args.toList ds p := hA0
  rw [Try.params8] at hA hval hsz
  obtain ⟨v0, vs0, d0, ds0, p0, q0, hargs, rfl, rfl, h0, r0⟩ := trodAll_cons hA
  obtain ⟨v1, vs1, d1, ds1, p1, q1, rfl, rfl, rfl, h1, r1⟩ := trodAll_cons r0
  obtain ⟨v2, vs2, d2, ds2, p2, q2, rfl, rfl, rfl, h2, r2⟩ := trodAll_cons r1
  obtain ⟨v3, vs3, d3, ds3, p3, q3, rfl, rfl, rfl, h3, r3⟩ := trodAll_cons r2
  obtain ⟨rfl, rfl, rfl⟩ := trodAll_nil r3
  obtain rfl : args = #[v0, v1, v2, v3] := by cases args; simp_all
  obtain ⟨rfl, rfl⟩ := trodVars_none hV
  obtain ⟨a0, rfl, rfl, rfl, y0⟩ := open_string Try.underlying9 (hval 0 9 v0 rfl rfl) h0
  have h1k := h1
  have hlt : ∀ x ∈ p1, x.block < W.heap.size := fun x hx => hW'.lt x (by simp [hx])
  obtain ⟨c0, c1, c2, c3, c4, c5, e0, e1, e2, e3, e4, e5, n1, rfl, rfl, rfl, t0, t1, t2, t3, t4, t5⟩ := open_agg6 Try.underlying56 (by kernel_rfl) cells56 (hval 1 56 v1 rfl rfl) h1
  obtain ⟨z0, g0, rfl, w0⟩ := DataW.trod_int Try.underlying3 t0
  obtain ⟨z1, g1, rfl, w1⟩ := DataW.trod_int Try.underlying3 t1
  obtain ⟨z2, g2, rfl, w2⟩ := DataW.trod_int Try.underlying3 t2
  obtain ⟨z3, g3, rfl, w3⟩ := DataW.trod_int Try.underlying3 t3
  obtain ⟨z4, g4, rfl, w4⟩ := DataW.trod_int Try.underlying3 t4
  obtain rfl : c0 = .int .i64 z0 := by simpa using g0
  obtain rfl : c1 = .int .i64 z1 := by simpa using g1
  obtain rfl : c2 = .int .i64 z2 := by simpa using g2
  obtain rfl : c3 = .int .i64 z3 := by simpa using g3
  obtain rfl : c4 = .int .i64 z4 := by simpa using g4
  obtain ⟨A, l, c, rfl, hlc, hC, hok, hlen⟩ := ops_in t5
  obtain ⟨a2, rfl, rfl, rfl, w5⟩ := open_int Try.underlying3 (hval 2 3 v2 rfl rfl) h2
  obtain ⟨a3, rfl, rfl, rfl, w6⟩ := open_int Try.underlying3 (hval 3 3 v3 rfl rfl) h3
  have hl : l.length < 4398046511104 := by
    rcases hlen with rfl | ⟨es, sp, he, hel⟩
    · decide
    · have z := List.all_eq_true.1 hsz _ (DataW.weights_mem_each (j := 1) (t := 56) rfl rfl ((es.length + sp.length) * Try.prog.bytesOf 87) (by rw [he]; simp [DataW.weights, DataW.weightsEach, Try.underlying56, Try.underlying54]))
      have z' := of_decide_eq_true z
      rw [bytes87] at z'
      have rb := reachBytes_lt
      omega
  clear hA0 hval0 hsz0 hsz
  obtain ⟨k, hk⟩ := Pure.Uploads a0 z0 z1 z2 z3 z4 l a2 a3 hl hok
  refine (PAll.skifflaw20_Uploads.calls k a0 z0 z1 z2 z3 z4 A c l a2 a3 true W hC hlc hk).mono fun e W' ⟨he, bel⟩ => ?_
  subst he
  exact ⟨_, rfl, _, _, _, [], _, [], hW', trodAll_mk1 (shut_bool Try.underlying4 _), (trodAll_cons_mk (shut_string Try.underlying9 y0) (trodAll_cons_mk (Below.trod laidOut (by kernel_rfl) (of_decide_eq_true (by kernel_rfl)) h1k bel hlt) (trodAll_cons_mk (shut_int Try.underlying3 w5) (trodAll_cons_mk (shut_int Try.underlying3 w6) trodAll_mk0)))), rfl, bel.frame _, fun h => by cases h⟩
theorem over : Rows.uploadsRow.holds Try.pinned (OpenSpec.ofChange Rows.uploadsSpec) :=
  OpenClaim.holds_of_wide 8 Try.f8 rfl rfl rfl rfl rfl rfl rfl ⟨rfl, rfl, rfl, rfl, rfl⟩ rfl rfl rfl rfl rfl (by kernel_rfl) Try.func8 (by kernel_rfl)
    (of_decide_eq_true (by kernel_rfl)) (by unfold Func.isWrapper; first | (rw [if_pos (by decide +kernel)]; kernel_rfl) | (rw [if_neg (by decide +kernel)]; exact ⟨rfl, rfl⟩))
    (fun os started H enc _ => lifted os started H enc)
theorem proved : Rows.UploadsSaid := over
#print axioms proved
end Go.Proofs.Ytjadcjkjpkkmkaa.uploads
namespace Go.Proofs.Ytjadcjkjpkkmkaa
/-- The row, under a short name, for the claim. -/
theorem uploads_holds : Rows.UploadsSaid := uploads.proved
end Go.Proofs.Ytjadcjkjpkkmkaa
