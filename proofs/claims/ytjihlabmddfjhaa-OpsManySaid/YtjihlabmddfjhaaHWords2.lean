/- Words for slices of bytes that may lie in a row that a conversion has made: what such a slice holds, an append to it, a store into it, its string. -/
import Derived.Test.YtjihlabmddfjhaaHWords
import Derived.ArgAppend
set_option linter.unnecessarySimpa false
set_option linter.unusedSimpArgs false
set_option linter.unusedVariables false
namespace Go.Proofs.Ytjihlabmddfjhaa.HWords
open Go.RowKit Go.Proofs.YtjihlabmddfjhaaW.PrintWords Go.Proofs.YtjihlabmddfjhaaW.PrintLast Go.Proofs.YtjihlabmddfjhaaW.PrintMore

/-- v is a slice of just these bytes, from block base on, with room behind it that may be written. -/
def MSl (w : World) (base : Nat) (v : Value) (xs : List Int) : Prop :=
  ∃ g c, v = .slice (some ⟨g, 0, none⟩) xs.length c ∧ base ≤ g ∧ g < w.heap.size ∧ xs.length ≤ c ∧ MRow w g xs ∧
    ∀ j, xs.length ≤ j → j < c → (w.cell? ⟨g, j, none⟩).isSome = true ∧ w.frozen? ⟨g, j, none⟩ = false

theorem MSl.below {w w1 : World} {base B : Nat} {v : Value} {xs : List Int} (h : MSl w base v xs) (hb : Below B w w1) (hB : w.heap.size ≤ B) : MSl w1 base v xs := by
  obtain ⟨g, c, rfl, h1, h2, h3, h4, h5⟩ := h
  have hg : g < B := Nat.lt_of_lt_of_le h2 hB
  refine ⟨g, c, rfl, h1, Nat.lt_of_lt_of_le h2 hb.size, h3, h4.of_below hb hg, fun j a b => ?_⟩
  rw [hb.cell (p := ⟨g, j, none⟩) hg, hb.frozen (p := ⟨g, j, none⟩) hg]
  exact h5 j a b

theorem msl_conv (W : World) (base : Nat) (hb : base ≤ W.heap.size) (e : TypeId) (s : ByteArray) : MSl (Lib.bytesWorld W e s) base (.slice (some ⟨W.heap.size, 0, none⟩) s.size (grownCap W s.size 0 e)) (bytesOf s) := by
  have hcs : (Lib.bytesCells W e s).size = grownCap W s.size 0 e := by
    have h1 := grownCap_ge W s.size 0 e
    have h2 : s.data.size = s.size := rfl
    simp [Lib.bytesCells]
    omega
  refine ⟨_, _, by rw [bytesOf_length], hb, by rw [Lib.bytesWorld_size]; omega, by rw [bytesOf_length]; exact grownCap_ge _ _ _ _, mrow_conv W e s, fun j h1 h2 => ?_⟩
  have h3 : j < (Lib.bytesCells W e s).size := by omega
  refine ⟨?_, ?_⟩
  · simp [World.cell?, Lib.bytesWorld_at_new, h3]
  · simp [World.frozen?, Lib.bytesWorld_at_new]
    omega

theorem msl_own {w : World} {B base n : Nat} {e : TypeId} {v : Value} {xs : List Int} (h : w.ownsRow B e 1 v n (nums .u8 xs)) (hb : base ≤ B) (h0 : 0 < n) : MSl w base v xs := by
  have hln : xs.length = n := by have := h.1; simp [nums] at this; exact this
  have hlt := h.lt
  obtain ⟨_, h2⟩ := h
  rcases h2 with ⟨_, he⟩ | ⟨g, c, cur, rfl, hbg, hh, hnc, hcm, hcs, ht⟩
  · omega
  · have hg := hlt g rfl
    have hcs' : cur.size = c := by omega
    refine ⟨g, c, by rw [hln], by omega, hg.2, by omega, fun j hj => ?_, fun j h1 h3 => ?_⟩
    · refine ⟨?_, by simp [World.frozen?, hh]⟩
      have hj2 : j < cur.size := by omega
      simp only [World.cell?, hh]
      have e1 : cur[j]? = (cur.toList.take (n * 1))[j]? := by
        rw [List.getElem?_take]
        rw [if_pos (by omega)]
        simp
      have e2 : (cur.toList.take (n * 1)) = nums .u8 xs := ht
      rw [e1, e2]
      simp [nums, List.getElem?_eq_getElem hj, List.getD_eq_getElem?_getD]
    · refine ⟨?_, by simp [World.frozen?, hh]⟩
      have hj2 : j < cur.size := by omega
      simp [World.cell?, hh, hj2]

theorem MSl.set {w : World} {base : Nat} {v : Value} {xs : List Int} (h : MSl w base v xs) (k : Nat) (x : Int) :
    ∃ g c, v = .slice (some ⟨g, 0, none⟩) xs.length c ∧ base ≤ g ∧ MSl (w.setCell ⟨g, k, none⟩ (.int .u8 x)) base v (xs.set k x) := by
  obtain ⟨g, c, rfl, h1, h2, h3, h4, h5⟩ := h
  refine ⟨g, c, rfl, h1, g, c, by simp, h1, by simpa using h2, by simpa using h3, h4.set k x, fun j a b => ?_⟩
  have a' : xs.length ≤ j := by simpa using a
  obtain ⟨p, q⟩ := h5 j a' b
  refine ⟨?_, by rw [World.frozen?_setCell]; exact q⟩
  obtain ⟨u, hu⟩ := Option.isSome_iff_exists.1 p
  obtain ⟨u', hu'⟩ := cell?_setCell_some (p := ⟨g, k, none⟩) (x := .int .u8 x) hu
  rw [hu']; rfl

theorem MSl.string {P : Program} {w : World} {base : Nat} {v : Value} {xs : List Int} (h : MSl w base v xs) (src dst e : TypeId) (hs : P.underlying src = some (.slice e)) (he : P.underlying e = some (.int .u8)) (hd : P.underlying dst = some .string) :
    (convert src dst v).run P w = .ok (.string (strOfNums xs)) w := by
  obtain ⟨g, c, rfl, h1, h2, h3, h4, h5⟩ := h
  exact run_convert_bytes_arg (P := P) w src e hs he g 0 xs.length c xs rfl (fun i hi => by have := (h4 i hi).1; rw [Nat.zero_add]; exact this) dst hd

section
variable {P : Program} {ops : Array Oper} {rest : List Oper} {o : Oper} {a : Act} {Q : Exit → Act → World → Prop}
/-- 'xs = append(xs, y)' on such a slice. -/
theorem msl_append {w0 W : World} {base : Nat} (hgd : o.guard = none) (s x : Operand) (t e : TypeId) (ho : o.op = .call { callee := .builtin .append, args := #[s, x], argTypes := #[t, t] })
    (ht : P.underlying t = some (.slice e)) (hinfo : (P.info? e).map (fun i => (i.zero, i.size, i.bytes)) = some (some (.int .u8 0), 1, 1))
    (v : Value) (xs : List Int) (hs : a.eval s = v) (HM : MSl W base v xs) (b : Nat) (c : Nat) (y : Int) (hx : a.eval x = .slice (some ⟨b, 0, none⟩) 1 c) (hy : W.cell? ⟨b, 0, none⟩ = some (.int .u8 y))
    (HB : Below w0.heap.size w0 W) (hbase : w0.heap.size ≤ base) (hl : xs.length + 1 ≤ 140737488355328)
    (h : ∀ v1 w1, MSl w1 base v1 (xs ++ [y]) → Below w0.heap.size w0 w1 → wpList P ops Q rest (a.put o.dst v1) w1) : wpList P ops Q (o :: rest) a W := by
  obtain ⟨i0, hi, hzz⟩ := Option.map_eq_some_iff.1 hinfo
  simp only [Prod.mk.injEq] at hzz
  obtain ⟨hz0, hz1, hz2⟩ := hzz
  obtain ⟨g, cap, rfl, h1, h2, h3, h4, h5⟩ := HM
  refine wpList_append_arg W hgd s x t ho e i0 _ 1 1 ht hi hz0 hz1 hz2 rfl (by decide) g 0 xs.length cap (nums .u8 xs) hs (by simp [nums]) (fun j u hu => ?_) ⟨b, 0, none⟩ 1 c [.int .u8 y] hx rfl (fun j u hu => ?_) (by simp [Value.oneCell']) (fun hr j hj => ?_) (by unfold maxLen; omega) (by omega) (fun hr => ?_) (fun hr v1 w1 hown hg => ?_)
  · have hj : j < xs.length := by have := (List.getElem?_eq_some_iff.1 hu).1; simpa [nums] using this
    have := (h4 j hj).1
    rw [Nat.zero_add, this]
    simp [nums, List.getElem?_eq_getElem hj] at hu
    rw [← hu]; simp [List.getD_eq_getElem?_getD, List.getElem?_eq_getElem hj]
  · have hj : j = 0 := by have := (List.getElem?_eq_some_iff.1 hu).1; simp at this; omega
    subst hj
    simp at hu
    rw [Addr.add_lit]
    rw [← hu]; exact hy
  · have hj0 : j = 0 := by simpa using hj
    subst hj0
    have := h5 xs.length (Nat.le_refl _) (by omega)
    simpa using this
  · have hsp := h5 xs.length (Nat.le_refl _) (by omega)
    obtain ⟨u, hu⟩ := Option.isSome_iff_exists.1 hsp.1
    have e1 : W.setCells g (0 + xs.length * 1) [.int .u8 y] = W.setCell ⟨g, xs.length, none⟩ (.int .u8 y) := by simp [World.setCells]
    rw [e1]
    refine h _ _ ⟨g, cap, by simp, h1, by simpa using h2, by simpa using hr, fun j hj => ?_, fun j a1 a2 => ?_⟩ (HB.setCell (Nat.le_trans hbase h1) _)
    · refine ⟨?_, ?_⟩
      · by_cases e : j = xs.length
        · subst e
          rw [World.cell?_setCell_same _ _ _ hu]
          simp [List.getD_eq_getElem?_getD]
        · have hj' : j < xs.length := by simp at hj; omega
          rw [World.cell?_setCell_other _ _ _ _ (by simpa using fun h => e h.symm), (h4 j hj').1]
          simp [List.getD_eq_getElem?_getD, List.getElem?_append_left hj']
      · rw [World.frozen?_setCell]
        by_cases e : j < xs.length
        · exact (h4 j e).2
        · have : j = xs.length := by simp at hj; omega
          subst this
          exact hsp.2
    · have a1' : xs.length + 1 ≤ j := by simpa using a1
      have := h5 j (by omega) a2
      rw [World.frozen?_setCell, World.cell?_setCell_other _ _ _ _ (by first | (simp; done) | (simp; omega))]
      exact this
  · refine h v1 w1 (msl_own (xs := xs ++ [y]) (by simpa [nums] using hown) (Nat.le_trans (Nat.le_of_lt (Nat.lt_of_le_of_lt h1 h2)) (Nat.le_refl _)) (by omega)) ?_
    have hgb := HB.grown (row := none) hg (by exact HB.size) (by simp)
    exact hgb
end
end Go.Proofs.Ytjihlabmddfjhaa.HWords
