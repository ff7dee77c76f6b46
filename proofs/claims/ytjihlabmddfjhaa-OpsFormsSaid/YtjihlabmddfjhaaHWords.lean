/- Words for rows that a conversion from a string has made: what such a row holds, how a store turns it, the conversion as an event; no condition beyond those stated. -/
import Derived.Test.YtjihlabmddfjhaaWWords
import Derived.Test.YtjihlabmddfjhaaWLast
import Derived.Test.YtjihlabmddfjhaaWMore
import Derived.Laws.BytesArg
import Derived.Lib.ConvBytes
set_option linter.unnecessarySimpa false
set_option linter.unusedSimpArgs false
set_option linter.unusedVariables false
namespace Go.Proofs.Ytjihlabmddfjhaa.HWords
open Go.RowKit Go.Proofs.YtjihlabmddfjhaaW.PrintWords Go.Proofs.YtjihlabmddfjhaaW.PrintLast Go.Proofs.YtjihlabmddfjhaaW.PrintMore

/-- Block g holds these bytes from its begin on, none of them frozen. -/
def MRow (w : World) (g : Nat) (xs : List Int) : Prop :=
  ∀ j, j < xs.length → w.cell? ⟨g, j, none⟩ = some (.int .u8 (xs.getD j 0)) ∧ w.frozen? ⟨g, j, none⟩ = false

theorem MRow.set {w : World} {g : Nat} {xs : List Int} (h : MRow w g xs) (k : Nat) (x : Int) :
    MRow (w.setCell ⟨g, k, none⟩ (.int .u8 x)) g (xs.set k x) := by
  intro j hj
  have hj' : j < xs.length := by simpa using hj
  obtain ⟨h1, h2⟩ := h j hj'
  refine ⟨?_, by rw [World.frozen?_setCell]; exact h2⟩
  by_cases e : k = j
  · subst e
    rw [World.cell?_setCell_same _ _ _ h1]
    simp [List.getD_eq_getElem?_getD, hj']
  · rw [World.cell?_setCell_other _ _ _ _ (by simpa using e), h1]
    simp [List.getD_eq_getElem?_getD, e]

theorem MRow.of_below {w w1 : World} {g B : Nat} {xs : List Int} (h : MRow w g xs) (hb : Below B w w1) (hg : g < B) : MRow w1 g xs := by
  intro j hj
  obtain ⟨h1, h2⟩ := h j hj
  exact ⟨by rw [hb.cell (p := ⟨g, j, none⟩) hg]; exact h1, by rw [hb.frozen (p := ⟨g, j, none⟩) hg]; exact h2⟩

theorem mrow_conv (W : World) (e : TypeId) (s : ByteArray) : MRow (Lib.bytesWorld W e s) W.heap.size (bytesOf s) := by
  intro j hj
  rw [bytesOf_length] at hj
  refine ⟨?_, ?_⟩
  · rw [Lib.bytesWorld_cell W e s j hj]
    have h' : j < s.data.toList.length := by rw [data_length]; exact hj
    simp [bytesOf, List.getD_eq_getElem?_getD, List.getElem?_eq_getElem h']
  · simp [World.frozen?, Lib.bytesWorld_at_new, Lib.bytesCells]
    intro h
    have : s.data.size = s.size := rfl
    omega

section
variable {P : Program} {ops : Array Oper} {rest : List Oper} {o : Oper} {a : Act} {Q : Exit → Act → World → Prop}
/-- '[]byte(s)': a new block with s's bytes. -/
theorem conv_event {w0 W : World} (hgd : o.guard = none) (src dst e : TypeId) (x : Operand) (ho : o.op = .convert src dst x) {u : TypeDesc}
    (hs : P.underlying src = some u) (hd : P.underlying dst = some (.slice e)) (he : P.underlying e = some (.int .u8)) (s : ByteArray) (hx : a.eval x = .string s)
    (HB : Below w0.heap.size w0 W)
    (h : ∀ g c w1, w0.heap.size ≤ g → s.size ≤ c → MRow w1 g (bytesOf s) → Below w0.heap.size w0 w1 → g < w1.heap.size → wpList P ops Q rest (a.put o.dst (.slice (some ⟨g, 0, none⟩) s.size c)) w1) :
    wpList P ops Q (o :: rest) a W := by
  refine Kd.event_run hgd ?_ (h W.heap.size (grownCap W s.size 0 e) (Lib.bytesWorld W e s) HB.size (grownCap_ge _ _ _ _) (mrow_conv W e s) (bytes_below HB HB.size e s) (by rw [Lib.bytesWorld_size]; omega))
  simp [execOp, ho, hx, Lib.run_convert_string_bytes W src dst e s hs hd he]
end
end Go.Proofs.Ytjihlabmddfjhaa.HWords
