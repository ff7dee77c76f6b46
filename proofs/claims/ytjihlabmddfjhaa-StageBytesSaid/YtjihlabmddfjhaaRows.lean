/-
  No cell of these rows narrows 'for every input' (looked for: loops, veiled, ifaces, maps, wideKeys, modest, calm, conditions, laid).
  DERIVED. THE GIVEN ROWS OF THIS SEAT. 8 by the template 'for every input the law returns true; each argument reads behind the call as it read before'; 0 by the template 'total and deterministic' (their statements: YtjihlabmddfjhaaTotals.lean).
  GIVEN WITH THE SEED: the statements are not yours to turn. If you find one false, say at which input.
  Laid BY PROGRAM, IN A SANDBOX (cutbox-rows.mjs): the forced cells as the released guide's own fill.sh prints them over the translation 49db40d311b51147… (all of the seat's roots in one cut). By AI agents, Wed Nov 11 2026. No macro, syntax, notation, axiom, sorry.
-/
import Derived.Test.YtjihlabmddfjhaaChecked
import GoSem.Claim
import GoSem.ClaimJoined
import GoSem.ClaimMapViews
import Derived.JoinedTies
import Derived.KernelRfl
namespace Go.Proofs.Ytjihlabmddfjhaa
/- THE CELL 'sum', in the pinned program and in every row, IS THE sha256 OF THE DUMP (.gsa) THAT YtjihlabmddfjhaaProg.lean LOADS. Nothing in Lean hashes anything: it is a label: what it is worth is what the hold of that sum in a sandbox is worth. -/
noncomputable def Try.pinned : Pinned := { name := "ytjihlabmddfjhaa", sum := "49db40d311b51147f87e972bcfa0cd52e6b8675b4f735831c52b3ad7a40d5d7d", checked := Try.checked }
namespace Rows
def none {H : Type} : Left H := { results := [], args := [] }

/-- 'skifflaw9.StageBytes': WHATEVER THE INPUT: true; the input reads as it did. -/
def stageBytesSpec : ChangeSpec := { name := "stageBytes", fn := fun _ => fun
  | [d1, d2, d3, d4, d5] => { results := [.lit (.bool true)], args := [d1, d2, d3, d4, d5] }
  | _ => none }
def stageBytesRow : OpenClaim := { program := "ytjihlabmddfjhaa", sum := "49db40d311b51147f87e972bcfa0cd52e6b8675b4f735831c52b3ad7a40d5d7d", func := "skiff/skifflaw9.StageBytes", spec := "stageBytes", apart := false }
def StageBytesSaid : Prop := stageBytesRow.holds Try.pinned (OpenSpec.ofChange stageBytesSpec)

/-- ITS FALSE NEIGHBOUR: 'it returns false'. Refute it at one input. -/
def stageBytesWrong : ChangeSpec := { name := "stageBytes", fn := fun _ => fun
  | [d1, d2, d3, d4, d5] => { results := [.lit (.bool false)], args := [d1, d2, d3, d4, d5] }
  | _ => none }
def StageBytesWrongFalsely : Prop := stageBytesRow.holds Try.pinned (OpenSpec.ofChange stageBytesWrong)

/-- 'skifflaw3.Opses': WHATEVER THE INPUT: true; the input reads as it did. -/
def opsesSpec : ChangeSpec := { name := "opses", fn := fun _ => fun
  | [d1, d2, d3, d4, d5] => { results := [.lit (.bool true)], args := [d1, d2, d3, d4, d5] }
  | _ => none }
def opsesRow : OpenClaim := { program := "ytjihlabmddfjhaa", sum := "49db40d311b51147f87e972bcfa0cd52e6b8675b4f735831c52b3ad7a40d5d7d", func := "skiff/skifflaw3.Opses", spec := "opses", inPlace := ["internal/abi.NoEscape", "internal/bytealg.MakeNoZero"], apart := false }
def OpsesSaid : Prop := opsesRow.holds Try.pinned (OpenSpec.ofChange opsesSpec)

/-- ITS FALSE NEIGHBOUR: 'it returns false'. Refute it at one input. -/
def opsesWrong : ChangeSpec := { name := "opses", fn := fun _ => fun
  | [d1, d2, d3, d4, d5] => { results := [.lit (.bool false)], args := [d1, d2, d3, d4, d5] }
  | _ => none }
def OpsesWrongFalsely : Prop := opsesRow.holds Try.pinned (OpenSpec.ofChange opsesWrong)

/-- 'skifflaw3.OpsWrite': WHATEVER THE INPUT: true; the input reads as it did. -/
def opsWriteSpec : ChangeSpec := { name := "opsWrite", fn := fun _ => fun
  | [d1, d2] => { results := [.lit (.bool true)], args := [d1, d2] }
  | _ => none }
def opsWriteRow : OpenClaim := { program := "ytjihlabmddfjhaa", sum := "49db40d311b51147f87e972bcfa0cd52e6b8675b4f735831c52b3ad7a40d5d7d", func := "skiff/skifflaw3.OpsWrite", spec := "opsWrite", inPlace := ["internal/abi.NoEscape", "internal/bytealg.MakeNoZero"], apart := false }
def OpsWriteSaid : Prop := opsWriteRow.holds Try.pinned (OpenSpec.ofChange opsWriteSpec)

/-- ITS FALSE NEIGHBOUR: 'it returns false'. Refute it at one input. -/
def opsWriteWrong : ChangeSpec := { name := "opsWrite", fn := fun _ => fun
  | [d1, d2] => { results := [.lit (.bool false)], args := [d1, d2] }
  | _ => none }
def OpsWriteWrongFalsely : Prop := opsWriteRow.holds Try.pinned (OpenSpec.ofChange opsWriteWrong)

/-- 'skifflaw3.OpsForms': WHATEVER THE INPUT: true; the input reads as it did. -/
def opsFormsSpec : ChangeSpec := { name := "opsForms", fn := fun _ => fun
  | [d1, d2] => { results := [.lit (.bool true)], args := [d1, d2] }
  | _ => none }
def opsFormsRow : OpenClaim := { program := "ytjihlabmddfjhaa", sum := "49db40d311b51147f87e972bcfa0cd52e6b8675b4f735831c52b3ad7a40d5d7d", func := "skiff/skifflaw3.OpsForms", spec := "opsForms", inPlace := ["internal/abi.NoEscape", "internal/bytealg.MakeNoZero"], apart := false }
def OpsFormsSaid : Prop := opsFormsRow.holds Try.pinned (OpenSpec.ofChange opsFormsSpec)

/-- ITS FALSE NEIGHBOUR: 'it returns false'. Refute it at one input. -/
def opsFormsWrong : ChangeSpec := { name := "opsForms", fn := fun _ => fun
  | [d1, d2] => { results := [.lit (.bool false)], args := [d1, d2] }
  | _ => none }
def OpsFormsWrongFalsely : Prop := opsFormsRow.holds Try.pinned (OpenSpec.ofChange opsFormsWrong)

/-- 'skifflaw3.OpsCuts': WHATEVER THE INPUT: true; the input reads as it did. -/
def opsCutsSpec : ChangeSpec := { name := "opsCuts", fn := fun _ => fun
  | [d1, d2, d3] => { results := [.lit (.bool true)], args := [d1, d2, d3] }
  | _ => none }
def opsCutsRow : OpenClaim := { program := "ytjihlabmddfjhaa", sum := "49db40d311b51147f87e972bcfa0cd52e6b8675b4f735831c52b3ad7a40d5d7d", func := "skiff/skifflaw3.OpsCuts", spec := "opsCuts", inPlace := ["internal/abi.NoEscape", "internal/bytealg.MakeNoZero"], apart := false }
def OpsCutsSaid : Prop := opsCutsRow.holds Try.pinned (OpenSpec.ofChange opsCutsSpec)

/-- ITS FALSE NEIGHBOUR: 'it returns false'. Refute it at one input. -/
def opsCutsWrong : ChangeSpec := { name := "opsCuts", fn := fun _ => fun
  | [d1, d2, d3] => { results := [.lit (.bool false)], args := [d1, d2, d3] }
  | _ => none }
def OpsCutsWrongFalsely : Prop := opsCutsRow.holds Try.pinned (OpenSpec.ofChange opsCutsWrong)

/-- 'skifflaw3.OpsMany': WHATEVER THE INPUT: true; the input reads as it did. -/
def opsManySpec : ChangeSpec := { name := "opsMany", fn := fun _ => fun
  | [d1, d2] => { results := [.lit (.bool true)], args := [d1, d2] }
  | _ => none }
def opsManyRow : OpenClaim := { program := "ytjihlabmddfjhaa", sum := "49db40d311b51147f87e972bcfa0cd52e6b8675b4f735831c52b3ad7a40d5d7d", func := "skiff/skifflaw3.OpsMany", spec := "opsMany", inPlace := ["internal/abi.NoEscape", "internal/bytealg.MakeNoZero"], apart := false }
def OpsManySaid : Prop := opsManyRow.holds Try.pinned (OpenSpec.ofChange opsManySpec)

/-- ITS FALSE NEIGHBOUR: 'it returns false'. Refute it at one input. -/
def opsManyWrong : ChangeSpec := { name := "opsMany", fn := fun _ => fun
  | [d1, d2] => { results := [.lit (.bool false)], args := [d1, d2] }
  | _ => none }
def OpsManyWrongFalsely : Prop := opsManyRow.holds Try.pinned (OpenSpec.ofChange opsManyWrong)

/-- 'skifflaw3.OpsApart': WHATEVER THE INPUT: true; the input reads as it did. -/
def opsApartSpec : ChangeSpec := { name := "opsApart", fn := fun _ => fun
  | [d1, d2, d3] => { results := [.lit (.bool true)], args := [d1, d2, d3] }
  | _ => none }
def opsApartRow : OpenClaim := { program := "ytjihlabmddfjhaa", sum := "49db40d311b51147f87e972bcfa0cd52e6b8675b4f735831c52b3ad7a40d5d7d", func := "skiff/skifflaw3.OpsApart", spec := "opsApart", inPlace := ["internal/abi.NoEscape", "internal/bytealg.MakeNoZero"], apart := false }
def OpsApartSaid : Prop := opsApartRow.holds Try.pinned (OpenSpec.ofChange opsApartSpec)

/-- ITS FALSE NEIGHBOUR: 'it returns false'. Refute it at one input. -/
def opsApartWrong : ChangeSpec := { name := "opsApart", fn := fun _ => fun
  | [d1, d2, d3] => { results := [.lit (.bool false)], args := [d1, d2, d3] }
  | _ => none }
def OpsApartWrongFalsely : Prop := opsApartRow.holds Try.pinned (OpenSpec.ofChange opsApartWrong)

/-- 'skifflaw5.JournalRow': WHATEVER THE INPUT: true; the input reads as it did. -/
def journalRowSpec : ChangeSpec := { name := "journalRow", fn := fun _ => fun
  | [d1, d2] => { results := [.lit (.bool true)], args := [d1, d2] }
  | _ => none }
def journalRowRow : OpenClaim := { program := "ytjihlabmddfjhaa", sum := "49db40d311b51147f87e972bcfa0cd52e6b8675b4f735831c52b3ad7a40d5d7d", func := "skiff/skifflaw5.JournalRow", spec := "journalRow", inPlace := ["internal/abi.NoEscape", "internal/bytealg.MakeNoZero"], apart := false }
def JournalRowSaid : Prop := journalRowRow.holds Try.pinned (OpenSpec.ofChange journalRowSpec)

/-- ITS FALSE NEIGHBOUR: 'it returns false'. Refute it at one input. -/
def journalRowWrong : ChangeSpec := { name := "journalRow", fn := fun _ => fun
  | [d1, d2] => { results := [.lit (.bool false)], args := [d1, d2] }
  | _ => none }
def JournalRowWrongFalsely : Prop := journalRowRow.holds Try.pinned (OpenSpec.ofChange journalRowWrong)

/- THE SECOND FORM. 'bulk': how many values and letters a reading holds, each counted each time it is reached (what is shared counts as often as it is met; a slice's spare places count too). A statement '..UptoSaid' is the law's where the arguments, and the package variables that the reading takes, are together of bulk at most 1048576: NARROWER than '..Said'. Prove '..Said' where nothing that the law and all that it calls make is longer than what came in: it says more and counts as full. Else prove '..UptoSaid'. A law counts once. -/
mutual
def uptoBulk {H : Type} : DataW H → Nat
  | .lit (.string bytes) => bytes.length + 1
  | .lit _ => 1
  | .nil => 1
  | .ptr d => uptoBulk d + 1
  | .slice elems spare => uptoBulkAll elems + uptoBulkAll spare + 1
  | .agg parts => uptoBulkAll parts + 1
  | .iface _ d => uptoBulk d + 1
  | .map entries => uptoBulkEntries entries + 1
  | .held _ => 1
def uptoBulkAll {H : Type} : List (DataW H) → Nat
  | [] => 0
  | d :: r => uptoBulk d + uptoBulkAll r
def uptoBulkEntries {H : Type} : List (Lit × DataW H) → Nat
  | [] => 0
  | x :: r => uptoBulkEntry x + uptoBulkEntries r
def uptoBulkEntry {H : Type} : Lit × DataW H → Nat
  | (.string bytes, d) => bytes.length + uptoBulk d + 1
  | (_, d) => uptoBulk d + 1
 end
def uptoSmall : (H : Type) → List (DataW H) → Bool := fun _ ds => decide (uptoBulkAll ds ≤ 1048576)
def OpenSpec.upto (s : _root_.Go.ChangeSpec) : _root_.Go.OpenSpec := { _root_.Go.OpenSpec.ofChange s with cond := some uptoSmall }

/-- 'skifflaw9.StageBytes', WHERE WHAT IT READS IS OF BULK AT MOST 1048576: true; the input reads as it did. -/
def stageBytesUptoRow : OpenClaim := { program := "ytjihlabmddfjhaa", sum := "49db40d311b51147f87e972bcfa0cd52e6b8675b4f735831c52b3ad7a40d5d7d", func := "skiff/skifflaw9.StageBytes", spec := "stageBytes", apart := false, narrowed := true }
def StageBytesUptoSaid : Prop := stageBytesUptoRow.holds Try.pinned (OpenSpec.upto stageBytesSpec)

/-- 'skifflaw3.Opses', WHERE WHAT IT READS IS OF BULK AT MOST 1048576: true; the input reads as it did. -/
def opsesUptoRow : OpenClaim := { program := "ytjihlabmddfjhaa", sum := "49db40d311b51147f87e972bcfa0cd52e6b8675b4f735831c52b3ad7a40d5d7d", func := "skiff/skifflaw3.Opses", spec := "opses", inPlace := ["internal/abi.NoEscape", "internal/bytealg.MakeNoZero"], apart := false, narrowed := true }
def OpsesUptoSaid : Prop := opsesUptoRow.holds Try.pinned (OpenSpec.upto opsesSpec)

/-- 'skifflaw3.OpsWrite', WHERE WHAT IT READS IS OF BULK AT MOST 1048576: true; the input reads as it did. -/
def opsWriteUptoRow : OpenClaim := { program := "ytjihlabmddfjhaa", sum := "49db40d311b51147f87e972bcfa0cd52e6b8675b4f735831c52b3ad7a40d5d7d", func := "skiff/skifflaw3.OpsWrite", spec := "opsWrite", inPlace := ["internal/abi.NoEscape", "internal/bytealg.MakeNoZero"], apart := false, narrowed := true }
def OpsWriteUptoSaid : Prop := opsWriteUptoRow.holds Try.pinned (OpenSpec.upto opsWriteSpec)

/-- 'skifflaw3.OpsForms', WHERE WHAT IT READS IS OF BULK AT MOST 1048576: true; the input reads as it did. -/
def opsFormsUptoRow : OpenClaim := { program := "ytjihlabmddfjhaa", sum := "49db40d311b51147f87e972bcfa0cd52e6b8675b4f735831c52b3ad7a40d5d7d", func := "skiff/skifflaw3.OpsForms", spec := "opsForms", inPlace := ["internal/abi.NoEscape", "internal/bytealg.MakeNoZero"], apart := false, narrowed := true }
def OpsFormsUptoSaid : Prop := opsFormsUptoRow.holds Try.pinned (OpenSpec.upto opsFormsSpec)

/-- 'skifflaw3.OpsCuts', WHERE WHAT IT READS IS OF BULK AT MOST 1048576: true; the input reads as it did. -/
def opsCutsUptoRow : OpenClaim := { program := "ytjihlabmddfjhaa", sum := "49db40d311b51147f87e972bcfa0cd52e6b8675b4f735831c52b3ad7a40d5d7d", func := "skiff/skifflaw3.OpsCuts", spec := "opsCuts", inPlace := ["internal/abi.NoEscape", "internal/bytealg.MakeNoZero"], apart := false, narrowed := true }
def OpsCutsUptoSaid : Prop := opsCutsUptoRow.holds Try.pinned (OpenSpec.upto opsCutsSpec)

/-- 'skifflaw3.OpsMany', WHERE WHAT IT READS IS OF BULK AT MOST 1048576: true; the input reads as it did. -/
def opsManyUptoRow : OpenClaim := { program := "ytjihlabmddfjhaa", sum := "49db40d311b51147f87e972bcfa0cd52e6b8675b4f735831c52b3ad7a40d5d7d", func := "skiff/skifflaw3.OpsMany", spec := "opsMany", inPlace := ["internal/abi.NoEscape", "internal/bytealg.MakeNoZero"], apart := false, narrowed := true }
def OpsManyUptoSaid : Prop := opsManyUptoRow.holds Try.pinned (OpenSpec.upto opsManySpec)

/-- 'skifflaw3.OpsApart', WHERE WHAT IT READS IS OF BULK AT MOST 1048576: true; the input reads as it did. -/
def opsApartUptoRow : OpenClaim := { program := "ytjihlabmddfjhaa", sum := "49db40d311b51147f87e972bcfa0cd52e6b8675b4f735831c52b3ad7a40d5d7d", func := "skiff/skifflaw3.OpsApart", spec := "opsApart", inPlace := ["internal/abi.NoEscape", "internal/bytealg.MakeNoZero"], apart := false, narrowed := true }
def OpsApartUptoSaid : Prop := opsApartUptoRow.holds Try.pinned (OpenSpec.upto opsApartSpec)

/-- 'skifflaw5.JournalRow', WHERE WHAT IT READS IS OF BULK AT MOST 1048576: true; the input reads as it did. -/
def journalRowUptoRow : OpenClaim := { program := "ytjihlabmddfjhaa", sum := "49db40d311b51147f87e972bcfa0cd52e6b8675b4f735831c52b3ad7a40d5d7d", func := "skiff/skifflaw5.JournalRow", spec := "journalRow", inPlace := ["internal/abi.NoEscape", "internal/bytealg.MakeNoZero"], apart := false, narrowed := true }
def JournalRowUptoSaid : Prop := journalRowUptoRow.holds Try.pinned (OpenSpec.upto journalRowSpec)

end Rows
end Go.Proofs.Ytjihlabmddfjhaa
