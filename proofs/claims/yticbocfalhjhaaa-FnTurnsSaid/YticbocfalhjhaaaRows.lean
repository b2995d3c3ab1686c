/-
  No cell of these rows narrows 'for every input' (looked for: loops, veiled, ifaces, maps, wideKeys, modest, calm, conditions, laid).
  DERIVED. THE GIVEN ROWS OF THIS SEAT. 12 by the template 'for every input the law returns true; each argument reads behind the call as it read before'; 0 by the template 'total and deterministic' (their statements: YticbocfalhjhaaaTotals.lean).
  GIVEN WITH THE SEED: the statements are not yours to turn. If you find one false, say at which input.
  Laid BY PROGRAM, IN A SANDBOX (cutbox-rows.mjs): the forced cells as the released guide's own fill.sh prints them over the translation 3653954e76c8a0e0… (all of the seat's roots in one cut). By AI agents, Wed Nov 11 2026. No macro, syntax, notation, axiom, sorry.
-/
import Derived.Test.YticbocfalhjhaaaChecked
import GoSem.Claim
import GoSem.ClaimJoined
import GoSem.ClaimMapViews
import Derived.JoinedTies
import Derived.KernelRfl
namespace Go.Proofs.Yticbocfalhjhaaa
/- THE CELL 'sum', in the pinned program and in every row, IS THE sha256 OF THE DUMP (.gsa) THAT YticbocfalhjhaaaProg.lean LOADS. Nothing in Lean hashes anything: it is a label: what it is worth is what the hold of that sum in a sandbox is worth. -/
noncomputable def Try.pinned : Pinned := { name := "yticbocfalhjhaaa", sum := "3653954e76c8a0e025275a97b56075c05033c11c6db6f8298101538b83c8f547", checked := Try.checked }
namespace Rows
def none {H : Type} : Left H := { results := [], args := [] }

/-- 'laws.FnExactGcBound': WHATEVER THE INPUT: true; the input reads as it did. -/
def fnExactGcBoundSpec : ChangeSpec := { name := "fnExactGcBound", fn := fun _ => fun
  | [d] => { results := [.lit (.bool true)], args := [d] }
  | _ => none }
def fnExactGcBoundRow : OpenClaim := { program := "yticbocfalhjhaaa", sum := "3653954e76c8a0e025275a97b56075c05033c11c6db6f8298101538b83c8f547", func := "loop.example/g01287/laws.FnExactGcBound", spec := "fnExactGcBound", apart := false }
def FnExactGcBoundSaid : Prop := fnExactGcBoundRow.holds Try.pinned (OpenSpec.ofChange fnExactGcBoundSpec)

/-- ITS FALSE NEIGHBOUR: 'it returns false'. Refute it at one input. -/
def fnExactGcBoundWrong : ChangeSpec := { name := "fnExactGcBound", fn := fun _ => fun
  | [d] => { results := [.lit (.bool false)], args := [d] }
  | _ => none }
def FnExactGcBoundWrongFalsely : Prop := fnExactGcBoundRow.holds Try.pinned (OpenSpec.ofChange fnExactGcBoundWrong)

/-- 'laws.FnExactHandleGen': WHATEVER THE INPUT: true; the input reads as it did. -/
def fnExactHandleGenSpec : ChangeSpec := { name := "fnExactHandleGen", fn := fun _ => fun
  | [d] => { results := [.lit (.bool true)], args := [d] }
  | _ => none }
def fnExactHandleGenRow : OpenClaim := { program := "yticbocfalhjhaaa", sum := "3653954e76c8a0e025275a97b56075c05033c11c6db6f8298101538b83c8f547", func := "loop.example/g01287/laws.FnExactHandleGen", spec := "fnExactHandleGen", apart := false }
def FnExactHandleGenSaid : Prop := fnExactHandleGenRow.holds Try.pinned (OpenSpec.ofChange fnExactHandleGenSpec)

/-- ITS FALSE NEIGHBOUR: 'it returns false'. Refute it at one input. -/
def fnExactHandleGenWrong : ChangeSpec := { name := "fnExactHandleGen", fn := fun _ => fun
  | [d] => { results := [.lit (.bool false)], args := [d] }
  | _ => none }
def FnExactHandleGenWrongFalsely : Prop := fnExactHandleGenRow.holds Try.pinned (OpenSpec.ofChange fnExactHandleGenWrong)

/-- 'laws.FnExactHandlePart': WHATEVER THE INPUT: true; the input reads as it did. -/
def fnExactHandlePartSpec : ChangeSpec := { name := "fnExactHandlePart", fn := fun _ => fun
  | [d] => { results := [.lit (.bool true)], args := [d] }
  | _ => none }
def fnExactHandlePartRow : OpenClaim := { program := "yticbocfalhjhaaa", sum := "3653954e76c8a0e025275a97b56075c05033c11c6db6f8298101538b83c8f547", func := "loop.example/g01287/laws.FnExactHandlePart", spec := "fnExactHandlePart", apart := false }
def FnExactHandlePartSaid : Prop := fnExactHandlePartRow.holds Try.pinned (OpenSpec.ofChange fnExactHandlePartSpec)

/-- ITS FALSE NEIGHBOUR: 'it returns false'. Refute it at one input. -/
def fnExactHandlePartWrong : ChangeSpec := { name := "fnExactHandlePart", fn := fun _ => fun
  | [d] => { results := [.lit (.bool false)], args := [d] }
  | _ => none }
def FnExactHandlePartWrongFalsely : Prop := fnExactHandlePartRow.holds Try.pinned (OpenSpec.ofChange fnExactHandlePartWrong)

/-- 'laws.FnExactHandleSlot': WHATEVER THE INPUT: true; the input reads as it did. -/
def fnExactHandleSlotSpec : ChangeSpec := { name := "fnExactHandleSlot", fn := fun _ => fun
  | [d] => { results := [.lit (.bool true)], args := [d] }
  | _ => none }
def fnExactHandleSlotRow : OpenClaim := { program := "yticbocfalhjhaaa", sum := "3653954e76c8a0e025275a97b56075c05033c11c6db6f8298101538b83c8f547", func := "loop.example/g01287/laws.FnExactHandleSlot", spec := "fnExactHandleSlot", apart := false }
def FnExactHandleSlotSaid : Prop := fnExactHandleSlotRow.holds Try.pinned (OpenSpec.ofChange fnExactHandleSlotSpec)

/-- ITS FALSE NEIGHBOUR: 'it returns false'. Refute it at one input. -/
def fnExactHandleSlotWrong : ChangeSpec := { name := "fnExactHandleSlot", fn := fun _ => fun
  | [d] => { results := [.lit (.bool false)], args := [d] }
  | _ => none }
def FnExactHandleSlotWrongFalsely : Prop := fnExactHandleSlotRow.holds Try.pinned (OpenSpec.ofChange fnExactHandleSlotWrong)

/-- 'laws.FnExactHandleOf': WHATEVER THE INPUT: true; the input reads as it did. -/
def fnExactHandleOfSpec : ChangeSpec := { name := "fnExactHandleOf", fn := fun _ => fun
  | [d1, d2, d3] => { results := [.lit (.bool true)], args := [d1, d2, d3] }
  | _ => none }
def fnExactHandleOfRow : OpenClaim := { program := "yticbocfalhjhaaa", sum := "3653954e76c8a0e025275a97b56075c05033c11c6db6f8298101538b83c8f547", func := "loop.example/g01287/laws.FnExactHandleOf", spec := "fnExactHandleOf", apart := false }
def FnExactHandleOfSaid : Prop := fnExactHandleOfRow.holds Try.pinned (OpenSpec.ofChange fnExactHandleOfSpec)

/-- ITS FALSE NEIGHBOUR: 'it returns false'. Refute it at one input. -/
def fnExactHandleOfWrong : ChangeSpec := { name := "fnExactHandleOf", fn := fun _ => fun
  | [d1, d2, d3] => { results := [.lit (.bool false)], args := [d1, d2, d3] }
  | _ => none }
def FnExactHandleOfWrongFalsely : Prop := fnExactHandleOfRow.holds Try.pinned (OpenSpec.ofChange fnExactHandleOfWrong)

/-- 'laws.FnExactGcNew': WHATEVER THE INPUT: true; the input reads as it did. -/
def fnExactGcNewSpec : ChangeSpec := { name := "fnExactGcNew", fn := fun _ => fun
  | [] => { results := [.lit (.bool true)], args := [] }
  | _ => none }
def fnExactGcNewRow : OpenClaim := { program := "yticbocfalhjhaaa", sum := "3653954e76c8a0e025275a97b56075c05033c11c6db6f8298101538b83c8f547", func := "loop.example/g01287/laws.FnExactGcNew", spec := "fnExactGcNew", apart := false }
def FnExactGcNewSaid : Prop := fnExactGcNewRow.holds Try.pinned (OpenSpec.ofChange fnExactGcNewSpec)

/-- ITS FALSE NEIGHBOUR: 'it returns false'. Refute it at one input. -/
def fnExactGcNewWrong : ChangeSpec := { name := "fnExactGcNew", fn := fun _ => fun
  | [] => { results := [.lit (.bool false)], args := [] }
  | _ => none }
def FnExactGcNewWrongFalsely : Prop := fnExactGcNewRow.holds Try.pinned (OpenSpec.ofChange fnExactGcNewWrong)

/-- 'laws.FnExactRunNext': WHATEVER THE INPUT: true; the input reads as it did. -/
def fnExactRunNextSpec : ChangeSpec := { name := "fnExactRunNext", fn := fun _ => fun
  | [d1, d2, d3] => { results := [.lit (.bool true)], args := [d1, d2, d3] }
  | _ => none }
def fnExactRunNextRow : OpenClaim := { program := "yticbocfalhjhaaa", sum := "3653954e76c8a0e025275a97b56075c05033c11c6db6f8298101538b83c8f547", func := "loop.example/g01287/laws.FnExactRunNext", spec := "fnExactRunNext", apart := false }
def FnExactRunNextSaid : Prop := fnExactRunNextRow.holds Try.pinned (OpenSpec.ofChange fnExactRunNextSpec)

/-- ITS FALSE NEIGHBOUR: 'it returns false'. Refute it at one input. -/
def fnExactRunNextWrong : ChangeSpec := { name := "fnExactRunNext", fn := fun _ => fun
  | [d1, d2, d3] => { results := [.lit (.bool false)], args := [d1, d2, d3] }
  | _ => none }
def FnExactRunNextWrongFalsely : Prop := fnExactRunNextRow.holds Try.pinned (OpenSpec.ofChange fnExactRunNextWrong)

/-- 'laws.FnHandles': WHATEVER THE INPUT: true; the input reads as it did. -/
def fnHandlesSpec : ChangeSpec := { name := "fnHandles", fn := fun _ => fun
  | [d] => { results := [.lit (.bool true)], args := [d] }
  | _ => none }
def fnHandlesRow : OpenClaim := { program := "yticbocfalhjhaaa", sum := "3653954e76c8a0e025275a97b56075c05033c11c6db6f8298101538b83c8f547", func := "loop.example/g01287/laws.FnHandles", spec := "fnHandles", apart := false }
def FnHandlesSaid : Prop := fnHandlesRow.holds Try.pinned (OpenSpec.ofChange fnHandlesSpec)

/-- ITS FALSE NEIGHBOUR: 'it returns false'. Refute it at one input. -/
def fnHandlesWrong : ChangeSpec := { name := "fnHandles", fn := fun _ => fun
  | [d] => { results := [.lit (.bool false)], args := [d] }
  | _ => none }
def FnHandlesWrongFalsely : Prop := fnHandlesRow.holds Try.pinned (OpenSpec.ofChange fnHandlesWrong)

/-- 'laws.FnExactTurns': WHATEVER THE INPUT: true; the input reads as it did. -/
def fnExactTurnsSpec : ChangeSpec := { name := "fnExactTurns", fn := fun _ => fun
  | [d1, d2, d3] => { results := [.lit (.bool true)], args := [d1, d2, d3] }
  | _ => none }
def fnExactTurnsRow : OpenClaim := { program := "yticbocfalhjhaaa", sum := "3653954e76c8a0e025275a97b56075c05033c11c6db6f8298101538b83c8f547", func := "loop.example/g01287/laws.FnExactTurns", spec := "fnExactTurns", apart := false }
def FnExactTurnsSaid : Prop := fnExactTurnsRow.holds Try.pinned (OpenSpec.ofChange fnExactTurnsSpec)

/-- ITS FALSE NEIGHBOUR: 'it returns false'. Refute it at one input. -/
def fnExactTurnsWrong : ChangeSpec := { name := "fnExactTurns", fn := fun _ => fun
  | [d1, d2, d3] => { results := [.lit (.bool false)], args := [d1, d2, d3] }
  | _ => none }
def FnExactTurnsWrongFalsely : Prop := fnExactTurnsRow.holds Try.pinned (OpenSpec.ofChange fnExactTurnsWrong)

/-- 'laws.FnExactDueBy': WHATEVER THE INPUT: true; the input reads as it did. -/
def fnExactDueBySpec : ChangeSpec := { name := "fnExactDueBy", fn := fun _ => fun
  | [d1, d2] => { results := [.lit (.bool true)], args := [d1, d2] }
  | _ => none }
def fnExactDueByRow : OpenClaim := { program := "yticbocfalhjhaaa", sum := "3653954e76c8a0e025275a97b56075c05033c11c6db6f8298101538b83c8f547", func := "loop.example/g01287/laws.FnExactDueBy", spec := "fnExactDueBy", apart := false }
def FnExactDueBySaid : Prop := fnExactDueByRow.holds Try.pinned (OpenSpec.ofChange fnExactDueBySpec)

/-- ITS FALSE NEIGHBOUR: 'it returns false'. Refute it at one input. -/
def fnExactDueByWrong : ChangeSpec := { name := "fnExactDueBy", fn := fun _ => fun
  | [d1, d2] => { results := [.lit (.bool false)], args := [d1, d2] }
  | _ => none }
def FnExactDueByWrongFalsely : Prop := fnExactDueByRow.holds Try.pinned (OpenSpec.ofChange fnExactDueByWrong)

/-- 'laws.FnExactWheelNew': WHATEVER THE INPUT: true; the input reads as it did. -/
def fnExactWheelNewSpec : ChangeSpec := { name := "fnExactWheelNew", fn := fun _ => fun
  | [] => { results := [.lit (.bool true)], args := [] }
  | _ => none }
def fnExactWheelNewRow : OpenClaim := { program := "yticbocfalhjhaaa", sum := "3653954e76c8a0e025275a97b56075c05033c11c6db6f8298101538b83c8f547", func := "loop.example/g01287/laws.FnExactWheelNew", spec := "fnExactWheelNew", apart := false }
def FnExactWheelNewSaid : Prop := fnExactWheelNewRow.holds Try.pinned (OpenSpec.ofChange fnExactWheelNewSpec)

/-- ITS FALSE NEIGHBOUR: 'it returns false'. Refute it at one input. -/
def fnExactWheelNewWrong : ChangeSpec := { name := "fnExactWheelNew", fn := fun _ => fun
  | [] => { results := [.lit (.bool false)], args := [] }
  | _ => none }
def FnExactWheelNewWrongFalsely : Prop := fnExactWheelNewRow.holds Try.pinned (OpenSpec.ofChange fnExactWheelNewWrong)

/-- 'laws.FnTurns': WHATEVER THE INPUT: true; the input reads as it did. -/
def fnTurnsSpec : ChangeSpec := { name := "fnTurns", fn := fun _ => fun
  | [d] => { results := [.lit (.bool true)], args := [d] }
  | _ => none }
def fnTurnsRow : OpenClaim := { program := "yticbocfalhjhaaa", sum := "3653954e76c8a0e025275a97b56075c05033c11c6db6f8298101538b83c8f547", func := "loop.example/g01287/laws.FnTurns", spec := "fnTurns", apart := false }
def FnTurnsSaid : Prop := fnTurnsRow.holds Try.pinned (OpenSpec.ofChange fnTurnsSpec)

/-- ITS FALSE NEIGHBOUR: 'it returns false'. Refute it at one input. -/
def fnTurnsWrong : ChangeSpec := { name := "fnTurns", fn := fun _ => fun
  | [d] => { results := [.lit (.bool false)], args := [d] }
  | _ => none }
def FnTurnsWrongFalsely : Prop := fnTurnsRow.holds Try.pinned (OpenSpec.ofChange fnTurnsWrong)

/- THE SECOND FORM. 'bulk': how many values and letters a reading holds, each counted each time it is reached (what is shared counts as often as it is met; a slice's spare places count too). A statement '..UptoSaid' is the law's where the arguments, and the package variables that the reading takes, are together of bulk at most 1048576: NARROWER than '..Said'. Prove '..Said' where nothing that the law and all that it calls make is longer than what came in: it says more and counts as full. Else prove '..UptoSaid'. A law counts once. -/
mutual
def uptoBulk {H : Type} : DataW H → Nat
  | .lit (.string bytes) => bytes.length + 1
  | .lit _ => 1
  | .nil => 1
  | .ptr d => uptoBulk d + 1
  | .slice elems spare => uptoBulkAll elems + uptoBulkAll spare + 1
  | .agg parts => uptoBulkAll parts + 1
  | .iface _ d => uptoBulk d + 1
  | .map entries => uptoBulkEntries entries + 1
  | .held _ => 1
def uptoBulkAll {H : Type} : List (DataW H) → Nat
  | [] => 0
  | d :: r => uptoBulk d + uptoBulkAll r
def uptoBulkEntries {H : Type} : List (Lit × DataW H) → Nat
  | [] => 0
  | x :: r => uptoBulkEntry x + uptoBulkEntries r
def uptoBulkEntry {H : Type} : Lit × DataW H → Nat
  | (.string bytes, d) => bytes.length + uptoBulk d + 1
  | (_, d) => uptoBulk d + 1
 end
def uptoSmall : (H : Type) → List (DataW H) → Bool := fun _ ds => decide (uptoBulkAll ds ≤ 1048576)
def OpenSpec.upto (s : _root_.Go.ChangeSpec) : _root_.Go.OpenSpec := { _root_.Go.OpenSpec.ofChange s with cond := some uptoSmall }

/-- 'laws.FnExactGcBound', WHERE WHAT IT READS IS OF BULK AT MOST 1048576: true; the input reads as it did. -/
def fnExactGcBoundUptoRow : OpenClaim := { program := "yticbocfalhjhaaa", sum := "3653954e76c8a0e025275a97b56075c05033c11c6db6f8298101538b83c8f547", func := "loop.example/g01287/laws.FnExactGcBound", spec := "fnExactGcBound", apart := false, narrowed := true }
def FnExactGcBoundUptoSaid : Prop := fnExactGcBoundUptoRow.holds Try.pinned (OpenSpec.upto fnExactGcBoundSpec)

/-- 'laws.FnExactHandleGen', WHERE WHAT IT READS IS OF BULK AT MOST 1048576: true; the input reads as it did. -/
def fnExactHandleGenUptoRow : OpenClaim := { program := "yticbocfalhjhaaa", sum := "3653954e76c8a0e025275a97b56075c05033c11c6db6f8298101538b83c8f547", func := "loop.example/g01287/laws.FnExactHandleGen", spec := "fnExactHandleGen", apart := false, narrowed := true }
def FnExactHandleGenUptoSaid : Prop := fnExactHandleGenUptoRow.holds Try.pinned (OpenSpec.upto fnExactHandleGenSpec)

/-- 'laws.FnExactHandlePart', WHERE WHAT IT READS IS OF BULK AT MOST 1048576: true; the input reads as it did. -/
def fnExactHandlePartUptoRow : OpenClaim := { program := "yticbocfalhjhaaa", sum := "3653954e76c8a0e025275a97b56075c05033c11c6db6f8298101538b83c8f547", func := "loop.example/g01287/laws.FnExactHandlePart", spec := "fnExactHandlePart", apart := false, narrowed := true }
def FnExactHandlePartUptoSaid : Prop := fnExactHandlePartUptoRow.holds Try.pinned (OpenSpec.upto fnExactHandlePartSpec)

/-- 'laws.FnExactHandleSlot', WHERE WHAT IT READS IS OF BULK AT MOST 1048576: true; the input reads as it did. -/
def fnExactHandleSlotUptoRow : OpenClaim := { program := "yticbocfalhjhaaa", sum := "3653954e76c8a0e025275a97b56075c05033c11c6db6f8298101538b83c8f547", func := "loop.example/g01287/laws.FnExactHandleSlot", spec := "fnExactHandleSlot", apart := false, narrowed := true }
def FnExactHandleSlotUptoSaid : Prop := fnExactHandleSlotUptoRow.holds Try.pinned (OpenSpec.upto fnExactHandleSlotSpec)

/-- 'laws.FnExactHandleOf', WHERE WHAT IT READS IS OF BULK AT MOST 1048576: true; the input reads as it did. -/
def fnExactHandleOfUptoRow : OpenClaim := { program := "yticbocfalhjhaaa", sum := "3653954e76c8a0e025275a97b56075c05033c11c6db6f8298101538b83c8f547", func := "loop.example/g01287/laws.FnExactHandleOf", spec := "fnExactHandleOf", apart := false, narrowed := true }
def FnExactHandleOfUptoSaid : Prop := fnExactHandleOfUptoRow.holds Try.pinned (OpenSpec.upto fnExactHandleOfSpec)

/-- 'laws.FnExactGcNew', WHERE WHAT IT READS IS OF BULK AT MOST 1048576: true; the input reads as it did. -/
def fnExactGcNewUptoRow : OpenClaim := { program := "yticbocfalhjhaaa", sum := "3653954e76c8a0e025275a97b56075c05033c11c6db6f8298101538b83c8f547", func := "loop.example/g01287/laws.FnExactGcNew", spec := "fnExactGcNew", apart := false, narrowed := true }
def FnExactGcNewUptoSaid : Prop := fnExactGcNewUptoRow.holds Try.pinned (OpenSpec.upto fnExactGcNewSpec)

/-- 'laws.FnExactRunNext', WHERE WHAT IT READS IS OF BULK AT MOST 1048576: true; the input reads as it did. -/
def fnExactRunNextUptoRow : OpenClaim := { program := "yticbocfalhjhaaa", sum := "3653954e76c8a0e025275a97b56075c05033c11c6db6f8298101538b83c8f547", func := "loop.example/g01287/laws.FnExactRunNext", spec := "fnExactRunNext", apart := false, narrowed := true }
def FnExactRunNextUptoSaid : Prop := fnExactRunNextUptoRow.holds Try.pinned (OpenSpec.upto fnExactRunNextSpec)

/-- 'laws.FnHandles', WHERE WHAT IT READS IS OF BULK AT MOST 1048576: true; the input reads as it did. -/
def fnHandlesUptoRow : OpenClaim := { program := "yticbocfalhjhaaa", sum := "3653954e76c8a0e025275a97b56075c05033c11c6db6f8298101538b83c8f547", func := "loop.example/g01287/laws.FnHandles", spec := "fnHandles", apart := false, narrowed := true }
def FnHandlesUptoSaid : Prop := fnHandlesUptoRow.holds Try.pinned (OpenSpec.upto fnHandlesSpec)

/-- 'laws.FnExactTurns', WHERE WHAT IT READS IS OF BULK AT MOST 1048576: true; the input reads as it did. -/
def fnExactTurnsUptoRow : OpenClaim := { program := "yticbocfalhjhaaa", sum := "3653954e76c8a0e025275a97b56075c05033c11c6db6f8298101538b83c8f547", func := "loop.example/g01287/laws.FnExactTurns", spec := "fnExactTurns", apart := false, narrowed := true }
def FnExactTurnsUptoSaid : Prop := fnExactTurnsUptoRow.holds Try.pinned (OpenSpec.upto fnExactTurnsSpec)

/-- 'laws.FnExactDueBy', WHERE WHAT IT READS IS OF BULK AT MOST 1048576: true; the input reads as it did. -/
def fnExactDueByUptoRow : OpenClaim := { program := "yticbocfalhjhaaa", sum := "3653954e76c8a0e025275a97b56075c05033c11c6db6f8298101538b83c8f547", func := "loop.example/g01287/laws.FnExactDueBy", spec := "fnExactDueBy", apart := false, narrowed := true }
def FnExactDueByUptoSaid : Prop := fnExactDueByUptoRow.holds Try.pinned (OpenSpec.upto fnExactDueBySpec)

/-- 'laws.FnExactWheelNew', WHERE WHAT IT READS IS OF BULK AT MOST 1048576: true; the input reads as it did. -/
def fnExactWheelNewUptoRow : OpenClaim := { program := "yticbocfalhjhaaa", sum := "3653954e76c8a0e025275a97b56075c05033c11c6db6f8298101538b83c8f547", func := "loop.example/g01287/laws.FnExactWheelNew", spec := "fnExactWheelNew", apart := false, narrowed := true }
def FnExactWheelNewUptoSaid : Prop := fnExactWheelNewUptoRow.holds Try.pinned (OpenSpec.upto fnExactWheelNewSpec)

/-- 'laws.FnTurns', WHERE WHAT IT READS IS OF BULK AT MOST 1048576: true; the input reads as it did. -/
def fnTurnsUptoRow : OpenClaim := { program := "yticbocfalhjhaaa", sum := "3653954e76c8a0e025275a97b56075c05033c11c6db6f8298101538b83c8f547", func := "loop.example/g01287/laws.FnTurns", spec := "fnTurns", apart := false, narrowed := true }
def FnTurnsUptoSaid : Prop := fnTurnsUptoRow.holds Try.pinned (OpenSpec.upto fnTurnsSpec)

end Rows
end Go.Proofs.Yticbocfalhjhaaa
