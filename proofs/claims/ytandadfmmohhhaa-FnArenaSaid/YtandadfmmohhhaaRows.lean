/-
  No cell of these rows narrows 'for every input' (looked for: loops, veiled, ifaces, maps, wideKeys, modest, calm, conditions, laid).
  DERIVED. THE GIVEN ROWS OF THIS SEAT. 11 by the template 'for every input the law returns true; each argument reads behind the call as it read before'; 0 by the template 'total and deterministic' (their statements: YtandadfmmohhhaaTotals.lean).
  GIVEN WITH THE SEED: the statements are not yours to turn. If you find one false, say at which input.
  Laid BY PROGRAM, IN A SANDBOX (cutbox-rows.mjs): the forced cells as the released guide's own fill.sh prints them over the translation 1e6a0ce1bd0afbf1… (all of the seat's roots in one cut). By AI agents, Wed Nov 11 2026. No macro, syntax, notation, axiom, sorry.
-/
import Derived.Test.YtandadfmmohhhaaChecked
import GoSem.Claim
import GoSem.ClaimJoined
import GoSem.ClaimMapViews
import Derived.JoinedTies
import Derived.KernelRfl
namespace Go.Proofs.Ytandadfmmohhhaa
/- THE CELL 'sum', in the pinned program and in every row, IS THE sha256 OF THE DUMP (.gsa) THAT YtandadfmmohhhaaProg.lean LOADS. Nothing in Lean hashes anything: it is a label: what it is worth is what the hold of that sum in a sandbox is worth. -/
noncomputable def Try.pinned : Pinned := { name := "ytandadfmmohhhaa", sum := "1e6a0ce1bd0afbf16ea321c788d1baa2083b77f7f3e931918889ee949dc2e580", checked := Try.checked }
namespace Rows
def none {H : Type} : Left H := { results := [], args := [] }

/-- 'laws.FnExactObjOk': WHATEVER THE INPUT: true; the input reads as it did. -/
def fnExactObjOkSpec : ChangeSpec := { name := "fnExactObjOk", fn := fun _ => fun
  | [d] => { results := [.lit (.bool true)], args := [d] }
  | _ => none }
def fnExactObjOkRow : OpenClaim := { program := "ytandadfmmohhhaa", sum := "1e6a0ce1bd0afbf16ea321c788d1baa2083b77f7f3e931918889ee949dc2e580", func := "loop.example/g01287/laws.FnExactObjOk", spec := "fnExactObjOk", apart := false }
def FnExactObjOkSaid : Prop := fnExactObjOkRow.holds Try.pinned (OpenSpec.ofChange fnExactObjOkSpec)

/-- ITS FALSE NEIGHBOUR: 'it returns false'. Refute it at one input. -/
def fnExactObjOkWrong : ChangeSpec := { name := "fnExactObjOk", fn := fun _ => fun
  | [d] => { results := [.lit (.bool false)], args := [d] }
  | _ => none }
def FnExactObjOkWrongFalsely : Prop := fnExactObjOkRow.holds Try.pinned (OpenSpec.ofChange fnExactObjOkWrong)

/-- 'laws.FnExactArenaOk': WHATEVER THE INPUT: true; the input reads as it did. -/
def fnExactArenaOkSpec : ChangeSpec := { name := "fnExactArenaOk", fn := fun _ => fun
  | [d] => { results := [.lit (.bool true)], args := [d] }
  | _ => none }
def fnExactArenaOkRow : OpenClaim := { program := "ytandadfmmohhhaa", sum := "1e6a0ce1bd0afbf16ea321c788d1baa2083b77f7f3e931918889ee949dc2e580", func := "loop.example/g01287/laws.FnExactArenaOk", spec := "fnExactArenaOk", apart := false }
def FnExactArenaOkSaid : Prop := fnExactArenaOkRow.holds Try.pinned (OpenSpec.ofChange fnExactArenaOkSpec)

/-- ITS FALSE NEIGHBOUR: 'it returns false'. Refute it at one input. -/
def fnExactArenaOkWrong : ChangeSpec := { name := "fnExactArenaOk", fn := fun _ => fun
  | [d] => { results := [.lit (.bool false)], args := [d] }
  | _ => none }
def FnExactArenaOkWrongFalsely : Prop := fnExactArenaOkRow.holds Try.pinned (OpenSpec.ofChange fnExactArenaOkWrong)

/-- 'laws.FnReached': WHATEVER THE INPUT: true; the input reads as it did. -/
def fnReachedSpec : ChangeSpec := { name := "fnReached", fn := fun _ => fun
  | [d] => { results := [.lit (.bool true)], args := [d] }
  | _ => none }
def fnReachedRow : OpenClaim := { program := "ytandadfmmohhhaa", sum := "1e6a0ce1bd0afbf16ea321c788d1baa2083b77f7f3e931918889ee949dc2e580", func := "loop.example/g01287/laws.FnReached", spec := "fnReached", apart := false }
def FnReachedSaid : Prop := fnReachedRow.holds Try.pinned (OpenSpec.ofChange fnReachedSpec)

/-- ITS FALSE NEIGHBOUR: 'it returns false'. Refute it at one input. -/
def fnReachedWrong : ChangeSpec := { name := "fnReached", fn := fun _ => fun
  | [d] => { results := [.lit (.bool false)], args := [d] }
  | _ => none }
def FnReachedWrongFalsely : Prop := fnReachedRow.holds Try.pinned (OpenSpec.ofChange fnReachedWrong)

/-- 'laws.FnExactEdges': WHATEVER THE INPUT: true; the input reads as it did. -/
def fnExactEdgesSpec : ChangeSpec := { name := "fnExactEdges", fn := fun _ => fun
  | [d1, d2] => { results := [.lit (.bool true)], args := [d1, d2] }
  | _ => none }
def fnExactEdgesRow : OpenClaim := { program := "ytandadfmmohhhaa", sum := "1e6a0ce1bd0afbf16ea321c788d1baa2083b77f7f3e931918889ee949dc2e580", func := "loop.example/g01287/laws.FnExactEdges", spec := "fnExactEdges", apart := false }
def FnExactEdgesSaid : Prop := fnExactEdgesRow.holds Try.pinned (OpenSpec.ofChange fnExactEdgesSpec)

/-- ITS FALSE NEIGHBOUR: 'it returns false'. Refute it at one input. -/
def fnExactEdgesWrong : ChangeSpec := { name := "fnExactEdges", fn := fun _ => fun
  | [d1, d2] => { results := [.lit (.bool false)], args := [d1, d2] }
  | _ => none }
def FnExactEdgesWrongFalsely : Prop := fnExactEdgesRow.holds Try.pinned (OpenSpec.ofChange fnExactEdgesWrong)

/-- 'laws.FnExactHeapOk': WHATEVER THE INPUT: true; the input reads as it did. -/
def fnExactHeapOkSpec : ChangeSpec := { name := "fnExactHeapOk", fn := fun _ => fun
  | [d] => { results := [.lit (.bool true)], args := [d] }
  | _ => none }
def fnExactHeapOkRow : OpenClaim := { program := "ytandadfmmohhhaa", sum := "1e6a0ce1bd0afbf16ea321c788d1baa2083b77f7f3e931918889ee949dc2e580", func := "loop.example/g01287/laws.FnExactHeapOk", spec := "fnExactHeapOk", apart := false }
def FnExactHeapOkSaid : Prop := fnExactHeapOkRow.holds Try.pinned (OpenSpec.ofChange fnExactHeapOkSpec)

/-- ITS FALSE NEIGHBOUR: 'it returns false'. Refute it at one input. -/
def fnExactHeapOkWrong : ChangeSpec := { name := "fnExactHeapOk", fn := fun _ => fun
  | [d] => { results := [.lit (.bool false)], args := [d] }
  | _ => none }
def FnExactHeapOkWrongFalsely : Prop := fnExactHeapOkRow.holds Try.pinned (OpenSpec.ofChange fnExactHeapOkWrong)

/-- 'laws.FnExactGoodSlot': WHATEVER THE INPUT: true; the input reads as it did. -/
def fnExactGoodSlotSpec : ChangeSpec := { name := "fnExactGoodSlot", fn := fun _ => fun
  | [d1, d2, d3, d4] => { results := [.lit (.bool true)], args := [d1, d2, d3, d4] }
  | _ => none }
def fnExactGoodSlotRow : OpenClaim := { program := "ytandadfmmohhhaa", sum := "1e6a0ce1bd0afbf16ea321c788d1baa2083b77f7f3e931918889ee949dc2e580", func := "loop.example/g01287/laws.FnExactGoodSlot", spec := "fnExactGoodSlot", apart := false }
def FnExactGoodSlotSaid : Prop := fnExactGoodSlotRow.holds Try.pinned (OpenSpec.ofChange fnExactGoodSlotSpec)

/-- ITS FALSE NEIGHBOUR: 'it returns false'. Refute it at one input. -/
def fnExactGoodSlotWrong : ChangeSpec := { name := "fnExactGoodSlot", fn := fun _ => fun
  | [d1, d2, d3, d4] => { results := [.lit (.bool false)], args := [d1, d2, d3, d4] }
  | _ => none }
def FnExactGoodSlotWrongFalsely : Prop := fnExactGoodSlotRow.holds Try.pinned (OpenSpec.ofChange fnExactGoodSlotWrong)

/-- 'laws.FnExactReach': WHATEVER THE INPUT: true; the input reads as it did. -/
def fnExactReachSpec : ChangeSpec := { name := "fnExactReach", fn := fun _ => fun
  | [d1, d2] => { results := [.lit (.bool true)], args := [d1, d2] }
  | _ => none }
def fnExactReachRow : OpenClaim := { program := "ytandadfmmohhhaa", sum := "1e6a0ce1bd0afbf16ea321c788d1baa2083b77f7f3e931918889ee949dc2e580", func := "loop.example/g01287/laws.FnExactReach", spec := "fnExactReach", apart := false }
def FnExactReachSaid : Prop := fnExactReachRow.holds Try.pinned (OpenSpec.ofChange fnExactReachSpec)

/-- ITS FALSE NEIGHBOUR: 'it returns false'. Refute it at one input. -/
def fnExactReachWrong : ChangeSpec := { name := "fnExactReach", fn := fun _ => fun
  | [d1, d2] => { results := [.lit (.bool false)], args := [d1, d2] }
  | _ => none }
def FnExactReachWrongFalsely : Prop := fnExactReachRow.holds Try.pinned (OpenSpec.ofChange fnExactReachWrong)

/-- 'laws.FnExactGarbage': WHATEVER THE INPUT: true; the input reads as it did. -/
def fnExactGarbageSpec : ChangeSpec := { name := "fnExactGarbage", fn := fun _ => fun
  | [d1, d2] => { results := [.lit (.bool true)], args := [d1, d2] }
  | _ => none }
def fnExactGarbageRow : OpenClaim := { program := "ytandadfmmohhhaa", sum := "1e6a0ce1bd0afbf16ea321c788d1baa2083b77f7f3e931918889ee949dc2e580", func := "loop.example/g01287/laws.FnExactGarbage", spec := "fnExactGarbage", apart := false }
def FnExactGarbageSaid : Prop := fnExactGarbageRow.holds Try.pinned (OpenSpec.ofChange fnExactGarbageSpec)

/-- ITS FALSE NEIGHBOUR: 'it returns false'. Refute it at one input. -/
def fnExactGarbageWrong : ChangeSpec := { name := "fnExactGarbage", fn := fun _ => fun
  | [d1, d2] => { results := [.lit (.bool false)], args := [d1, d2] }
  | _ => none }
def FnExactGarbageWrongFalsely : Prop := fnExactGarbageRow.holds Try.pinned (OpenSpec.ofChange fnExactGarbageWrong)

/-- 'laws.FnArena': WHATEVER THE INPUT: true; the input reads as it did. -/
def fnArenaSpec : ChangeSpec := { name := "fnArena", fn := fun _ => fun
  | [d] => { results := [.lit (.bool true)], args := [d] }
  | _ => none }
def fnArenaRow : OpenClaim := { program := "ytandadfmmohhhaa", sum := "1e6a0ce1bd0afbf16ea321c788d1baa2083b77f7f3e931918889ee949dc2e580", func := "loop.example/g01287/laws.FnArena", spec := "fnArena", apart := false }
def FnArenaSaid : Prop := fnArenaRow.holds Try.pinned (OpenSpec.ofChange fnArenaSpec)

/-- ITS FALSE NEIGHBOUR: 'it returns false'. Refute it at one input. -/
def fnArenaWrong : ChangeSpec := { name := "fnArena", fn := fun _ => fun
  | [d] => { results := [.lit (.bool false)], args := [d] }
  | _ => none }
def FnArenaWrongFalsely : Prop := fnArenaRow.holds Try.pinned (OpenSpec.ofChange fnArenaWrong)

/-- 'laws.FnExactArenaFree': WHATEVER THE INPUT: true; the input reads as it did. -/
def fnExactArenaFreeSpec : ChangeSpec := { name := "fnExactArenaFree", fn := fun _ => fun
  | [d1, d2] => { results := [.lit (.bool true)], args := [d1, d2] }
  | _ => none }
def fnExactArenaFreeRow : OpenClaim := { program := "ytandadfmmohhhaa", sum := "1e6a0ce1bd0afbf16ea321c788d1baa2083b77f7f3e931918889ee949dc2e580", func := "loop.example/g01287/laws.FnExactArenaFree", spec := "fnExactArenaFree", apart := false }
def FnExactArenaFreeSaid : Prop := fnExactArenaFreeRow.holds Try.pinned (OpenSpec.ofChange fnExactArenaFreeSpec)

/-- ITS FALSE NEIGHBOUR: 'it returns false'. Refute it at one input. -/
def fnExactArenaFreeWrong : ChangeSpec := { name := "fnExactArenaFree", fn := fun _ => fun
  | [d1, d2] => { results := [.lit (.bool false)], args := [d1, d2] }
  | _ => none }
def FnExactArenaFreeWrongFalsely : Prop := fnExactArenaFreeRow.holds Try.pinned (OpenSpec.ofChange fnExactArenaFreeWrong)

/-- 'laws.FnExactArenaPut': WHATEVER THE INPUT: true; the input reads as it did. -/
def fnExactArenaPutSpec : ChangeSpec := { name := "fnExactArenaPut", fn := fun _ => fun
  | [d1, d2] => { results := [.lit (.bool true)], args := [d1, d2] }
  | _ => none }
def fnExactArenaPutRow : OpenClaim := { program := "ytandadfmmohhhaa", sum := "1e6a0ce1bd0afbf16ea321c788d1baa2083b77f7f3e931918889ee949dc2e580", func := "loop.example/g01287/laws.FnExactArenaPut", spec := "fnExactArenaPut", apart := false }
def FnExactArenaPutSaid : Prop := fnExactArenaPutRow.holds Try.pinned (OpenSpec.ofChange fnExactArenaPutSpec)

/-- ITS FALSE NEIGHBOUR: 'it returns false'. Refute it at one input. -/
def fnExactArenaPutWrong : ChangeSpec := { name := "fnExactArenaPut", fn := fun _ => fun
  | [d1, d2] => { results := [.lit (.bool false)], args := [d1, d2] }
  | _ => none }
def FnExactArenaPutWrongFalsely : Prop := fnExactArenaPutRow.holds Try.pinned (OpenSpec.ofChange fnExactArenaPutWrong)

/- THE SECOND FORM. 'bulk': how many values and letters a reading holds, each counted each time it is reached (what is shared counts as often as it is met; a slice's spare places count too). A statement '..UptoSaid' is the law's where the arguments, and the package variables that the reading takes, are together of bulk at most 1048576: NARROWER than '..Said'. Prove '..Said' where nothing that the law and all that it calls make is longer than what came in: it says more and counts as full. Else prove '..UptoSaid'. A law counts once. -/
mutual
def uptoBulk {H : Type} : DataW H → Nat
  | .lit (.string bytes) => bytes.length + 1
  | .lit _ => 1
  | .nil => 1
  | .ptr d => uptoBulk d + 1
  | .slice elems spare => uptoBulkAll elems + uptoBulkAll spare + 1
  | .agg parts => uptoBulkAll parts + 1
  | .iface _ d => uptoBulk d + 1
  | .map entries => uptoBulkEntries entries + 1
  | .held _ => 1
def uptoBulkAll {H : Type} : List (DataW H) → Nat
  | [] => 0
  | d :: r => uptoBulk d + uptoBulkAll r
def uptoBulkEntries {H : Type} : List (Lit × DataW H) → Nat
  | [] => 0
  | x :: r => uptoBulkEntry x + uptoBulkEntries r
def uptoBulkEntry {H : Type} : Lit × DataW H → Nat
  | (.string bytes, d) => bytes.length + uptoBulk d + 1
  | (_, d) => uptoBulk d + 1
 end
def uptoSmall : (H : Type) → List (DataW H) → Bool := fun _ ds => decide (uptoBulkAll ds ≤ 1048576)
def OpenSpec.upto (s : _root_.Go.ChangeSpec) : _root_.Go.OpenSpec := { _root_.Go.OpenSpec.ofChange s with cond := some uptoSmall }

/-- 'laws.FnExactObjOk', WHERE WHAT IT READS IS OF BULK AT MOST 1048576: true; the input reads as it did. -/
def fnExactObjOkUptoRow : OpenClaim := { program := "ytandadfmmohhhaa", sum := "1e6a0ce1bd0afbf16ea321c788d1baa2083b77f7f3e931918889ee949dc2e580", func := "loop.example/g01287/laws.FnExactObjOk", spec := "fnExactObjOk", apart := false, narrowed := true }
def FnExactObjOkUptoSaid : Prop := fnExactObjOkUptoRow.holds Try.pinned (OpenSpec.upto fnExactObjOkSpec)

/-- 'laws.FnExactArenaOk', WHERE WHAT IT READS IS OF BULK AT MOST 1048576: true; the input reads as it did. -/
def fnExactArenaOkUptoRow : OpenClaim := { program := "ytandadfmmohhhaa", sum := "1e6a0ce1bd0afbf16ea321c788d1baa2083b77f7f3e931918889ee949dc2e580", func := "loop.example/g01287/laws.FnExactArenaOk", spec := "fnExactArenaOk", apart := false, narrowed := true }
def FnExactArenaOkUptoSaid : Prop := fnExactArenaOkUptoRow.holds Try.pinned (OpenSpec.upto fnExactArenaOkSpec)

/-- 'laws.FnReached', WHERE WHAT IT READS IS OF BULK AT MOST 1048576: true; the input reads as it did. -/
def fnReachedUptoRow : OpenClaim := { program := "ytandadfmmohhhaa", sum := "1e6a0ce1bd0afbf16ea321c788d1baa2083b77f7f3e931918889ee949dc2e580", func := "loop.example/g01287/laws.FnReached", spec := "fnReached", apart := false, narrowed := true }
def FnReachedUptoSaid : Prop := fnReachedUptoRow.holds Try.pinned (OpenSpec.upto fnReachedSpec)

/-- 'laws.FnExactEdges', WHERE WHAT IT READS IS OF BULK AT MOST 1048576: true; the input reads as it did. -/
def fnExactEdgesUptoRow : OpenClaim := { program := "ytandadfmmohhhaa", sum := "1e6a0ce1bd0afbf16ea321c788d1baa2083b77f7f3e931918889ee949dc2e580", func := "loop.example/g01287/laws.FnExactEdges", spec := "fnExactEdges", apart := false, narrowed := true }
def FnExactEdgesUptoSaid : Prop := fnExactEdgesUptoRow.holds Try.pinned (OpenSpec.upto fnExactEdgesSpec)

/-- 'laws.FnExactHeapOk', WHERE WHAT IT READS IS OF BULK AT MOST 1048576: true; the input reads as it did. -/
def fnExactHeapOkUptoRow : OpenClaim := { program := "ytandadfmmohhhaa", sum := "1e6a0ce1bd0afbf16ea321c788d1baa2083b77f7f3e931918889ee949dc2e580", func := "loop.example/g01287/laws.FnExactHeapOk", spec := "fnExactHeapOk", apart := false, narrowed := true }
def FnExactHeapOkUptoSaid : Prop := fnExactHeapOkUptoRow.holds Try.pinned (OpenSpec.upto fnExactHeapOkSpec)

/-- 'laws.FnExactGoodSlot', WHERE WHAT IT READS IS OF BULK AT MOST 1048576: true; the input reads as it did. -/
def fnExactGoodSlotUptoRow : OpenClaim := { program := "ytandadfmmohhhaa", sum := "1e6a0ce1bd0afbf16ea321c788d1baa2083b77f7f3e931918889ee949dc2e580", func := "loop.example/g01287/laws.FnExactGoodSlot", spec := "fnExactGoodSlot", apart := false, narrowed := true }
def FnExactGoodSlotUptoSaid : Prop := fnExactGoodSlotUptoRow.holds Try.pinned (OpenSpec.upto fnExactGoodSlotSpec)

/-- 'laws.FnExactReach', WHERE WHAT IT READS IS OF BULK AT MOST 1048576: true; the input reads as it did. -/
def fnExactReachUptoRow : OpenClaim := { program := "ytandadfmmohhhaa", sum := "1e6a0ce1bd0afbf16ea321c788d1baa2083b77f7f3e931918889ee949dc2e580", func := "loop.example/g01287/laws.FnExactReach", spec := "fnExactReach", apart := false, narrowed := true }
def FnExactReachUptoSaid : Prop := fnExactReachUptoRow.holds Try.pinned (OpenSpec.upto fnExactReachSpec)

/-- 'laws.FnExactGarbage', WHERE WHAT IT READS IS OF BULK AT MOST 1048576: true; the input reads as it did. -/
def fnExactGarbageUptoRow : OpenClaim := { program := "ytandadfmmohhhaa", sum := "1e6a0ce1bd0afbf16ea321c788d1baa2083b77f7f3e931918889ee949dc2e580", func := "loop.example/g01287/laws.FnExactGarbage", spec := "fnExactGarbage", apart := false, narrowed := true }
def FnExactGarbageUptoSaid : Prop := fnExactGarbageUptoRow.holds Try.pinned (OpenSpec.upto fnExactGarbageSpec)

/-- 'laws.FnArena', WHERE WHAT IT READS IS OF BULK AT MOST 1048576: true; the input reads as it did. -/
def fnArenaUptoRow : OpenClaim := { program := "ytandadfmmohhhaa", sum := "1e6a0ce1bd0afbf16ea321c788d1baa2083b77f7f3e931918889ee949dc2e580", func := "loop.example/g01287/laws.FnArena", spec := "fnArena", apart := false, narrowed := true }
def FnArenaUptoSaid : Prop := fnArenaUptoRow.holds Try.pinned (OpenSpec.upto fnArenaSpec)

/-- 'laws.FnExactArenaFree', WHERE WHAT IT READS IS OF BULK AT MOST 1048576: true; the input reads as it did. -/
def fnExactArenaFreeUptoRow : OpenClaim := { program := "ytandadfmmohhhaa", sum := "1e6a0ce1bd0afbf16ea321c788d1baa2083b77f7f3e931918889ee949dc2e580", func := "loop.example/g01287/laws.FnExactArenaFree", spec := "fnExactArenaFree", apart := false, narrowed := true }
def FnExactArenaFreeUptoSaid : Prop := fnExactArenaFreeUptoRow.holds Try.pinned (OpenSpec.upto fnExactArenaFreeSpec)

/-- 'laws.FnExactArenaPut', WHERE WHAT IT READS IS OF BULK AT MOST 1048576: true; the input reads as it did. -/
def fnExactArenaPutUptoRow : OpenClaim := { program := "ytandadfmmohhhaa", sum := "1e6a0ce1bd0afbf16ea321c788d1baa2083b77f7f3e931918889ee949dc2e580", func := "loop.example/g01287/laws.FnExactArenaPut", spec := "fnExactArenaPut", apart := false, narrowed := true }
def FnExactArenaPutUptoSaid : Prop := fnExactArenaPutUptoRow.holds Try.pinned (OpenSpec.upto fnExactArenaPutSpec)

end Rows
end Go.Proofs.Ytandadfmmohhhaa
