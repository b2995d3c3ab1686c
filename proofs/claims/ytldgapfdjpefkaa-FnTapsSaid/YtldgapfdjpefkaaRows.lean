/-
  No cell of these rows narrows 'for every input' (looked for: loops, veiled, ifaces, maps, wideKeys, modest, calm, conditions, laid).
  DERIVED. THE GIVEN ROWS OF THIS SEAT. 12 by the template 'for every input the law returns true; each argument reads behind the call as it read before'; 0 by the template 'total and deterministic' (their statements: YtldgapfdjpefkaaTotals.lean).
  GIVEN WITH THE SEED: the statements are not yours to turn. If you find one false, say at which input.
  Laid BY PROGRAM, IN A SANDBOX (cutbox-rows.mjs): the forced cells as the released guide's own fill.sh prints them over the translation 35146e7ed8ae309b… (all of the seat's roots in one cut). By AI agents, Wed Nov 11 2026. No macro, syntax, notation, axiom, sorry.
-/
import Derived.Test.YtldgapfdjpefkaaChecked
import GoSem.Claim
import GoSem.ClaimJoined
import GoSem.ClaimMapViews
import Derived.JoinedTies
import Derived.KernelRfl
namespace Go.Proofs.Ytldgapfdjpefkaa
/- THE CELL 'sum', in the pinned program and in every row, IS THE sha256 OF THE DUMP (.gsa) THAT YtldgapfdjpefkaaProg.lean LOADS. Nothing in Lean hashes anything: it is a label: what it is worth is what the hold of that sum in a sandbox is worth. -/
noncomputable def Try.pinned : Pinned := { name := "ytldgapfdjpefkaa", sum := "35146e7ed8ae309b9d32bdb949cfb81796fc18036da996f6a964be158d4387d8", checked := Try.checked }
namespace Rows
def none {H : Type} : Left H := { results := [], args := [] }

/-- 'laws.FnExactExpired': WHATEVER THE INPUT: true; the input reads as it did. -/
def fnExactExpiredSpec : ChangeSpec := { name := "fnExactExpired", fn := fun _ => fun
  | [d1, d2] => { results := [.lit (.bool true)], args := [d1, d2] }
  | _ => none }
def fnExactExpiredRow : OpenClaim := { program := "ytldgapfdjpefkaa", sum := "35146e7ed8ae309b9d32bdb949cfb81796fc18036da996f6a964be158d4387d8", func := "loop.example/g01287/laws.FnExactExpired", spec := "fnExactExpired", apart := false }
def FnExactExpiredSaid : Prop := fnExactExpiredRow.holds Try.pinned (OpenSpec.ofChange fnExactExpiredSpec)

/-- ITS FALSE NEIGHBOUR: 'it returns false'. Refute it at one input. -/
def fnExactExpiredWrong : ChangeSpec := { name := "fnExactExpired", fn := fun _ => fun
  | [d1, d2] => { results := [.lit (.bool false)], args := [d1, d2] }
  | _ => none }
def FnExactExpiredWrongFalsely : Prop := fnExactExpiredRow.holds Try.pinned (OpenSpec.ofChange fnExactExpiredWrong)

/-- 'laws.FnWheel': WHATEVER THE INPUT: true; the input reads as it did. -/
def fnWheelSpec : ChangeSpec := { name := "fnWheel", fn := fun _ => fun
  | [d] => { results := [.lit (.bool true)], args := [d] }
  | _ => none }
def fnWheelRow : OpenClaim := { program := "ytldgapfdjpefkaa", sum := "35146e7ed8ae309b9d32bdb949cfb81796fc18036da996f6a964be158d4387d8", func := "loop.example/g01287/laws.FnWheel", spec := "fnWheel", apart := false }
def FnWheelSaid : Prop := fnWheelRow.holds Try.pinned (OpenSpec.ofChange fnWheelSpec)

/-- ITS FALSE NEIGHBOUR: 'it returns false'. Refute it at one input. -/
def fnWheelWrong : ChangeSpec := { name := "fnWheel", fn := fun _ => fun
  | [d] => { results := [.lit (.bool false)], args := [d] }
  | _ => none }
def FnWheelWrongFalsely : Prop := fnWheelRow.holds Try.pinned (OpenSpec.ofChange fnWheelWrong)

/-- 'laws.FnExactWheelOk': WHATEVER THE INPUT: true; the input reads as it did. -/
def fnExactWheelOkSpec : ChangeSpec := { name := "fnExactWheelOk", fn := fun _ => fun
  | [d] => { results := [.lit (.bool true)], args := [d] }
  | _ => none }
def fnExactWheelOkRow : OpenClaim := { program := "ytldgapfdjpefkaa", sum := "35146e7ed8ae309b9d32bdb949cfb81796fc18036da996f6a964be158d4387d8", func := "loop.example/g01287/laws.FnExactWheelOk", spec := "fnExactWheelOk", apart := false }
def FnExactWheelOkSaid : Prop := fnExactWheelOkRow.holds Try.pinned (OpenSpec.ofChange fnExactWheelOkSpec)

/-- ITS FALSE NEIGHBOUR: 'it returns false'. Refute it at one input. -/
def fnExactWheelOkWrong : ChangeSpec := { name := "fnExactWheelOk", fn := fun _ => fun
  | [d] => { results := [.lit (.bool false)], args := [d] }
  | _ => none }
def FnExactWheelOkWrongFalsely : Prop := fnExactWheelOkRow.holds Try.pinned (OpenSpec.ofChange fnExactWheelOkWrong)

/-- 'laws.FnExactArenaNew': WHATEVER THE INPUT: true; the input reads as it did. -/
def fnExactArenaNewSpec : ChangeSpec := { name := "fnExactArenaNew", fn := fun _ => fun
  | [] => { results := [.lit (.bool true)], args := [] }
  | _ => none }
def fnExactArenaNewRow : OpenClaim := { program := "ytldgapfdjpefkaa", sum := "35146e7ed8ae309b9d32bdb949cfb81796fc18036da996f6a964be158d4387d8", func := "loop.example/g01287/laws.FnExactArenaNew", spec := "fnExactArenaNew", apart := false }
def FnExactArenaNewSaid : Prop := fnExactArenaNewRow.holds Try.pinned (OpenSpec.ofChange fnExactArenaNewSpec)

/-- ITS FALSE NEIGHBOUR: 'it returns false'. Refute it at one input. -/
def fnExactArenaNewWrong : ChangeSpec := { name := "fnExactArenaNew", fn := fun _ => fun
  | [] => { results := [.lit (.bool false)], args := [] }
  | _ => none }
def FnExactArenaNewWrongFalsely : Prop := fnExactArenaNewRow.holds Try.pinned (OpenSpec.ofChange fnExactArenaNewWrong)

/-- 'laws.FnExactTreesSum': WHATEVER THE INPUT: true; the input reads as it did. -/
def fnExactTreesSumSpec : ChangeSpec := { name := "fnExactTreesSum", fn := fun _ => fun
  | [d] => { results := [.lit (.bool true)], args := [d] }
  | _ => none }
def fnExactTreesSumRow : OpenClaim := { program := "ytldgapfdjpefkaa", sum := "35146e7ed8ae309b9d32bdb949cfb81796fc18036da996f6a964be158d4387d8", func := "loop.example/g01287/laws.FnExactTreesSum", spec := "fnExactTreesSum", apart := false }
def FnExactTreesSumSaid : Prop := fnExactTreesSumRow.holds Try.pinned (OpenSpec.ofChange fnExactTreesSumSpec)

/-- ITS FALSE NEIGHBOUR: 'it returns false'. Refute it at one input. -/
def fnExactTreesSumWrong : ChangeSpec := { name := "fnExactTreesSum", fn := fun _ => fun
  | [d] => { results := [.lit (.bool false)], args := [d] }
  | _ => none }
def FnExactTreesSumWrongFalsely : Prop := fnExactTreesSumRow.holds Try.pinned (OpenSpec.ofChange fnExactTreesSumWrong)

/-- 'laws.FnExactWheelAll': WHATEVER THE INPUT: true; the input reads as it did. -/
def fnExactWheelAllSpec : ChangeSpec := { name := "fnExactWheelAll", fn := fun _ => fun
  | [d] => { results := [.lit (.bool true)], args := [d] }
  | _ => none }
def fnExactWheelAllRow : OpenClaim := { program := "ytldgapfdjpefkaa", sum := "35146e7ed8ae309b9d32bdb949cfb81796fc18036da996f6a964be158d4387d8", func := "loop.example/g01287/laws.FnExactWheelAll", spec := "fnExactWheelAll", apart := false }
def FnExactWheelAllSaid : Prop := fnExactWheelAllRow.holds Try.pinned (OpenSpec.ofChange fnExactWheelAllSpec)

/-- ITS FALSE NEIGHBOUR: 'it returns false'. Refute it at one input. -/
def fnExactWheelAllWrong : ChangeSpec := { name := "fnExactWheelAll", fn := fun _ => fun
  | [d] => { results := [.lit (.bool false)], args := [d] }
  | _ => none }
def FnExactWheelAllWrongFalsely : Prop := fnExactWheelAllRow.holds Try.pinned (OpenSpec.ofChange fnExactWheelAllWrong)

/-- 'laws.FnExactSameArena': WHATEVER THE INPUT: true; the input reads as it did. -/
def fnExactSameArenaSpec : ChangeSpec := { name := "fnExactSameArena", fn := fun _ => fun
  | [d1, d2] => { results := [.lit (.bool true)], args := [d1, d2] }
  | _ => none }
def fnExactSameArenaRow : OpenClaim := { program := "ytldgapfdjpefkaa", sum := "35146e7ed8ae309b9d32bdb949cfb81796fc18036da996f6a964be158d4387d8", func := "loop.example/g01287/laws.FnExactSameArena", spec := "fnExactSameArena", unfollowed := true, recurses := true, apart := false }
def FnExactSameArenaSaid : Prop := fnExactSameArenaRow.holds Try.pinned (OpenSpec.ofChange fnExactSameArenaSpec)

/-- ITS FALSE NEIGHBOUR: 'it returns false'. Refute it at one input. -/
def fnExactSameArenaWrong : ChangeSpec := { name := "fnExactSameArena", fn := fun _ => fun
  | [d1, d2] => { results := [.lit (.bool false)], args := [d1, d2] }
  | _ => none }
def FnExactSameArenaWrongFalsely : Prop := fnExactSameArenaRow.holds Try.pinned (OpenSpec.ofChange fnExactSameArenaWrong)

/-- 'laws.FnExactWheelAdd': WHATEVER THE INPUT: true; the input reads as it did. -/
def fnExactWheelAddSpec : ChangeSpec := { name := "fnExactWheelAdd", fn := fun _ => fun
  | [d1, d2] => { results := [.lit (.bool true)], args := [d1, d2] }
  | _ => none }
def fnExactWheelAddRow : OpenClaim := { program := "ytldgapfdjpefkaa", sum := "35146e7ed8ae309b9d32bdb949cfb81796fc18036da996f6a964be158d4387d8", func := "loop.example/g01287/laws.FnExactWheelAdd", spec := "fnExactWheelAdd", apart := false }
def FnExactWheelAddSaid : Prop := fnExactWheelAddRow.holds Try.pinned (OpenSpec.ofChange fnExactWheelAddSpec)

/-- ITS FALSE NEIGHBOUR: 'it returns false'. Refute it at one input. -/
def fnExactWheelAddWrong : ChangeSpec := { name := "fnExactWheelAdd", fn := fun _ => fun
  | [d1, d2] => { results := [.lit (.bool false)], args := [d1, d2] }
  | _ => none }
def FnExactWheelAddWrongFalsely : Prop := fnExactWheelAddRow.holds Try.pinned (OpenSpec.ofChange fnExactWheelAddWrong)

/-- 'laws.FnExactWheelCancel': WHATEVER THE INPUT: true; the input reads as it did. -/
def fnExactWheelCancelSpec : ChangeSpec := { name := "fnExactWheelCancel", fn := fun _ => fun
  | [d1, d2] => { results := [.lit (.bool true)], args := [d1, d2] }
  | _ => none }
def fnExactWheelCancelRow : OpenClaim := { program := "ytldgapfdjpefkaa", sum := "35146e7ed8ae309b9d32bdb949cfb81796fc18036da996f6a964be158d4387d8", func := "loop.example/g01287/laws.FnExactWheelCancel", spec := "fnExactWheelCancel", apart := false }
def FnExactWheelCancelSaid : Prop := fnExactWheelCancelRow.holds Try.pinned (OpenSpec.ofChange fnExactWheelCancelSpec)

/-- ITS FALSE NEIGHBOUR: 'it returns false'. Refute it at one input. -/
def fnExactWheelCancelWrong : ChangeSpec := { name := "fnExactWheelCancel", fn := fun _ => fun
  | [d1, d2] => { results := [.lit (.bool false)], args := [d1, d2] }
  | _ => none }
def FnExactWheelCancelWrongFalsely : Prop := fnExactWheelCancelRow.holds Try.pinned (OpenSpec.ofChange fnExactWheelCancelWrong)

/-- 'laws.FnExactWheelTick': WHATEVER THE INPUT: true; the input reads as it did. -/
def fnExactWheelTickSpec : ChangeSpec := { name := "fnExactWheelTick", fn := fun _ => fun
  | [d] => { results := [.lit (.bool true)], args := [d] }
  | _ => none }
def fnExactWheelTickRow : OpenClaim := { program := "ytldgapfdjpefkaa", sum := "35146e7ed8ae309b9d32bdb949cfb81796fc18036da996f6a964be158d4387d8", func := "loop.example/g01287/laws.FnExactWheelTick", spec := "fnExactWheelTick", apart := false }
def FnExactWheelTickSaid : Prop := fnExactWheelTickRow.holds Try.pinned (OpenSpec.ofChange fnExactWheelTickSpec)

/-- ITS FALSE NEIGHBOUR: 'it returns false'. Refute it at one input. -/
def fnExactWheelTickWrong : ChangeSpec := { name := "fnExactWheelTick", fn := fun _ => fun
  | [d] => { results := [.lit (.bool false)], args := [d] }
  | _ => none }
def FnExactWheelTickWrongFalsely : Prop := fnExactWheelTickRow.holds Try.pinned (OpenSpec.ofChange fnExactWheelTickWrong)

/-- 'laws.FnTaps': WHATEVER THE INPUT: true; the input reads as it did. -/
def fnTapsSpec : ChangeSpec := { name := "fnTaps", fn := fun _ => fun
  | [d] => { results := [.lit (.bool true)], args := [d] }
  | _ => none }
def fnTapsRow : OpenClaim := { program := "ytldgapfdjpefkaa", sum := "35146e7ed8ae309b9d32bdb949cfb81796fc18036da996f6a964be158d4387d8", func := "loop.example/g01287/laws.FnTaps", spec := "fnTaps", apart := false }
def FnTapsSaid : Prop := fnTapsRow.holds Try.pinned (OpenSpec.ofChange fnTapsSpec)

/-- ITS FALSE NEIGHBOUR: 'it returns false'. Refute it at one input. -/
def fnTapsWrong : ChangeSpec := { name := "fnTaps", fn := fun _ => fun
  | [d] => { results := [.lit (.bool false)], args := [d] }
  | _ => none }
def FnTapsWrongFalsely : Prop := fnTapsRow.holds Try.pinned (OpenSpec.ofChange fnTapsWrong)

/-- 'laws.FnExactTapMove': WHATEVER THE INPUT: true; the input reads as it did. -/
def fnExactTapMoveSpec : ChangeSpec := { name := "fnExactTapMove", fn := fun _ => fun
  | [d1, d2, d3] => { results := [.lit (.bool true)], args := [d1, d2, d3] }
  | _ => none }
def fnExactTapMoveRow : OpenClaim := { program := "ytldgapfdjpefkaa", sum := "35146e7ed8ae309b9d32bdb949cfb81796fc18036da996f6a964be158d4387d8", func := "loop.example/g01287/laws.FnExactTapMove", spec := "fnExactTapMove", apart := false }
def FnExactTapMoveSaid : Prop := fnExactTapMoveRow.holds Try.pinned (OpenSpec.ofChange fnExactTapMoveSpec)

/-- ITS FALSE NEIGHBOUR: 'it returns false'. Refute it at one input. -/
def fnExactTapMoveWrong : ChangeSpec := { name := "fnExactTapMove", fn := fun _ => fun
  | [d1, d2, d3] => { results := [.lit (.bool false)], args := [d1, d2, d3] }
  | _ => none }
def FnExactTapMoveWrongFalsely : Prop := fnExactTapMoveRow.holds Try.pinned (OpenSpec.ofChange fnExactTapMoveWrong)

/- THE SECOND FORM. 'bulk': how many values and letters a reading holds, each counted each time it is reached (what is shared counts as often as it is met; a slice's spare places count too). A statement '..UptoSaid' is the law's where the arguments, and the package variables that the reading takes, are together of bulk at most 1048576: NARROWER than '..Said'. Prove '..Said' where nothing that the law and all that it calls make is longer than what came in: it says more and counts as full. Else prove '..UptoSaid'. A law counts once. -/
mutual
def uptoBulk {H : Type} : DataW H → Nat
  | .lit (.string bytes) => bytes.length + 1
  | .lit _ => 1
  | .nil => 1
  | .ptr d => uptoBulk d + 1
  | .slice elems spare => uptoBulkAll elems + uptoBulkAll spare + 1
  | .agg parts => uptoBulkAll parts + 1
  | .iface _ d => uptoBulk d + 1
  | .map entries => uptoBulkEntries entries + 1
  | .held _ => 1
def uptoBulkAll {H : Type} : List (DataW H) → Nat
  | [] => 0
  | d :: r => uptoBulk d + uptoBulkAll r
def uptoBulkEntries {H : Type} : List (Lit × DataW H) → Nat
  | [] => 0
  | x :: r => uptoBulkEntry x + uptoBulkEntries r
def uptoBulkEntry {H : Type} : Lit × DataW H → Nat
  | (.string bytes, d) => bytes.length + uptoBulk d + 1
  | (_, d) => uptoBulk d + 1
 end
def uptoSmall : (H : Type) → List (DataW H) → Bool := fun _ ds => decide (uptoBulkAll ds ≤ 1048576)
def OpenSpec.upto (s : _root_.Go.ChangeSpec) : _root_.Go.OpenSpec := { _root_.Go.OpenSpec.ofChange s with cond := some uptoSmall }

/-- 'laws.FnExactExpired', WHERE WHAT IT READS IS OF BULK AT MOST 1048576: true; the input reads as it did. -/
def fnExactExpiredUptoRow : OpenClaim := { program := "ytldgapfdjpefkaa", sum := "35146e7ed8ae309b9d32bdb949cfb81796fc18036da996f6a964be158d4387d8", func := "loop.example/g01287/laws.FnExactExpired", spec := "fnExactExpired", apart := false, narrowed := true }
def FnExactExpiredUptoSaid : Prop := fnExactExpiredUptoRow.holds Try.pinned (OpenSpec.upto fnExactExpiredSpec)

/-- 'laws.FnWheel', WHERE WHAT IT READS IS OF BULK AT MOST 1048576: true; the input reads as it did. -/
def fnWheelUptoRow : OpenClaim := { program := "ytldgapfdjpefkaa", sum := "35146e7ed8ae309b9d32bdb949cfb81796fc18036da996f6a964be158d4387d8", func := "loop.example/g01287/laws.FnWheel", spec := "fnWheel", apart := false, narrowed := true }
def FnWheelUptoSaid : Prop := fnWheelUptoRow.holds Try.pinned (OpenSpec.upto fnWheelSpec)

/-- 'laws.FnExactWheelOk', WHERE WHAT IT READS IS OF BULK AT MOST 1048576: true; the input reads as it did. -/
def fnExactWheelOkUptoRow : OpenClaim := { program := "ytldgapfdjpefkaa", sum := "35146e7ed8ae309b9d32bdb949cfb81796fc18036da996f6a964be158d4387d8", func := "loop.example/g01287/laws.FnExactWheelOk", spec := "fnExactWheelOk", apart := false, narrowed := true }
def FnExactWheelOkUptoSaid : Prop := fnExactWheelOkUptoRow.holds Try.pinned (OpenSpec.upto fnExactWheelOkSpec)

/-- 'laws.FnExactArenaNew', WHERE WHAT IT READS IS OF BULK AT MOST 1048576: true; the input reads as it did. -/
def fnExactArenaNewUptoRow : OpenClaim := { program := "ytldgapfdjpefkaa", sum := "35146e7ed8ae309b9d32bdb949cfb81796fc18036da996f6a964be158d4387d8", func := "loop.example/g01287/laws.FnExactArenaNew", spec := "fnExactArenaNew", apart := false, narrowed := true }
def FnExactArenaNewUptoSaid : Prop := fnExactArenaNewUptoRow.holds Try.pinned (OpenSpec.upto fnExactArenaNewSpec)

/-- 'laws.FnExactTreesSum', WHERE WHAT IT READS IS OF BULK AT MOST 1048576: true; the input reads as it did. -/
def fnExactTreesSumUptoRow : OpenClaim := { program := "ytldgapfdjpefkaa", sum := "35146e7ed8ae309b9d32bdb949cfb81796fc18036da996f6a964be158d4387d8", func := "loop.example/g01287/laws.FnExactTreesSum", spec := "fnExactTreesSum", apart := false, narrowed := true }
def FnExactTreesSumUptoSaid : Prop := fnExactTreesSumUptoRow.holds Try.pinned (OpenSpec.upto fnExactTreesSumSpec)

/-- 'laws.FnExactWheelAll', WHERE WHAT IT READS IS OF BULK AT MOST 1048576: true; the input reads as it did. -/
def fnExactWheelAllUptoRow : OpenClaim := { program := "ytldgapfdjpefkaa", sum := "35146e7ed8ae309b9d32bdb949cfb81796fc18036da996f6a964be158d4387d8", func := "loop.example/g01287/laws.FnExactWheelAll", spec := "fnExactWheelAll", apart := false, narrowed := true }
def FnExactWheelAllUptoSaid : Prop := fnExactWheelAllUptoRow.holds Try.pinned (OpenSpec.upto fnExactWheelAllSpec)

/-- 'laws.FnExactSameArena', WHERE WHAT IT READS IS OF BULK AT MOST 1048576: true; the input reads as it did. -/
def fnExactSameArenaUptoRow : OpenClaim := { program := "ytldgapfdjpefkaa", sum := "35146e7ed8ae309b9d32bdb949cfb81796fc18036da996f6a964be158d4387d8", func := "loop.example/g01287/laws.FnExactSameArena", spec := "fnExactSameArena", unfollowed := true, recurses := true, apart := false, narrowed := true }
def FnExactSameArenaUptoSaid : Prop := fnExactSameArenaUptoRow.holds Try.pinned (OpenSpec.upto fnExactSameArenaSpec)

/-- 'laws.FnExactWheelAdd', WHERE WHAT IT READS IS OF BULK AT MOST 1048576: true; the input reads as it did. -/
def fnExactWheelAddUptoRow : OpenClaim := { program := "ytldgapfdjpefkaa", sum := "35146e7ed8ae309b9d32bdb949cfb81796fc18036da996f6a964be158d4387d8", func := "loop.example/g01287/laws.FnExactWheelAdd", spec := "fnExactWheelAdd", apart := false, narrowed := true }
def FnExactWheelAddUptoSaid : Prop := fnExactWheelAddUptoRow.holds Try.pinned (OpenSpec.upto fnExactWheelAddSpec)

/-- 'laws.FnExactWheelCancel', WHERE WHAT IT READS IS OF BULK AT MOST 1048576: true; the input reads as it did. -/
def fnExactWheelCancelUptoRow : OpenClaim := { program := "ytldgapfdjpefkaa", sum := "35146e7ed8ae309b9d32bdb949cfb81796fc18036da996f6a964be158d4387d8", func := "loop.example/g01287/laws.FnExactWheelCancel", spec := "fnExactWheelCancel", apart := false, narrowed := true }
def FnExactWheelCancelUptoSaid : Prop := fnExactWheelCancelUptoRow.holds Try.pinned (OpenSpec.upto fnExactWheelCancelSpec)

/-- 'laws.FnExactWheelTick', WHERE WHAT IT READS IS OF BULK AT MOST 1048576: true; the input reads as it did. -/
def fnExactWheelTickUptoRow : OpenClaim := { program := "ytldgapfdjpefkaa", sum := "35146e7ed8ae309b9d32bdb949cfb81796fc18036da996f6a964be158d4387d8", func := "loop.example/g01287/laws.FnExactWheelTick", spec := "fnExactWheelTick", apart := false, narrowed := true }
def FnExactWheelTickUptoSaid : Prop := fnExactWheelTickUptoRow.holds Try.pinned (OpenSpec.upto fnExactWheelTickSpec)

/-- 'laws.FnTaps', WHERE WHAT IT READS IS OF BULK AT MOST 1048576: true; the input reads as it did. -/
def fnTapsUptoRow : OpenClaim := { program := "ytldgapfdjpefkaa", sum := "35146e7ed8ae309b9d32bdb949cfb81796fc18036da996f6a964be158d4387d8", func := "loop.example/g01287/laws.FnTaps", spec := "fnTaps", apart := false, narrowed := true }
def FnTapsUptoSaid : Prop := fnTapsUptoRow.holds Try.pinned (OpenSpec.upto fnTapsSpec)

/-- 'laws.FnExactTapMove', WHERE WHAT IT READS IS OF BULK AT MOST 1048576: true; the input reads as it did. -/
def fnExactTapMoveUptoRow : OpenClaim := { program := "ytldgapfdjpefkaa", sum := "35146e7ed8ae309b9d32bdb949cfb81796fc18036da996f6a964be158d4387d8", func := "loop.example/g01287/laws.FnExactTapMove", spec := "fnExactTapMove", apart := false, narrowed := true }
def FnExactTapMoveUptoSaid : Prop := fnExactTapMoveUptoRow.holds Try.pinned (OpenSpec.upto fnExactTapMoveSpec)

end Rows
end Go.Proofs.Ytldgapfdjpefkaa
