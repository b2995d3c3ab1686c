/-
  No cell of these rows narrows 'for every input' (looked for: loops, veiled, ifaces, maps, wideKeys, modest, calm, conditions, laid).
  DERIVED. THE GIVEN ROWS OF THIS SEAT. 6 by the template 'for every input the law returns true; each argument reads behind the call as it read before'; 0 by the template 'total and deterministic' (their statements: YtjjmjfoejpjopaaTotals.lean).
  GIVEN WITH THE SEED: the statements are not yours to turn. If you find one false, say at which input.
  Laid BY PROGRAM, IN A SANDBOX (cutbox-rows.mjs): the forced cells as the released guide's own fill.sh prints them over the translation 621ced52d5b04892… (all of the seat's roots in one cut). By AI agents, Wed Nov 11 2026. No macro, syntax, notation, axiom, sorry.
-/
import Derived.Test.YtjjmjfoejpjopaaChecked
import GoSem.Claim
import GoSem.ClaimJoined
import GoSem.ClaimMapViews
import Derived.JoinedTies
import Derived.KernelRfl
namespace Go.Proofs.Ytjjmjfoejpjopaa
/- THE CELL 'sum', in the pinned program and in every row, IS THE sha256 OF THE DUMP (.gsa) THAT YtjjmjfoejpjopaaProg.lean LOADS. Nothing in Lean hashes anything: it is a label: what it is worth is what the hold of that sum in a sandbox is worth. -/
noncomputable def Try.pinned : Pinned := { name := "ytjjmjfoejpjopaa", sum := "621ced52d5b04892330f5467d36caacba0621778d0869902b3c0f1a821bc193f", checked := Try.checked }
namespace Rows
def none {H : Type} : Left H := { results := [], args := [] }

/-- 'laws.FnBarrier': WHATEVER THE INPUT: true; the input reads as it did. -/
def fnBarrierSpec : ChangeSpec := { name := "fnBarrier", fn := fun _ => fun
  | [d] => { results := [.lit (.bool true)], args := [d] }
  | _ => none }
def fnBarrierRow : OpenClaim := { program := "ytjjmjfoejpjopaa", sum := "621ced52d5b04892330f5467d36caacba0621778d0869902b3c0f1a821bc193f", func := "loop.example/g01287/laws.FnBarrier", spec := "fnBarrier", apart := false }
def FnBarrierSaid : Prop := fnBarrierRow.holds Try.pinned (OpenSpec.ofChange fnBarrierSpec)

/-- ITS FALSE NEIGHBOUR: 'it returns false'. Refute it at one input. -/
def fnBarrierWrong : ChangeSpec := { name := "fnBarrier", fn := fun _ => fun
  | [d] => { results := [.lit (.bool false)], args := [d] }
  | _ => none }
def FnBarrierWrongFalsely : Prop := fnBarrierRow.holds Try.pinned (OpenSpec.ofChange fnBarrierWrong)

/-- 'laws.FnGcSafe': WHATEVER THE INPUT: true; the input reads as it did. -/
def fnGcSafeSpec : ChangeSpec := { name := "fnGcSafe", fn := fun _ => fun
  | [d] => { results := [.lit (.bool true)], args := [d] }
  | _ => none }
def fnGcSafeRow : OpenClaim := { program := "ytjjmjfoejpjopaa", sum := "621ced52d5b04892330f5467d36caacba0621778d0869902b3c0f1a821bc193f", func := "loop.example/g01287/laws.FnGcSafe", spec := "fnGcSafe", apart := false }
def FnGcSafeSaid : Prop := fnGcSafeRow.holds Try.pinned (OpenSpec.ofChange fnGcSafeSpec)

/-- ITS FALSE NEIGHBOUR: 'it returns false'. Refute it at one input. -/
def fnGcSafeWrong : ChangeSpec := { name := "fnGcSafe", fn := fun _ => fun
  | [d] => { results := [.lit (.bool false)], args := [d] }
  | _ => none }
def FnGcSafeWrongFalsely : Prop := fnGcSafeRow.holds Try.pinned (OpenSpec.ofChange fnGcSafeWrong)

/-- 'laws.FnExactGcSafe': WHATEVER THE INPUT: true; the input reads as it did. -/
def fnExactGcSafeSpec : ChangeSpec := { name := "fnExactGcSafe", fn := fun _ => fun
  | [d1, d2] => { results := [.lit (.bool true)], args := [d1, d2] }
  | _ => none }
def fnExactGcSafeRow : OpenClaim := { program := "ytjjmjfoejpjopaa", sum := "621ced52d5b04892330f5467d36caacba0621778d0869902b3c0f1a821bc193f", func := "loop.example/g01287/laws.FnExactGcSafe", spec := "fnExactGcSafe", apart := false }
def FnExactGcSafeSaid : Prop := fnExactGcSafeRow.holds Try.pinned (OpenSpec.ofChange fnExactGcSafeSpec)

/-- ITS FALSE NEIGHBOUR: 'it returns false'. Refute it at one input. -/
def fnExactGcSafeWrong : ChangeSpec := { name := "fnExactGcSafe", fn := fun _ => fun
  | [d1, d2] => { results := [.lit (.bool false)], args := [d1, d2] }
  | _ => none }
def FnExactGcSafeWrongFalsely : Prop := fnExactGcSafeRow.holds Try.pinned (OpenSpec.ofChange fnExactGcSafeWrong)

/-- 'laws.FnExactGcBorn': WHATEVER THE INPUT: true; the input reads as it did. -/
def fnExactGcBornSpec : ChangeSpec := { name := "fnExactGcBorn", fn := fun _ => fun
  | [d1, d2] => { results := [.lit (.bool true)], args := [d1, d2] }
  | _ => none }
def fnExactGcBornRow : OpenClaim := { program := "ytjjmjfoejpjopaa", sum := "621ced52d5b04892330f5467d36caacba0621778d0869902b3c0f1a821bc193f", func := "loop.example/g01287/laws.FnExactGcBorn", spec := "fnExactGcBorn", apart := false }
def FnExactGcBornSaid : Prop := fnExactGcBornRow.holds Try.pinned (OpenSpec.ofChange fnExactGcBornSpec)

/-- ITS FALSE NEIGHBOUR: 'it returns false'. Refute it at one input. -/
def fnExactGcBornWrong : ChangeSpec := { name := "fnExactGcBorn", fn := fun _ => fun
  | [d1, d2] => { results := [.lit (.bool false)], args := [d1, d2] }
  | _ => none }
def FnExactGcBornWrongFalsely : Prop := fnExactGcBornRow.holds Try.pinned (OpenSpec.ofChange fnExactGcBornWrong)

/-- 'laws.FnExactGcShade': WHATEVER THE INPUT: true; the input reads as it did. -/
def fnExactGcShadeSpec : ChangeSpec := { name := "fnExactGcShade", fn := fun _ => fun
  | [d1, d2] => { results := [.lit (.bool true)], args := [d1, d2] }
  | _ => none }
def fnExactGcShadeRow : OpenClaim := { program := "ytjjmjfoejpjopaa", sum := "621ced52d5b04892330f5467d36caacba0621778d0869902b3c0f1a821bc193f", func := "loop.example/g01287/laws.FnExactGcShade", spec := "fnExactGcShade", apart := false }
def FnExactGcShadeSaid : Prop := fnExactGcShadeRow.holds Try.pinned (OpenSpec.ofChange fnExactGcShadeSpec)

/-- ITS FALSE NEIGHBOUR: 'it returns false'. Refute it at one input. -/
def fnExactGcShadeWrong : ChangeSpec := { name := "fnExactGcShade", fn := fun _ => fun
  | [d1, d2] => { results := [.lit (.bool false)], args := [d1, d2] }
  | _ => none }
def FnExactGcShadeWrongFalsely : Prop := fnExactGcShadeRow.holds Try.pinned (OpenSpec.ofChange fnExactGcShadeWrong)

/-- 'laws.FnExactGcStep': WHATEVER THE INPUT: true; the input reads as it did. -/
def fnExactGcStepSpec : ChangeSpec := { name := "fnExactGcStep", fn := fun _ => fun
  | [d1, d2] => { results := [.lit (.bool true)], args := [d1, d2] }
  | _ => none }
def fnExactGcStepRow : OpenClaim := { program := "ytjjmjfoejpjopaa", sum := "621ced52d5b04892330f5467d36caacba0621778d0869902b3c0f1a821bc193f", func := "loop.example/g01287/laws.FnExactGcStep", spec := "fnExactGcStep", apart := false }
def FnExactGcStepSaid : Prop := fnExactGcStepRow.holds Try.pinned (OpenSpec.ofChange fnExactGcStepSpec)

/-- ITS FALSE NEIGHBOUR: 'it returns false'. Refute it at one input. -/
def fnExactGcStepWrong : ChangeSpec := { name := "fnExactGcStep", fn := fun _ => fun
  | [d1, d2] => { results := [.lit (.bool false)], args := [d1, d2] }
  | _ => none }
def FnExactGcStepWrongFalsely : Prop := fnExactGcStepRow.holds Try.pinned (OpenSpec.ofChange fnExactGcStepWrong)

/- THE SECOND FORM. 'bulk': how many values and letters a reading holds, each counted each time it is reached (what is shared counts as often as it is met; a slice's spare places count too). A statement '..UptoSaid' is the law's where the arguments, and the package variables that the reading takes, are together of bulk at most 1048576: NARROWER than '..Said'. Prove '..Said' where nothing that the law and all that it calls make is longer than what came in: it says more and counts as full. Else prove '..UptoSaid'. A law counts once. -/
mutual
def uptoBulk {H : Type} : DataW H → Nat
  | .lit (.string bytes) => bytes.length + 1
  | .lit _ => 1
  | .nil => 1
  | .ptr d => uptoBulk d + 1
  | .slice elems spare => uptoBulkAll elems + uptoBulkAll spare + 1
  | .agg parts => uptoBulkAll parts + 1
  | .iface _ d => uptoBulk d + 1
  | .map entries => uptoBulkEntries entries + 1
  | .held _ => 1
def uptoBulkAll {H : Type} : List (DataW H) → Nat
  | [] => 0
  | d :: r => uptoBulk d + uptoBulkAll r
def uptoBulkEntries {H : Type} : List (Lit × DataW H) → Nat
  | [] => 0
  | x :: r => uptoBulkEntry x + uptoBulkEntries r
def uptoBulkEntry {H : Type} : Lit × DataW H → Nat
  | (.string bytes, d) => bytes.length + uptoBulk d + 1
  | (_, d) => uptoBulk d + 1
 end
def uptoSmall : (H : Type) → List (DataW H) → Bool := fun _ ds => decide (uptoBulkAll ds ≤ 1048576)
def OpenSpec.upto (s : _root_.Go.ChangeSpec) : _root_.Go.OpenSpec := { _root_.Go.OpenSpec.ofChange s with cond := some uptoSmall }

/-- 'laws.FnBarrier', WHERE WHAT IT READS IS OF BULK AT MOST 1048576: true; the input reads as it did. -/
def fnBarrierUptoRow : OpenClaim := { program := "ytjjmjfoejpjopaa", sum := "621ced52d5b04892330f5467d36caacba0621778d0869902b3c0f1a821bc193f", func := "loop.example/g01287/laws.FnBarrier", spec := "fnBarrier", apart := false, narrowed := true }
def FnBarrierUptoSaid : Prop := fnBarrierUptoRow.holds Try.pinned (OpenSpec.upto fnBarrierSpec)

/-- 'laws.FnGcSafe', WHERE WHAT IT READS IS OF BULK AT MOST 1048576: true; the input reads as it did. -/
def fnGcSafeUptoRow : OpenClaim := { program := "ytjjmjfoejpjopaa", sum := "621ced52d5b04892330f5467d36caacba0621778d0869902b3c0f1a821bc193f", func := "loop.example/g01287/laws.FnGcSafe", spec := "fnGcSafe", apart := false, narrowed := true }
def FnGcSafeUptoSaid : Prop := fnGcSafeUptoRow.holds Try.pinned (OpenSpec.upto fnGcSafeSpec)

/-- 'laws.FnExactGcSafe', WHERE WHAT IT READS IS OF BULK AT MOST 1048576: true; the input reads as it did. -/
def fnExactGcSafeUptoRow : OpenClaim := { program := "ytjjmjfoejpjopaa", sum := "621ced52d5b04892330f5467d36caacba0621778d0869902b3c0f1a821bc193f", func := "loop.example/g01287/laws.FnExactGcSafe", spec := "fnExactGcSafe", apart := false, narrowed := true }
def FnExactGcSafeUptoSaid : Prop := fnExactGcSafeUptoRow.holds Try.pinned (OpenSpec.upto fnExactGcSafeSpec)

/-- 'laws.FnExactGcBorn', WHERE WHAT IT READS IS OF BULK AT MOST 1048576: true; the input reads as it did. -/
def fnExactGcBornUptoRow : OpenClaim := { program := "ytjjmjfoejpjopaa", sum := "621ced52d5b04892330f5467d36caacba0621778d0869902b3c0f1a821bc193f", func := "loop.example/g01287/laws.FnExactGcBorn", spec := "fnExactGcBorn", apart := false, narrowed := true }
def FnExactGcBornUptoSaid : Prop := fnExactGcBornUptoRow.holds Try.pinned (OpenSpec.upto fnExactGcBornSpec)

/-- 'laws.FnExactGcShade', WHERE WHAT IT READS IS OF BULK AT MOST 1048576: true; the input reads as it did. -/
def fnExactGcShadeUptoRow : OpenClaim := { program := "ytjjmjfoejpjopaa", sum := "621ced52d5b04892330f5467d36caacba0621778d0869902b3c0f1a821bc193f", func := "loop.example/g01287/laws.FnExactGcShade", spec := "fnExactGcShade", apart := false, narrowed := true }
def FnExactGcShadeUptoSaid : Prop := fnExactGcShadeUptoRow.holds Try.pinned (OpenSpec.upto fnExactGcShadeSpec)

/-- 'laws.FnExactGcStep', WHERE WHAT IT READS IS OF BULK AT MOST 1048576: true; the input reads as it did. -/
def fnExactGcStepUptoRow : OpenClaim := { program := "ytjjmjfoejpjopaa", sum := "621ced52d5b04892330f5467d36caacba0621778d0869902b3c0f1a821bc193f", func := "loop.example/g01287/laws.FnExactGcStep", spec := "fnExactGcStep", apart := false, narrowed := true }
def FnExactGcStepUptoSaid : Prop := fnExactGcStepUptoRow.holds Try.pinned (OpenSpec.upto fnExactGcStepSpec)

end Rows
end Go.Proofs.Ytjjmjfoejpjopaa
