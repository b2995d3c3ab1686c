/-
  No cell of these rows narrows 'for every input' (looked for: loops, veiled, ifaces, maps, wideKeys, modest, calm, conditions, laid).
  DERIVED. THE GIVEN ROWS OF THIS SEAT. 7 by the template 'for every input the law returns true; each argument reads behind the call as it read before'; 0 by the template 'total and deterministic' (their statements: YtcmdoiilncmfbaaTotals.lean).
  GIVEN WITH THE SEED: the statements are not yours to turn. If you find one false, say at which input.
  Laid BY PROGRAM, IN A SANDBOX (cutbox-rows.mjs): the forced cells as the released guide's own fill.sh prints them over the translation 04e6c0fb5bc3a21c… (all of the seat's roots in one cut). By AI agents, Wed Nov 11 2026. No macro, syntax, notation, axiom, sorry.
-/
import Derived.Test.YtcmdoiilncmfbaaChecked
import GoSem.Claim
import GoSem.ClaimJoined
import GoSem.ClaimMapViews
import Derived.JoinedTies
import Derived.KernelRfl
namespace Go.Proofs.Ytcmdoiilncmfbaa
/- THE CELL 'sum', in the pinned program and in every row, IS THE sha256 OF THE DUMP (.gsa) THAT YtcmdoiilncmfbaaProg.lean LOADS. Nothing in Lean hashes anything: it is a label: what it is worth is what the hold of that sum in a sandbox is worth. -/
noncomputable def Try.pinned : Pinned := { name := "ytcmdoiilncmfbaa", sum := "04e6c0fb5bc3a21c61731813400d481277d66d86725dff62f27e7c0f6bdadfad", checked := Try.checked }
namespace Rows
def none {H : Type} : Left H := { results := [], args := [] }

/-- 'laws.FnExactResOf': WHATEVER THE INPUT: true; the input reads as it did. -/
def fnExactResOfSpec : ChangeSpec := { name := "fnExactResOf", fn := fun _ => fun
  | [d1, d2] => { results := [.lit (.bool true)], args := [d1, d2] }
  | _ => none }
def fnExactResOfRow : OpenClaim := { program := "ytcmdoiilncmfbaa", sum := "04e6c0fb5bc3a21c61731813400d481277d66d86725dff62f27e7c0f6bdadfad", func := "loop.example/g01287/laws.FnExactResOf", spec := "fnExactResOf", apart := false }
def FnExactResOfSaid : Prop := fnExactResOfRow.holds Try.pinned (OpenSpec.ofChange fnExactResOfSpec)

/-- ITS FALSE NEIGHBOUR: 'it returns false'. Refute it at one input. -/
def fnExactResOfWrong : ChangeSpec := { name := "fnExactResOf", fn := fun _ => fun
  | [d1, d2] => { results := [.lit (.bool false)], args := [d1, d2] }
  | _ => none }
def FnExactResOfWrongFalsely : Prop := fnExactResOfRow.holds Try.pinned (OpenSpec.ofChange fnExactResOfWrong)

/-- 'laws.FnExactSamePart': WHATEVER THE INPUT: true; the input reads as it did. -/
def fnExactSamePartSpec : ChangeSpec := { name := "fnExactSamePart", fn := fun _ => fun
  | [d1, d2] => { results := [.lit (.bool true)], args := [d1, d2] }
  | _ => none }
def fnExactSamePartRow : OpenClaim := { program := "ytcmdoiilncmfbaa", sum := "04e6c0fb5bc3a21c61731813400d481277d66d86725dff62f27e7c0f6bdadfad", func := "loop.example/g01287/laws.FnExactSamePart", spec := "fnExactSamePart", unfollowed := true, recurses := true, apart := false }
def FnExactSamePartSaid : Prop := fnExactSamePartRow.holds Try.pinned (OpenSpec.ofChange fnExactSamePartSpec)

/-- ITS FALSE NEIGHBOUR: 'it returns false'. Refute it at one input. -/
def fnExactSamePartWrong : ChangeSpec := { name := "fnExactSamePart", fn := fun _ => fun
  | [d1, d2] => { results := [.lit (.bool false)], args := [d1, d2] }
  | _ => none }
def FnExactSamePartWrongFalsely : Prop := fnExactSamePartRow.holds Try.pinned (OpenSpec.ofChange fnExactSamePartWrong)

/-- 'laws.FnExactHeld': WHATEVER THE INPUT: true; the input reads as it did. -/
def fnExactHeldSpec : ChangeSpec := { name := "fnExactHeld", fn := fun _ => fun
  | [d] => { results := [.lit (.bool true)], args := [d] }
  | _ => none }
def fnExactHeldRow : OpenClaim := { program := "ytcmdoiilncmfbaa", sum := "04e6c0fb5bc3a21c61731813400d481277d66d86725dff62f27e7c0f6bdadfad", func := "loop.example/g01287/laws.FnExactHeld", spec := "fnExactHeld", apart := false }
def FnExactHeldSaid : Prop := fnExactHeldRow.holds Try.pinned (OpenSpec.ofChange fnExactHeldSpec)

/-- ITS FALSE NEIGHBOUR: 'it returns false'. Refute it at one input. -/
def fnExactHeldWrong : ChangeSpec := { name := "fnExactHeld", fn := fun _ => fun
  | [d] => { results := [.lit (.bool false)], args := [d] }
  | _ => none }
def FnExactHeldWrongFalsely : Prop := fnExactHeldRow.holds Try.pinned (OpenSpec.ofChange fnExactHeldWrong)

/-- 'laws.FnExactPartSum': WHATEVER THE INPUT: true; the input reads as it did. -/
def fnExactPartSumSpec : ChangeSpec := { name := "fnExactPartSum", fn := fun _ => fun
  | [d] => { results := [.lit (.bool true)], args := [d] }
  | _ => none }
def fnExactPartSumRow : OpenClaim := { program := "ytcmdoiilncmfbaa", sum := "04e6c0fb5bc3a21c61731813400d481277d66d86725dff62f27e7c0f6bdadfad", func := "loop.example/g01287/laws.FnExactPartSum", spec := "fnExactPartSum", apart := false }
def FnExactPartSumSaid : Prop := fnExactPartSumRow.holds Try.pinned (OpenSpec.ofChange fnExactPartSumSpec)

/-- ITS FALSE NEIGHBOUR: 'it returns false'. Refute it at one input. -/
def fnExactPartSumWrong : ChangeSpec := { name := "fnExactPartSum", fn := fun _ => fun
  | [d] => { results := [.lit (.bool false)], args := [d] }
  | _ => none }
def FnExactPartSumWrongFalsely : Prop := fnExactPartSumRow.holds Try.pinned (OpenSpec.ofChange fnExactPartSumWrong)

/-- 'laws.FnExactPartOk': WHATEVER THE INPUT: true; the input reads as it did. -/
def fnExactPartOkSpec : ChangeSpec := { name := "fnExactPartOk", fn := fun _ => fun
  | [d] => { results := [.lit (.bool true)], args := [d] }
  | _ => none }
def fnExactPartOkRow : OpenClaim := { program := "ytcmdoiilncmfbaa", sum := "04e6c0fb5bc3a21c61731813400d481277d66d86725dff62f27e7c0f6bdadfad", func := "loop.example/g01287/laws.FnExactPartOk", spec := "fnExactPartOk", apart := false }
def FnExactPartOkSaid : Prop := fnExactPartOkRow.holds Try.pinned (OpenSpec.ofChange fnExactPartOkSpec)

/-- ITS FALSE NEIGHBOUR: 'it returns false'. Refute it at one input. -/
def fnExactPartOkWrong : ChangeSpec := { name := "fnExactPartOk", fn := fun _ => fun
  | [d] => { results := [.lit (.bool false)], args := [d] }
  | _ => none }
def FnExactPartOkWrongFalsely : Prop := fnExactPartOkRow.holds Try.pinned (OpenSpec.ofChange fnExactPartOkWrong)

/-- 'laws.FnExactVictim': WHATEVER THE INPUT: true; the input reads as it did. -/
def fnExactVictimSpec : ChangeSpec := { name := "fnExactVictim", fn := fun _ => fun
  | [d1, d2] => { results := [.lit (.bool true)], args := [d1, d2] }
  | _ => none }
def fnExactVictimRow : OpenClaim := { program := "ytcmdoiilncmfbaa", sum := "04e6c0fb5bc3a21c61731813400d481277d66d86725dff62f27e7c0f6bdadfad", func := "loop.example/g01287/laws.FnExactVictim", spec := "fnExactVictim", apart := false }
def FnExactVictimSaid : Prop := fnExactVictimRow.holds Try.pinned (OpenSpec.ofChange fnExactVictimSpec)

/-- ITS FALSE NEIGHBOUR: 'it returns false'. Refute it at one input. -/
def fnExactVictimWrong : ChangeSpec := { name := "fnExactVictim", fn := fun _ => fun
  | [d1, d2] => { results := [.lit (.bool false)], args := [d1, d2] }
  | _ => none }
def FnExactVictimWrongFalsely : Prop := fnExactVictimRow.holds Try.pinned (OpenSpec.ofChange fnExactVictimWrong)

/-- 'laws.FnExactThreads': WHATEVER THE INPUT: true; the input reads as it did. -/
def fnExactThreadsSpec : ChangeSpec := { name := "fnExactThreads", fn := fun _ => fun
  | [d1, d2] => { results := [.lit (.bool true)], args := [d1, d2] }
  | _ => none }
def fnExactThreadsRow : OpenClaim := { program := "ytcmdoiilncmfbaa", sum := "04e6c0fb5bc3a21c61731813400d481277d66d86725dff62f27e7c0f6bdadfad", func := "loop.example/g01287/laws.FnExactThreads", spec := "fnExactThreads", apart := false }
def FnExactThreadsSaid : Prop := fnExactThreadsRow.holds Try.pinned (OpenSpec.ofChange fnExactThreadsSpec)

/-- ITS FALSE NEIGHBOUR: 'it returns false'. Refute it at one input. -/
def fnExactThreadsWrong : ChangeSpec := { name := "fnExactThreads", fn := fun _ => fun
  | [d1, d2] => { results := [.lit (.bool false)], args := [d1, d2] }
  | _ => none }
def FnExactThreadsWrongFalsely : Prop := fnExactThreadsRow.holds Try.pinned (OpenSpec.ofChange fnExactThreadsWrong)

/- THE SECOND FORM. 'bulk': how many values and letters a reading holds, each counted each time it is reached (what is shared counts as often as it is met; a slice's spare places count too). A statement '..UptoSaid' is the law's where the arguments, and the package variables that the reading takes, are together of bulk at most 1048576: NARROWER than '..Said'. Prove '..Said' where nothing that the law and all that it calls make is longer than what came in: it says more and counts as full. Else prove '..UptoSaid'. A law counts once. -/
mutual
def uptoBulk {H : Type} : DataW H → Nat
  | .lit (.string bytes) => bytes.length + 1
  | .lit _ => 1
  | .nil => 1
  | .ptr d => uptoBulk d + 1
  | .slice elems spare => uptoBulkAll elems + uptoBulkAll spare + 1
  | .agg parts => uptoBulkAll parts + 1
  | .iface _ d => uptoBulk d + 1
  | .map entries => uptoBulkEntries entries + 1
  | .held _ => 1
def uptoBulkAll {H : Type} : List (DataW H) → Nat
  | [] => 0
  | d :: r => uptoBulk d + uptoBulkAll r
def uptoBulkEntries {H : Type} : List (Lit × DataW H) → Nat
  | [] => 0
  | x :: r => uptoBulkEntry x + uptoBulkEntries r
def uptoBulkEntry {H : Type} : Lit × DataW H → Nat
  | (.string bytes, d) => bytes.length + uptoBulk d + 1
  | (_, d) => uptoBulk d + 1
 end
def uptoSmall : (H : Type) → List (DataW H) → Bool := fun _ ds => decide (uptoBulkAll ds ≤ 1048576)
def OpenSpec.upto (s : _root_.Go.ChangeSpec) : _root_.Go.OpenSpec := { _root_.Go.OpenSpec.ofChange s with cond := some uptoSmall }

/-- 'laws.FnExactResOf', WHERE WHAT IT READS IS OF BULK AT MOST 1048576: true; the input reads as it did. -/
def fnExactResOfUptoRow : OpenClaim := { program := "ytcmdoiilncmfbaa", sum := "04e6c0fb5bc3a21c61731813400d481277d66d86725dff62f27e7c0f6bdadfad", func := "loop.example/g01287/laws.FnExactResOf", spec := "fnExactResOf", apart := false, narrowed := true }
def FnExactResOfUptoSaid : Prop := fnExactResOfUptoRow.holds Try.pinned (OpenSpec.upto fnExactResOfSpec)

/-- 'laws.FnExactSamePart', WHERE WHAT IT READS IS OF BULK AT MOST 1048576: true; the input reads as it did. -/
def fnExactSamePartUptoRow : OpenClaim := { program := "ytcmdoiilncmfbaa", sum := "04e6c0fb5bc3a21c61731813400d481277d66d86725dff62f27e7c0f6bdadfad", func := "loop.example/g01287/laws.FnExactSamePart", spec := "fnExactSamePart", unfollowed := true, recurses := true, apart := false, narrowed := true }
def FnExactSamePartUptoSaid : Prop := fnExactSamePartUptoRow.holds Try.pinned (OpenSpec.upto fnExactSamePartSpec)

/-- 'laws.FnExactHeld', WHERE WHAT IT READS IS OF BULK AT MOST 1048576: true; the input reads as it did. -/
def fnExactHeldUptoRow : OpenClaim := { program := "ytcmdoiilncmfbaa", sum := "04e6c0fb5bc3a21c61731813400d481277d66d86725dff62f27e7c0f6bdadfad", func := "loop.example/g01287/laws.FnExactHeld", spec := "fnExactHeld", apart := false, narrowed := true }
def FnExactHeldUptoSaid : Prop := fnExactHeldUptoRow.holds Try.pinned (OpenSpec.upto fnExactHeldSpec)

/-- 'laws.FnExactPartSum', WHERE WHAT IT READS IS OF BULK AT MOST 1048576: true; the input reads as it did. -/
def fnExactPartSumUptoRow : OpenClaim := { program := "ytcmdoiilncmfbaa", sum := "04e6c0fb5bc3a21c61731813400d481277d66d86725dff62f27e7c0f6bdadfad", func := "loop.example/g01287/laws.FnExactPartSum", spec := "fnExactPartSum", apart := false, narrowed := true }
def FnExactPartSumUptoSaid : Prop := fnExactPartSumUptoRow.holds Try.pinned (OpenSpec.upto fnExactPartSumSpec)

/-- 'laws.FnExactPartOk', WHERE WHAT IT READS IS OF BULK AT MOST 1048576: true; the input reads as it did. -/
def fnExactPartOkUptoRow : OpenClaim := { program := "ytcmdoiilncmfbaa", sum := "04e6c0fb5bc3a21c61731813400d481277d66d86725dff62f27e7c0f6bdadfad", func := "loop.example/g01287/laws.FnExactPartOk", spec := "fnExactPartOk", apart := false, narrowed := true }
def FnExactPartOkUptoSaid : Prop := fnExactPartOkUptoRow.holds Try.pinned (OpenSpec.upto fnExactPartOkSpec)

/-- 'laws.FnExactVictim', WHERE WHAT IT READS IS OF BULK AT MOST 1048576: true; the input reads as it did. -/
def fnExactVictimUptoRow : OpenClaim := { program := "ytcmdoiilncmfbaa", sum := "04e6c0fb5bc3a21c61731813400d481277d66d86725dff62f27e7c0f6bdadfad", func := "loop.example/g01287/laws.FnExactVictim", spec := "fnExactVictim", apart := false, narrowed := true }
def FnExactVictimUptoSaid : Prop := fnExactVictimUptoRow.holds Try.pinned (OpenSpec.upto fnExactVictimSpec)

/-- 'laws.FnExactThreads', WHERE WHAT IT READS IS OF BULK AT MOST 1048576: true; the input reads as it did. -/
def fnExactThreadsUptoRow : OpenClaim := { program := "ytcmdoiilncmfbaa", sum := "04e6c0fb5bc3a21c61731813400d481277d66d86725dff62f27e7c0f6bdadfad", func := "loop.example/g01287/laws.FnExactThreads", spec := "fnExactThreads", apart := false, narrowed := true }
def FnExactThreadsUptoSaid : Prop := fnExactThreadsUptoRow.holds Try.pinned (OpenSpec.upto fnExactThreadsSpec)

end Rows
end Go.Proofs.Ytcmdoiilncmfbaa
