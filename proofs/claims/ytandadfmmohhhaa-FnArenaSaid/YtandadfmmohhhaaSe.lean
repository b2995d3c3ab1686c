/-
  Structs compared with '=='.
-/
import Derived.Test.YtandadfmmohhhaaNum
namespace Go.Proofs.Ytandadfmmohhhaa.E
open Go Go.RowKit
set_option maxRecDepth 100000

instance : EqV Try.prog 82 Msg := ⟨fun d w x y => by
  have h := eqV_mk (P := Try.prog) (d := d + 3) (w := w) (xs := (Lod.cells x).toArray) (ys := (Lod.cells y).toArray) Try.underlying82 (by kernel_rfl) (l := [(false, tyInt, 0), (false, tyInt, 1)]) (by kernel_rfl)
    (eqF_int (d + 2) w und_int rfl rfl (eqF_int (d + 2) w und_int rfl rfl rfl))
  refine h.trans ?_
  congr 1
  obtain ⟨a, b⟩ := x
  obtain ⟨a', b'⟩ := y
  simp, by kernel_rfl⟩
end Go.Proofs.Ytandadfmmohhhaa.E
