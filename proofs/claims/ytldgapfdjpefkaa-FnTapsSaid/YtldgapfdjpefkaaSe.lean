/-
  Structs compared with '=='.
-/
import Derived.Test.YtldgapfdjpefkaaNum
namespace Go.Proofs.Ytldgapfdjpefkaa.E
open Go Go.RowKit
set_option maxRecDepth 100000

instance : EqV Try.prog 147 Msg := ⟨fun d w x y => by
  have h := eqV_mk (P := Try.prog) (d := d + 3) (w := w) (xs := (Lod.cells x).toArray) (ys := (Lod.cells y).toArray) Try.underlying147 (by kernel_rfl) (l := [(false, tyInt, 0), (false, tyInt, 1)]) (by kernel_rfl)
    (eqF_int (d + 2) w und_int rfl rfl (eqF_int (d + 2) w und_int rfl rfl rfl))
  refine h.trans ?_
  congr 1
  obtain ⟨a, b⟩ := x
  obtain ⟨a', b'⟩ := y
  simp, by kernel_rfl⟩
theorem eq_amt (d : Nat) (w : World) (x y : Amt) : (Op.equalIn (d + 2) 68 (.agg (Lod.cells x).toArray) (.agg (Lod.cells y).toArray)).run Try.prog w = .ok (decide (x = y)) w := by
  have h := eqV_mk (P := Try.prog) (d := d + 1) (w := w) (xs := (Lod.cells x).toArray) (ys := (Lod.cells y).toArray) Try.underlying68 (by kernel_rfl) (l := [(false, tyInt, 0), (false, tyInt, 1), (false, tyInt, 2)]) (by kernel_rfl)
    (eqF_int d w und_int rfl rfl (eqF_int d w und_int rfl rfl (eqF_int d w und_int rfl rfl rfl)))
  refine h.trans ?_
  congr 1
  obtain ⟨a, b, c⟩ := x
  obtain ⟨a', b', c'⟩ := y
  simp
instance : EqV Try.prog 68 Amt := ⟨fun d => eq_amt (d + 2), by kernel_rfl⟩
instance : EqV Try.prog 89 Tap := ⟨fun d w x y => by
  have h := eqV_mk (P := Try.prog) (d := d + 3) (w := w) (xs := (Lod.cells x).toArray) (ys := (Lod.cells y).toArray) Try.underlying89 (by kernel_rfl) (l := [(false, tyInt, 0), (false, tyInt, 1), (false, tyInt, 2), (false, tyInt, 3), (false, tyInt, 4), (false, tyInt, 5)]) (by kernel_rfl)
    (eqF_int (d + 2) w und_int rfl rfl (eqF_int (d + 2) w und_int rfl rfl (eqF_int (d + 2) w und_int rfl rfl (eqF_int (d + 2) w und_int rfl rfl (eqF_int (d + 2) w und_int rfl rfl (eqF_int (d + 2) w und_int rfl rfl rfl))))))
  refine h.trans ?_
  congr 1
  obtain ⟨a, b, c, e, f, g⟩ := x
  obtain ⟨a', b', c', e', f', g'⟩ := y
  simp, by kernel_rfl⟩
instance : EqV Try.prog 100 Res := ⟨fun d w x y => by
  have h := eqV_mk (P := Try.prog) (d := d + 3) (w := w) (xs := (Lod.cells x).toArray) (ys := (Lod.cells y).toArray) Try.underlying100 (by kernel_rfl) (l := [(false, tyBool, 0), (false, tyInt, 1), (false, 68, 2)]) (by kernel_rfl)
    (eqF_bool (d + 2) w und_bool rfl rfl (eqF_int (d + 2) w und_int rfl rfl (eqF_str (eq_amt (d + 1) w x.bal y.bal) rfl rfl rfl)))
  refine h.trans ?_
  congr 1
  obtain ⟨a, b, c⟩ := x
  obtain ⟨a', b', c'⟩ := y
  simp, by kernel_rfl⟩
end Go.Proofs.Ytldgapfdjpefkaa.E
