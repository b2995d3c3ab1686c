/-
  Structs compared with '=='.
-/
import Derived.Test.YtcmdoiilncmfbaaNum
namespace Go.Proofs.Ytcmdoiilncmfbaa.E
open Go Go.RowKit
set_option maxRecDepth 100000

instance : EqV Try.prog 116 Msg := ⟨fun d w x y => by
  have h := eqV_mk (P := Try.prog) (d := d + 3) (w := w) (xs := (Lod.cells x).toArray) (ys := (Lod.cells y).toArray) Try.underlying116 (by kernel_rfl) (l := [(false, tyInt, 0), (false, tyInt, 1)]) (by kernel_rfl)
    (eqF_int (d + 2) w und_int rfl rfl (eqF_int (d + 2) w und_int rfl rfl rfl))
  refine h.trans ?_
  congr 1
  obtain ⟨a, b⟩ := x
  obtain ⟨a', b'⟩ := y
  simp, by kernel_rfl⟩
theorem eq_amt (d : Nat) (w : World) (x y : Amt) : (Op.equalIn (d + 2) 45 (.agg (Lod.cells x).toArray) (.agg (Lod.cells y).toArray)).run Try.prog w = .ok (decide (x = y)) w := by
  have h := eqV_mk (P := Try.prog) (d := d + 1) (w := w) (xs := (Lod.cells x).toArray) (ys := (Lod.cells y).toArray) Try.underlying45 (by kernel_rfl) (l := [(false, tyInt, 0), (false, tyInt, 1), (false, tyInt, 2)]) (by kernel_rfl)
    (eqF_int d w und_int rfl rfl (eqF_int d w und_int rfl rfl (eqF_int d w und_int rfl rfl rfl)))
  refine h.trans ?_
  congr 1
  obtain ⟨a, b, c⟩ := x
  obtain ⟨a', b', c'⟩ := y
  simp
instance : EqV Try.prog 45 Amt := ⟨fun d => eq_amt (d + 2), by kernel_rfl⟩
instance : EqV Try.prog 79 Tap := ⟨fun d w x y => by
  have h := eqV_mk (P := Try.prog) (d := d + 3) (w := w) (xs := (Lod.cells x).toArray) (ys := (Lod.cells y).toArray) Try.underlying79 (by kernel_rfl) (l := [(false, tyInt, 0), (false, tyInt, 1), (false, tyInt, 2), (false, tyInt, 3), (false, tyInt, 4), (false, tyInt, 5)]) (by kernel_rfl)
    (eqF_int (d + 2) w und_int rfl rfl (eqF_int (d + 2) w und_int rfl rfl (eqF_int (d + 2) w und_int rfl rfl (eqF_int (d + 2) w und_int rfl rfl (eqF_int (d + 2) w und_int rfl rfl (eqF_int (d + 2) w und_int rfl rfl rfl))))))
  refine h.trans ?_
  congr 1
  obtain ⟨a, b, c, e, f, g⟩ := x
  obtain ⟨a', b', c', e', f', g'⟩ := y
  simp, by kernel_rfl⟩
instance : EqV Try.prog 77 Res := ⟨fun d w x y => by
  have h := eqV_mk (P := Try.prog) (d := d + 3) (w := w) (xs := (Lod.cells x).toArray) (ys := (Lod.cells y).toArray) Try.underlying77 (by kernel_rfl) (l := [(false, tyBool, 0), (false, tyInt, 1), (false, 45, 2)]) (by kernel_rfl)
    (eqF_bool (d + 2) w und_bool rfl rfl (eqF_int (d + 2) w und_int rfl rfl (eqF_str (eq_amt (d + 1) w x.bal y.bal) rfl rfl rfl)))
  refine h.trans ?_
  congr 1
  obtain ⟨a, b, c⟩ := x
  obtain ⟨a', b', c'⟩ := y
  simp, by kernel_rfl⟩
end Go.Proofs.Ytcmdoiilncmfbaa.E
