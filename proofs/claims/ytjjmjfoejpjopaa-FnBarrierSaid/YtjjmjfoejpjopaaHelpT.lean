import Derived.Test.YtjjmjfoejpjopaaNumT
namespace Go.Proofs.Ytjjmjfoejpjopaa.E
open Go Go.RowKit

theorem take_step {α : Type} {a b : List α} {i : Nat} (ha : i < a.length) (hb : i < b.length) (h : a.take i = b.take i) (e : a[i] = b[i]) : a.take (i + 1) = b.take (i + 1) := by
  rw [List.take_succ_eq_append_getElem ha, List.take_succ_eq_append_getElem hb, h, e]
theorem take_ne {α : Type} {a b : List α} {i : Nat} (ha : i < a.length) (hb : i < b.length) (e : ¬ a[i] = b[i]) : a ≠ b := by
  rintro rfl; exact e rfl
theorem eqS_end {α : Type} {a b : List α} {n : Nat} (ha : a.length = n) (hb : b.length = n) (h : a.take n = b.take n) : a = b := by
  rw [List.take_of_length_le (by omega), List.take_of_length_le (by omega)] at h; exact h
def nums (k n : Nat) : List Int := (List.range n).map fun i : Nat => (k : Int) + (i : Int)
end Go.Proofs.Ytjjmjfoejpjopaa.E
