/-
  The law of things freed.
-/
import Derived.Test.YtjjmjfoejpjopaaAf
import Derived.Test.YtjjmjfoejpjopaaCt
import Derived.Test.YtjjmjfoejpjopaaLaw
namespace Go.Proofs.Ytjjmjfoejpjopaa.E
open Go Go.RowKit
set_option maxRecDepth 100000
set_option maxHeartbeats 4000000

theorem cO_bare (g : Int) (o : Obj) : cO (bareOf g) ≤ cO o := by unfold cO bareOf; simp
theorem cO_unlink (i : Int) (o : Obj) : cO (unlink i o) = cO o := by
  unfold unlink
  split
  · rfl
  · unfold cO; simp
theorem cA_set {l : List Obj} {i : Nat} {o : Obj} (h : ∀ h : i < l.length, cO o ≤ cO l[i]) : cA (l.set i o) ≤ cA l := by
  unfold cA
  induction l generalizing i with
  | nil => simp
  | cons a l ih =>
    cases i with
    | zero =>
      have := h (by simp)
      simp only [List.set_cons_zero, List.map_cons, List.sum_cons]
      simp only [List.getElem_cons_zero] at this
      omega
    | succ i =>
      have := ih (i := i) (fun hi => by have := h (by simpa using hi); simpa using this)
      simp only [List.set_cons_succ, List.map_cons, List.sum_cons]
      omega
theorem cA_map {f : Obj → Obj} (h : ∀ o, cO (f o) = cO o) (l : List Obj) : cA (l.map f) = cA l := by
  unfold cA
  rw [List.map_map]
  congr 1
  exact List.map_congr_left fun o _ => h o
theorem cA_freed (l : List Obj) (i : Nat) : cA (freed l i) ≤ cA l := by
  unfold freed
  rw [cA_map (cO_unlink i)]
  exact cA_set fun _ => cO_bare _ _
theorem cA_free (l : List Obj) (i : Int) : cA (arenaFree l i) ≤ cA l := by
  unfold arenaFree
  split
  · exact cA_freed _ _
  · exact Nat.le_refl _
theorem lim_cA {r x : Sl ObjL} (h : cA (r.l.map ObjL.pl) ≤ cA (x.l.map ObjL.pl)) (hx : ((x.tot ObjL.tot : Nat) : Int) ≤ 1048576) : 1 + Mkd.cnt r ≤ lim := by
  have h1 := cA_le (x.l.map ObjL.pl)
  rw [cnt_arena]
  rw [tot_arena] at hx
  unfold lim
  omega
end Go.Proofs.Ytjjmjfoejpjopaa.E
