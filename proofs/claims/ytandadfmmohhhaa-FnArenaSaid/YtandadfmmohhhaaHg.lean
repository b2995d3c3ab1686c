/-
  Slices of structs: contents, sizes, parts.
-/
import Derived.Test.YtandadfmmohhhaaHelp
namespace Go.Proofs.Ytandadfmmohhhaa.E
open Go Go.RowKit
set_option maxRecDepth 100000
set_option maxHeartbeats 4000000

section
variable {w0 : World} {L : List Atom}
theorem Imp.joinSpokeL (y : SpokeL) : Imp w0 (Own y.list :: L) (Own y :: L) := by
  refine Imp.swapTo (L := [Own y.list]) (M := [Own y]) ?_ ?_
  · show Lod.fp y ++ [] = _
    rw [List.append_nil]; rfl
  · intro w h A hA
    rw [List.mem_singleton] at hA
    subst hA
    intro p hp
    simp only [List.mem_cons, List.not_mem_nil, or_false] at hp
    subst hp
    exact h (Own y.list) (by simp)
theorem Imp.openSpokeL (y : SpokeL) : Imp w0 (Own y :: L) (Own y.list :: L) := by
  refine Imp.swapTo (M := [Own y.list]) (L := [Own y]) ?_ ?_
  · show _ = Lod.fp y ++ []
    rw [List.append_nil]; rfl
  · intro w h A hA
    have := h _ (List.mem_singleton.2 rfl)
    simp only [List.mem_cons, List.not_mem_nil, or_false] at hA
    subst hA
    exact this (pk y.list) (by simp)
theorem Imp.joinWheelL (y : WheelL) : Imp w0 (Own y.spokes :: L) (Own y :: L) := by
  refine Imp.swapTo (L := [Own y.spokes]) (M := [Own y]) ?_ ?_
  · show Lod.fp y ++ [] = _
    rw [List.append_nil]; rfl
  · intro w h A hA
    rw [List.mem_singleton] at hA
    subst hA
    intro p hp
    simp only [List.mem_cons, List.not_mem_nil, or_false] at hp
    subst hp
    exact h (Own y.spokes) (by simp)
theorem Imp.openWheelL (y : WheelL) : Imp w0 (Own y :: L) (Own y.spokes :: L) := by
  refine Imp.swapTo (M := [Own y.spokes]) (L := [Own y]) ?_ ?_
  · show _ = Lod.fp y ++ []
    rw [List.append_nil]; rfl
  · intro w h A hA
    have := h _ (List.mem_singleton.2 rfl)
    simp only [List.mem_cons, List.not_mem_nil, or_false] at hA
    subst hA
    exact this (pk y.spokes) (by simp)
theorem Imp.joinGcL (y : GcL) : Imp w0 (Own y.grey :: L) (Own y :: L) := by
  refine Imp.swapTo (L := [Own y.grey]) (M := [Own y]) ?_ ?_
  · show Lod.fp y ++ [] = _
    rw [List.append_nil]; rfl
  · intro w h A hA
    rw [List.mem_singleton] at hA
    subst hA
    intro p hp
    simp only [List.mem_cons, List.not_mem_nil, or_false] at hp
    subst hp
    exact h (Own y.grey) (by simp)
theorem Imp.openGcL (y : GcL) : Imp w0 (Own y :: L) (Own y.grey :: L) := by
  refine Imp.swapTo (M := [Own y.grey]) (L := [Own y]) ?_ ?_
  · show _ = Lod.fp y ++ []
    rw [List.append_nil]; rfl
  · intro w h A hA
    have := h _ (List.mem_singleton.2 rfl)
    simp only [List.mem_cons, List.not_mem_nil, or_false] at hA
    subst hA
    exact this (pk y.grey) (by simp)
theorem Imp.joinObjL (y : ObjL) : Imp w0 (Own y.links :: Own y.data :: Own y.queue :: L) (Own y :: L) := by
  refine Imp.swapTo (L := [Own y.links, Own y.data, Own y.queue]) (M := [Own y]) ?_ ?_
  · show Lod.fp y ++ [] = _
    rw [List.append_nil]; rfl
  · intro w h A hA
    rw [List.mem_singleton] at hA
    subst hA
    intro p hp
    simp only [List.mem_cons, List.not_mem_nil, or_false] at hp
    rcases hp with rfl | rfl | rfl
    · exact h (Own y.links) (by simp)
    · exact h (Own y.data) (by simp)
    · exact h (Own y.queue) (by simp)
theorem Imp.openObjL (y : ObjL) : Imp w0 (Own y :: L) (Own y.links :: Own y.data :: Own y.queue :: L) := by
  refine Imp.swapTo (M := [Own y.links, Own y.data, Own y.queue]) (L := [Own y]) ?_ ?_
  · show _ = Lod.fp y ++ []
    rw [List.append_nil]; rfl
  · intro w h A hA
    have := h _ (List.mem_singleton.2 rfl)
    simp only [List.mem_cons, List.not_mem_nil, or_false] at hA
    rcases hA with rfl | rfl | rfl
    · exact this (pk y.links) (by simp)
    · exact this (pk y.data) (by simp)
    · exact this (pk y.queue) (by simp)
theorem Imp.joinHeapL (y : HeapL) : Imp w0 (Own y.arena :: Own y.gc :: L) (Own y :: L) := by
  refine Imp.swapTo (L := [Own y.arena, Own y.gc]) (M := [Own y]) ?_ ?_
  · show Lod.fp y ++ [] = _
    rw [List.append_nil]; rfl
  · intro w h A hA
    rw [List.mem_singleton] at hA
    subst hA
    intro p hp
    simp only [List.mem_cons, List.not_mem_nil, or_false] at hp
    rcases hp with rfl | rfl
    · exact h (Own y.arena) (by simp)
    · exact h (Own y.gc) (by simp)
theorem Imp.openHeapL (y : HeapL) : Imp w0 (Own y :: L) (Own y.arena :: Own y.gc :: L) := by
  refine Imp.swapTo (M := [Own y.arena, Own y.gc]) (L := [Own y]) ?_ ?_
  · show _ = Lod.fp y ++ []
    rw [List.append_nil]; rfl
  · intro w h A hA
    have := h _ (List.mem_singleton.2 rfl)
    simp only [List.mem_cons, List.not_mem_nil, or_false] at hA
    rcases hA with rfl | rfl
    · exact this (pk y.arena) (by simp)
    · exact this (pk y.gc) (by simp)
theorem Imp.joinTreeL (y : TreeL) : Imp w0 (Own y.list :: L) (Own y :: L) := by
  refine Imp.swapTo (L := [Own y.list]) (M := [Own y]) ?_ ?_
  · show Lod.fp y ++ [] = _
    rw [List.append_nil]; rfl
  · intro w h A hA
    rw [List.mem_singleton] at hA
    subst hA
    intro p hp
    simp only [List.mem_cons, List.not_mem_nil, or_false] at hp
    subst hp
    exact h (Own y.list) (by simp)
theorem Imp.openTreeL (y : TreeL) : Imp w0 (Own y :: L) (Own y.list :: L) := by
  refine Imp.swapTo (M := [Own y.list]) (L := [Own y]) ?_ ?_
  · show _ = Lod.fp y ++ []
    rw [List.append_nil]; rfl
  · intro w h A hA
    have := h _ (List.mem_singleton.2 rfl)
    simp only [List.mem_cons, List.not_mem_nil, or_false] at hA
    subst hA
    exact this (pk y.list) (by simp)
theorem Imp.joinLabelL (y : LabelL) : Imp w0 (Own y.levels :: L) (Own y :: L) := by
  refine Imp.swapTo (L := [Own y.levels]) (M := [Own y]) ?_ ?_
  · show Lod.fp y ++ [] = _
    rw [List.append_nil]; rfl
  · intro w h A hA
    rw [List.mem_singleton] at hA
    subst hA
    intro p hp
    simp only [List.mem_cons, List.not_mem_nil, or_false] at hp
    subst hp
    exact h (Own y.levels) (by simp)
theorem Imp.openLabelL (y : LabelL) : Imp w0 (Own y :: L) (Own y.levels :: L) := by
  refine Imp.swapTo (M := [Own y.levels]) (L := [Own y]) ?_ ?_
  · show _ = Lod.fp y ++ []
    rw [List.append_nil]; rfl
  · intro w h A hA
    have := h _ (List.mem_singleton.2 rfl)
    simp only [List.mem_cons, List.not_mem_nil, or_false] at hA
    subst hA
    exact this (pk y.levels) (by simp)
theorem Imp.joinPartL (y : PartL) : Imp w0 (Own y.label :: Own y.own :: Own y.tree :: Own y.heap :: Own y.taps :: L) (Own y :: L) := by
  refine Imp.swapTo (L := [Own y.label, Own y.own, Own y.tree, Own y.heap, Own y.taps]) (M := [Own y]) ?_ ?_
  · show Lod.fp y ++ [] = _
    rw [List.append_nil]; rfl
  · intro w h A hA
    rw [List.mem_singleton] at hA
    subst hA
    intro p hp
    simp only [List.mem_cons, List.not_mem_nil, or_false] at hp
    rcases hp with rfl | rfl | rfl | rfl | rfl
    · exact h (Own y.label) (by simp)
    · exact h (Own y.own) (by simp)
    · exact h (Own y.tree) (by simp)
    · exact h (Own y.heap) (by simp)
    · exact h (Own y.taps) (by simp)
theorem Imp.openPartL (y : PartL) : Imp w0 (Own y :: L) (Own y.label :: Own y.own :: Own y.tree :: Own y.heap :: Own y.taps :: L) := by
  refine Imp.swapTo (M := [Own y.label, Own y.own, Own y.tree, Own y.heap, Own y.taps]) (L := [Own y]) ?_ ?_
  · show _ = Lod.fp y ++ []
    rw [List.append_nil]; rfl
  · intro w h A hA
    have := h _ (List.mem_singleton.2 rfl)
    simp only [List.mem_cons, List.not_mem_nil, or_false] at hA
    rcases hA with rfl | rfl | rfl | rfl | rfl
    · exact this (pk y.label) (by simp)
    · exact this (pk y.own) (by simp)
    · exact this (pk y.tree) (by simp)
    · exact this (pk y.heap) (by simp)
    · exact this (pk y.taps) (by simp)
end

section
variable {α β γ : Type}
theorem ne_n (f : α → β) {a b : Sl α} (h : ¬ (a.n : Int) = b.n) : ¬ a.l.map f = b.l.map f := fun e => h (by
  have := congrArg List.length e
  rw [List.length_map, List.length_map, a.hn, b.hn] at this
  omega)
theorem ne_nth (f : α → β) {a b : Sl α} {i : Nat} (ha : i < a.n) (hb : i < b.n) (h : ¬ f (a.nth i ha) = f (b.nth i hb)) : ¬ a.l.map f = b.l.map f := fun e => h (by
  have h1 : (a.l.map f)[i]? = (b.l.map f)[i]? := by rw [e]
  rw [List.getElem?_map, List.getElem?_map, List.getElem?_eq_getElem (by rw [a.hn]; exact ha), List.getElem?_eq_getElem (by rw [b.hn]; exact hb)] at h1
  exact Option.some.inj h1)
theorem eq_step (f : α → β) {a b : Sl α} {i : Nat} (ha : i < a.n) (hb : i < b.n) (h : (a.l.take i).map f = (b.l.take i).map f) (e : f (a.nth i ha) = f (b.nth i hb)) : (a.l.take (i + 1)).map f = (b.l.take (i + 1)).map f := by
  rw [List.take_succ_eq_append_getElem (by rw [a.hn]; exact ha), List.take_succ_eq_append_getElem (by rw [b.hn]; exact hb), List.map_append, List.map_append, h]
  exact congrArg (fun x => (b.l.take i).map f ++ [x]) e
theorem eq_full (f : α → β) {a b : Sl α} {n : Nat} (ha : a.n = n) (hb : b.n = n) (h : (a.l.take n).map f = (b.l.take n).map f) : a.l.map f = b.l.map f := by
  rw [List.take_of_length_le (by rw [a.hn]; omega), List.take_of_length_le (by rw [b.hn]; omega)] at h; exact h
theorem upd_step (f : α → β) {a : Sl γ} {r : Sl α} (g : γ → β) {i : Nat} (ha : i < a.n) (hr : i < r.n) {y : α} (h : (r.l.take i).map f = (a.l.take i).map g) (e : f y = g (a.l[i]'(by rw [a.hn]; exact ha))) : ((r.upd i y).l.take (i + 1)).map f = (a.l.take (i + 1)).map g := by
  show ((r.l.set i y).take (i + 1)).map f = _
  rw [List.take_succ_eq_append_getElem (by rw [List.length_set, r.hn]; exact hr), List.take_succ_eq_append_getElem (by rw [a.hn]; exact ha), List.map_append, List.map_append, List.take_set_of_le (Nat.le_refl _), h]
  simp [e]
theorem upd_full (f : α → β) {a : Sl γ} {r : Sl α} (g : γ → β) {n : Nat} (ha : a.n = n) (hr : r.n = n) (h : (r.l.take n).map f = (a.l.take n).map g) : r.l.map f = a.l.map g := by
  rw [List.take_of_length_le (by rw [r.hn]; omega), List.take_of_length_le (by rw [a.hn]; omega)] at h; exact h
/-- The sum of a size over a slice. -/
def Sl.tot (t : α → Nat) (s : Sl α) : Nat := s.n + (s.l.map t).sum
theorem le_sum_mem {l : List Nat} {x : Nat} (h : x ∈ l) : x ≤ l.sum := by
  induction l with
  | nil => cases h
  | cons y l ih =>
    rw [List.sum_cons]
    rcases List.mem_cons.1 h with rfl | h
    · exact Nat.le_add_right _ _
    · exact Nat.le_trans (ih h) (Nat.le_add_left _ _)
theorem tot_nth (t : α → Nat) {s : Sl α} (i : Nat) (hi : i < s.n) : t (s.nth i hi) ≤ s.tot t := by
  have : t (s.nth i hi) ≤ (s.l.map t).sum := le_sum_mem (List.mem_map.2 ⟨_, List.getElem_mem (by rw [s.hn]; exact hi), rfl⟩)
  unfold Sl.tot; omega
theorem tot_n (t : α → Nat) (s : Sl α) : s.n ≤ s.tot t := Nat.le_add_right _ _
theorem sum_take_succ (t : α → Nat) {s : Sl α} {i : Nat} (hi : i < s.n) : ((s.l.take (i + 1)).map t).sum = ((s.l.take i).map t).sum + t (s.nth i hi) := by
  rw [List.take_succ_eq_append_getElem (by rw [s.hn]; exact hi), List.map_append, List.sum_append]
  simp [Sl.nth]
theorem sum_take_le (t : α → Nat) (s : Sl α) (i : Nat) : ((s.l.take i).map t).sum ≤ (s.l.map t).sum := by
  conv => rhs; rw [← List.take_append_drop i s.l, List.map_append, List.sum_append]
  exact Nat.le_add_right _ _
theorem sum_take_all (t : α → Nat) (s : Sl α) : ((s.l.take s.n).map t).sum = (s.l.map t).sum := by
  rw [List.take_of_length_le (by rw [s.hn]; exact Nat.le_refl _)]
def Sl.zero : Sl α := ⟨none, 0, 0, [], rfl⟩
theorem Sl.zero_own [Lod α] (w : World) : Lod.own w (Sl.zero : Sl α) := ⟨Nat.zero_le _, (fun _ h => nomatch h), .inl ⟨rfl, rfl⟩⟩
end
/-- What is left of k after t; -1 where it does not fit. -/
def szv (k : Int) (t : Nat) : Int := if k - t < 0 then -1 else k - t
theorem szv_neg {k : Int} {t : Nat} (h : k < t) : szv k t = -1 := if_pos (by omega)
theorem szv_nn {k : Int} {t : Nat} (h : (t : Int) ≤ k) : szv k t = k - t := if_neg (by omega)
theorem szv_lt {k : Int} {t : Nat} (h : szv k t < 0) : k < t := by unfold szv at h; split at h <;> omega
theorem szv_ge {k : Int} {t : Nat} (h : ¬ szv k t < 0) : (t : Int) ≤ k ∧ szv k t = k - t := by unfold szv at h ⊢; split at h <;> rename_i h' <;> simp_all; omega

theorem szv_mono {k : Int} {a b : Nat} (h : szv k a < 0) (hab : a ≤ b) : szv k b = -1 := szv_neg (by have := szv_lt h; omega)
theorem FI_cast {f : FuncId} {args : List Value} {w : World} {z z' : Int} (h : FI f args w z) (e : z = z') : FI f args w z' := e ▸ h
theorem szv_le {k : Int} (t : Nat) (h : k ≤ 1048576) : szv k t ≤ 1048576 := by unfold szv; split <;> omega
theorem szv_two {k : Int} {a b : Nat} (h : ¬ szv k a < 0) : szv (szv k a) b = szv k (a + b) := by
  have := szv_ge h
  rw [this.2]; unfold szv; split <;> split <;> omega
theorem szv_m {k : Int} {a : Nat} (b : Nat) (h : szv k a < 0) : szv k (a + b) = -1 := szv_neg (by have := szv_lt h; omega)
theorem szv_m1 {k : Int} {a : Nat} (h : szv k a < 0) : szv k a = -1 := szv_neg (szv_lt h)

def SpokeL.tot (x : SpokeL) : Nat := x.list.n
def WheelL.tot (x : WheelL) : Nat := x.spokes.tot SpokeL.tot
def GcL.tot (x : GcL) : Nat := x.grey.n
def ObjL.tot (x : ObjL) : Nat := x.links.n + x.data.n + x.queue.n
def HeapL.tot (x : HeapL) : Nat := x.arena.tot ObjL.tot + x.gc.tot
def TreeL.tot (x : TreeL) : Nat := x.list.n
def LabelL.tot (x : LabelL) : Nat := x.levels.n
def PartL.tot (x : PartL) : Nat := x.label.tot + x.own.n + x.tree.n + x.heap.tot + x.taps.n
def SpokeL.zero : SpokeL := ⟨Sl.zero⟩
def ObjL.zero : ObjL := ⟨0, 0, 0, 0, 0, 0, 0, 0, 0, false, Sl.zero, Sl.zero, Sl.zero⟩
def TreeL.zero : TreeL := ⟨Sl.zero⟩
theorem SpokeL.zero_own (w : World) : Lod.own w SpokeL.zero := fun p hp => by
  simp only [List.mem_cons, List.not_mem_nil, or_false] at hp
  subst hp; exact Sl.zero_own (α := Timer) w
theorem TreeL.zero_own (w : World) : Lod.own w TreeL.zero := fun p hp => by
  simp only [List.mem_cons, List.not_mem_nil, or_false] at hp
  subst hp; exact Sl.zero_own (α := Res) w
theorem ObjL.zero_own (w : World) : Lod.own w ObjL.zero := fun p hp => by
  simp only [List.mem_cons, List.not_mem_nil, or_false] at hp
  rcases hp with rfl | rfl | rfl
  · exact Sl.zero_own (α := Int) w
  · exact Sl.zero_own (α := Int) w
  · exact Sl.zero_own (α := Msg) w
end Go.Proofs.Ytandadfmmohhhaa.E
