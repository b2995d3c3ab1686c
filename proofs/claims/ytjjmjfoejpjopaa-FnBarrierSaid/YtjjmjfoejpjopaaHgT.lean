import Derived.Test.YtjjmjfoejpjopaaHelpT
namespace Go.Proofs.Ytjjmjfoejpjopaa.E
open Go Go.RowKit
set_option maxRecDepth 100000
set_option maxHeartbeats 4000000

section
variable {w0 : World} {L : List Atom}
theorem Imp.joinGcL (y : GcL) : Imp w0 (Own y.grey :: L) (Own y :: L) := by
  refine Imp.swapTo (L := [Own y.grey]) (M := [Own y]) ?_ ?_
  · show Lod.fp y ++ [] = _
    rw [List.append_nil]; rfl
  · intro w h A hA
    rw [List.mem_singleton] at hA
    subst hA
    intro p hp
    simp only [List.mem_cons, List.not_mem_nil, or_false] at hp
    subst hp
    exact h (Own y.grey) (by simp)
theorem Imp.openGcL (y : GcL) : Imp w0 (Own y :: L) (Own y.grey :: L) := by
  refine Imp.swapTo (M := [Own y.grey]) (L := [Own y]) ?_ ?_
  · show _ = Lod.fp y ++ []
    rw [List.append_nil]; rfl
  · intro w h A hA
    have := h _ (List.mem_singleton.2 rfl)
    simp only [List.mem_cons, List.not_mem_nil, or_false] at hA
    subst hA
    exact this (pk y.grey) (by simp)
theorem Imp.joinObjL (y : ObjL) : Imp w0 (Own y.links :: Own y.data :: Own y.queue :: L) (Own y :: L) := by
  refine Imp.swapTo (L := [Own y.links, Own y.data, Own y.queue]) (M := [Own y]) ?_ ?_
  · show Lod.fp y ++ [] = _
    rw [List.append_nil]; rfl
  · intro w h A hA
    rw [List.mem_singleton] at hA
    subst hA
    intro p hp
    simp only [List.mem_cons, List.not_mem_nil, or_false] at hp
    rcases hp with rfl | rfl | rfl
    · exact h (Own y.links) (by simp)
    · exact h (Own y.data) (by simp)
    · exact h (Own y.queue) (by simp)
theorem Imp.openObjL (y : ObjL) : Imp w0 (Own y :: L) (Own y.links :: Own y.data :: Own y.queue :: L) := by
  refine Imp.swapTo (M := [Own y.links, Own y.data, Own y.queue]) (L := [Own y]) ?_ ?_
  · show _ = Lod.fp y ++ []
    rw [List.append_nil]; rfl
  · intro w h A hA
    have := h _ (List.mem_singleton.2 rfl)
    simp only [List.mem_cons, List.not_mem_nil, or_false] at hA
    rcases hA with rfl | rfl | rfl
    · exact this (pk y.links) (by simp)
    · exact this (pk y.data) (by simp)
    · exact this (pk y.queue) (by simp)
theorem Imp.joinHeapL (y : HeapL) : Imp w0 (Own y.arena :: Own y.gc :: L) (Own y :: L) := by
  refine Imp.swapTo (L := [Own y.arena, Own y.gc]) (M := [Own y]) ?_ ?_
  · show Lod.fp y ++ [] = _
    rw [List.append_nil]; rfl
  · intro w h A hA
    rw [List.mem_singleton] at hA
    subst hA
    intro p hp
    simp only [List.mem_cons, List.not_mem_nil, or_false] at hp
    rcases hp with rfl | rfl
    · exact h (Own y.arena) (by simp)
    · exact h (Own y.gc) (by simp)
theorem Imp.openHeapL (y : HeapL) : Imp w0 (Own y :: L) (Own y.arena :: Own y.gc :: L) := by
  refine Imp.swapTo (M := [Own y.arena, Own y.gc]) (L := [Own y]) ?_ ?_
  · show _ = Lod.fp y ++ []
    rw [List.append_nil]; rfl
  · intro w h A hA
    have := h _ (List.mem_singleton.2 rfl)
    simp only [List.mem_cons, List.not_mem_nil, or_false] at hA
    rcases hA with rfl | rfl
    · exact this (pk y.arena) (by simp)
    · exact this (pk y.gc) (by simp)
end

section
variable {α β γ : Type}
theorem ne_n (f : α → β) {a b : Sl α} (h : ¬ (a.n : Int) = b.n) : ¬ a.l.map f = b.l.map f := fun e => h (by
  have := congrArg List.length e
  rw [List.length_map, List.length_map, a.hn, b.hn] at this
  omega)
theorem ne_nth (f : α → β) {a b : Sl α} {i : Nat} (ha : i < a.n) (hb : i < b.n) (h : ¬ f (a.nth i ha) = f (b.nth i hb)) : ¬ a.l.map f = b.l.map f := fun e => h (by
  have h1 : (a.l.map f)[i]? = (b.l.map f)[i]? := by rw [e]
  rw [List.getElem?_map, List.getElem?_map, List.getElem?_eq_getElem (by rw [a.hn]; exact ha), List.getElem?_eq_getElem (by rw [b.hn]; exact hb)] at h1
  exact Option.some.inj h1)
theorem eq_step (f : α → β) {a b : Sl α} {i : Nat} (ha : i < a.n) (hb : i < b.n) (h : (a.l.take i).map f = (b.l.take i).map f) (e : f (a.nth i ha) = f (b.nth i hb)) : (a.l.take (i + 1)).map f = (b.l.take (i + 1)).map f := by
  rw [List.take_succ_eq_append_getElem (by rw [a.hn]; exact ha), List.take_succ_eq_append_getElem (by rw [b.hn]; exact hb), List.map_append, List.map_append, h]
  exact congrArg (fun x => (b.l.take i).map f ++ [x]) e
theorem eq_full (f : α → β) {a b : Sl α} {n : Nat} (ha : a.n = n) (hb : b.n = n) (h : (a.l.take n).map f = (b.l.take n).map f) : a.l.map f = b.l.map f := by
  rw [List.take_of_length_le (by rw [a.hn]; omega), List.take_of_length_le (by rw [b.hn]; omega)] at h; exact h
def Sl.tot (t : α → Nat) (s : Sl α) : Nat := s.n + (s.l.map t).sum
def Sl.zero : Sl α := ⟨none, 0, 0, [], rfl⟩
theorem Sl.zero_own [Lod α] (w : World) : Lod.own w (Sl.zero : Sl α) := ⟨Nat.zero_le _, (fun _ h => nomatch h), .inl ⟨rfl, rfl⟩⟩
end

def szv (k : Int) (t : Nat) : Int := if k - t < 0 then -1 else k - t
def SpokeL.tot (x : SpokeL) : Nat := x.list.n
def WheelL.tot (x : WheelL) : Nat := x.spokes.tot SpokeL.tot
def GcL.tot (x : GcL) : Nat := x.grey.n
def ObjL.tot (x : ObjL) : Nat := x.links.n + x.data.n + x.queue.n
def HeapL.tot (x : HeapL) : Nat := x.arena.tot ObjL.tot + x.gc.tot
def TreeL.tot (x : TreeL) : Nat := x.list.n
def LabelL.tot (x : LabelL) : Nat := x.levels.n
def PartL.tot (x : PartL) : Nat := x.label.tot + x.own.n + x.tree.n + x.heap.tot + x.taps.n
def SpokeL.zero : SpokeL := ⟨Sl.zero⟩
def ObjL.zero : ObjL := ⟨0, 0, 0, 0, 0, 0, 0, 0, 0, false, Sl.zero, Sl.zero, Sl.zero⟩
def TreeL.zero : TreeL := ⟨Sl.zero⟩
theorem SpokeL.zero_own (w : World) : Lod.own w SpokeL.zero := fun p hp => by
  simp only [List.mem_cons, List.not_mem_nil, or_false] at hp
  subst hp; exact Sl.zero_own (α := Timer) w
theorem TreeL.zero_own (w : World) : Lod.own w TreeL.zero := fun p hp => by
  simp only [List.mem_cons, List.not_mem_nil, or_false] at hp
  subst hp; exact Sl.zero_own (α := Res) w
theorem ObjL.zero_own (w : World) : Lod.own w ObjL.zero := fun p hp => by
  simp only [List.mem_cons, List.not_mem_nil, or_false] at hp
  rcases hp with rfl | rfl | rfl
  · exact Sl.zero_own (α := Int) w
  · exact Sl.zero_own (α := Int) w
  · exact Sl.zero_own (α := Msg) w
end Go.Proofs.Ytjjmjfoejpjopaa.E
