/-
  The program's data: plain, and with the places where the slices lie. No function of the program is in sight.
-/
import Derived.Test.YtandadfmmohhhaaInst
namespace Go.Proofs.Ytandadfmmohhhaa.E
open Go Go.RowKit

/-- A part of a datum, of whatever type. -/
structure Pk where
  fp : List Nat
  rd : Nat → World → Prop
  own : World → Prop
  rd_of : ∀ {w}, own w → rd lim w
  rd_le : ∀ {m m' w}, m ≤ m' → rd m w → rd m' w
  rd_below : ∀ {m w w'}, rd m w → Below w.heap.size w w' → rd m w'
  own_frame : ∀ {w w'}, own w → (∀ b, b ∈ fp → w'.heap[b]? = w.heap[b]?) → own w'

def pk {α : Type} [Lod α] (x : α) : Pk := ⟨Lod.fp x, fun m w => Lod.rd m w x, fun w => Lod.own w x, Lod.rd_of, Lod.rd_le, Lod.rd_below, Lod.own_frame⟩
def Pk.atom (p : Pk) : Atom := ⟨p.fp, p.own, p.own_frame⟩

/-- A struct's instance, out of its parts. -/
@[reducible] def Lod.parts {α : Type} (ty : TypeId) (sz : Nat) (cells : α → List Value) (len : ∀ x, (cells x).length = sz) (one : ∀ x, ∀ u ∈ cells x, u.oneCell' = true) (parts : α → List Pk) : Lod α where
  ty := ty
  sz := sz
  cells := cells
  len := len
  one := one
  fp := fun x => (parts x).flatMap Pk.fp
  rd := fun m w x => ∀ p ∈ parts x, p.rd m w
  own := fun w x => ∀ p ∈ parts x, p.own w
  rd_of := fun h p hp => p.rd_of (h p hp)
  rd_le := fun hm h p hp => p.rd_le hm (h p hp)
  rd_below := fun h hb p hp => p.rd_below (h p hp) hb
  own_frame := fun h hf p hp => p.own_frame (h p hp) (fun b hb => hf b (List.mem_flatMap.2 ⟨p, hp, hb⟩))

theorem fps_atoms (ps : List Pk) : fps (ps.map Pk.atom) = ps.flatMap Pk.fp := by
  induction ps with
  | nil => rfl
  | cons p ps ih => simp only [fps, List.map_cons, List.flatMap_cons] at ih ⊢; rw [ih]; rfl

theorem Imp.swapTo {w0 : World} {L M R : List Atom} (hf : fps M = fps L) (hh : ∀ w, (∀ A ∈ L, A.holds w) → ∀ A ∈ M, A.holds w) : Imp w0 (L ++ R) (M ++ R) := by
  intro w st
  have e : fps (M ++ R) = fps (L ++ R) := by simp only [fps, List.flatMap_append] at hf ⊢; rw [hf]
  refine ⟨st.below, by rw [e]; exact st.nodup, fun b hb => st.range b (by rw [← e]; exact hb), fun A hA => ?_⟩
  rcases List.mem_append.1 hA with hA | hA
  · exact hh w (fun B hB => st.holds B (List.mem_append_left _ hB)) A hA
  · exact st.holds A (List.mem_append_right _ hA)
theorem oneI {l : List Value} (h : ∀ u ∈ l, (match u with | .agg _ => false | .tuple _ => false | _ => true) = true) : ∀ u ∈ l, u.oneCell' = true := by
  intro u hu
  have := h u hu
  cases u <;> first | rfl | cases this

instance : Lod Int := Lod.flat tyInt 1 (fun x => [.int .i64 x]) (fun _ => rfl) (fun _ => oneI (by simp))
instance : Lod Bool := Lod.flat tyBool 1 (fun x => [.bool x]) (fun _ => rfl) (fun _ => oneI (by simp))
instance : Lod UInt8 := Lod.flat tyByte 1 (fun x => [.int .u8 x.toNat]) (fun _ => rfl) (fun _ => oneI (by simp))
instance : Flat Int := ⟨fun _ => rfl, fun _ _ => trivial⟩
instance : Flat Bool := ⟨fun _ => rfl, fun _ _ => trivial⟩
instance : Flat UInt8 := ⟨fun _ => rfl, fun _ _ => trivial⟩

structure Timer where
  id : Int
  due : Int
deriving DecidableEq
instance : Lod Timer := Lod.flat tyTimer 2 (fun x => [.int .i64 x.id, .int .i64 x.due]) (fun _ => rfl) (fun _ => oneI (by simp))
instance : Flat Timer := ⟨fun _ => rfl, fun _ _ => trivial⟩

structure Msg where
  src : Int
  num : Int
deriving DecidableEq
instance : Lod Msg := Lod.flat tyMsg 2 (fun x => [.int .i64 x.src, .int .i64 x.num]) (fun _ => rfl) (fun _ => oneI (by simp))
instance : Flat Msg := ⟨fun _ => rfl, fun _ _ => trivial⟩

structure Amt where
  pages : Int
  rent : Int
  cpu : Int
deriving DecidableEq
instance : Lod Amt := Lod.flat tyAmt 3 (fun x => [.int .i64 x.pages, .int .i64 x.rent, .int .i64 x.cpu]) (fun _ => rfl) (fun _ => oneI (by simp))
instance : Flat Amt := ⟨fun _ => rfl, fun _ _ => trivial⟩

structure Res where
  live : Bool
  parent : Int
  bal : Amt
deriving DecidableEq
instance : Lod Res := Lod.flat tyRes 5 (fun x => [.bool x.live, .int .i64 x.parent, .int .i64 x.bal.pages, .int .i64 x.bal.rent, .int .i64 x.bal.cpu]) (fun _ => rfl) (fun _ => oneI (by simp))
instance : Flat Res := ⟨fun _ => rfl, fun _ _ => trivial⟩

structure Tap where
  res : Int
  toPart : Int
  toRes : Int
  which : Int
  kind : Int
  rate : Int
deriving DecidableEq
instance : Lod Tap := Lod.flat tyTap 6 (fun x => [.int .i64 x.res, .int .i64 x.toPart, .int .i64 x.toRes, .int .i64 x.which, .int .i64 x.kind, .int .i64 x.rate]) (fun _ => rfl) (fun _ => oneI (by simp))
instance : Flat Tap := ⟨fun _ => rfl, fun _ _ => trivial⟩

/-! with places -/
structure SpokeL where
  list : Sl Timer
instance : Lod SpokeL := Lod.parts tySpoke 1 (fun x => [x.list.val]) (fun _ => rfl) (fun _ => oneI (by simp [Sl.val])) (fun x => [pk x.list])

structure WheelL where
  now : Int
  spokes : Sl SpokeL
instance : Lod WheelL := Lod.parts tyWheel 2 (fun x => [.int .i64 x.now, x.spokes.val]) (fun _ => rfl) (fun _ => oneI (by simp [Sl.val])) (fun x => [pk x.spokes])

structure GcL where
  phase : Int
  pos : Int
  round : Int
  grey : Sl Int
instance : Lod GcL := Lod.parts tyGc 4 (fun x => [.int .i64 x.phase, .int .i64 x.pos, .int .i64 x.round, x.grey.val]) (fun _ => rfl) (fun _ => oneI (by simp [Sl.val])) (fun x => [pk x.grey])

structure ObjL where
  gen : Int
  kind : Int
  inn : Int
  res : Int
  til : Int
  pages : Int
  wait : Int
  got : Int
  ran : Int
  mark : Bool
  links : Sl Int
  data : Sl Int
  queue : Sl Msg
instance : Lod ObjL := Lod.parts tyObj 13 (fun x => [.int .i64 x.gen, .int .i64 x.kind, .int .i64 x.inn, .int .i64 x.res, .int .i64 x.til, .int .i64 x.pages, .int .i64 x.wait, .int .i64 x.got, .int .i64 x.ran, .bool x.mark, x.links.val, x.data.val, x.queue.val])
  (fun _ => rfl) (fun _ => oneI (by simp [Sl.val])) (fun x => [pk x.links, pk x.data, pk x.queue])

structure HeapL where
  arena : Sl ObjL
  gc : GcL
instance : Lod HeapL := Lod.parts tyHeap 5 (fun x => [x.arena.val, .int .i64 x.gc.phase, .int .i64 x.gc.pos, .int .i64 x.gc.round, x.gc.grey.val]) (fun _ => rfl) (fun _ => oneI (by simp [Sl.val])) (fun x => [pk x.arena, pk x.gc])

structure TreeL where
  list : Sl Res
instance : Lod TreeL := Lod.parts tyTree 1 (fun x => [x.list.val]) (fun _ => rfl) (fun _ => oneI (by simp [Sl.val])) (fun x => [pk x.list])

structure LabelL where
  levels : Sl Int
instance : Lod LabelL := Lod.parts tyLabel 1 (fun x => [x.levels.val]) (fun _ => rfl) (fun _ => oneI (by simp [Sl.val])) (fun x => [pk x.levels])

structure PartL where
  label : LabelL
  own : Sl Int
  tree : Sl Res
  heap : HeapL
  taps : Sl Tap
  next : Int
  want : Int
  spent : Amt
  press : Int
  lost : Int
instance : Lod PartL := Lod.parts tyPart 16 (fun x => [x.label.levels.val, x.own.val, x.tree.val, x.heap.arena.val, .int .i64 x.heap.gc.phase, .int .i64 x.heap.gc.pos, .int .i64 x.heap.gc.round, x.heap.gc.grey.val, x.taps.val, .int .i64 x.next, .int .i64 x.want,
    .int .i64 x.spent.pages, .int .i64 x.spent.rent, .int .i64 x.spent.cpu, .int .i64 x.press, .int .i64 x.lost]) (fun _ => rfl) (fun _ => oneI (by simp [Sl.val])) (fun x => [pk x.label, pk x.own, pk x.tree, pk x.heap, pk x.taps])

/-! contents: without the places -/
structure Wheel where
  now : Int
  spokes : List (List Timer)
deriving DecidableEq
structure Gc where
  phase : Int
  pos : Int
  round : Int
  grey : List Int
deriving DecidableEq
structure Obj where
  gen : Int
  kind : Int
  inn : Int
  res : Int
  til : Int
  pages : Int
  wait : Int
  got : Int
  ran : Int
  mark : Bool
  links : List Int
  data : List Int
  queue : List Msg
deriving DecidableEq
structure Heap where
  arena : List Obj
  gc : Gc
deriving DecidableEq
structure Part where
  label : List Int
  own : List Int
  tree : List Res
  heap : Heap
  taps : List Tap
  next : Int
  want : Int
  spent : Amt
  press : Int
  lost : Int
deriving DecidableEq
def SpokeL.pl (x : SpokeL) : List Timer := x.list.l
def WheelL.pl (x : WheelL) : Wheel := ⟨x.now, x.spokes.l.map SpokeL.pl⟩
def GcL.pl (x : GcL) : Gc := ⟨x.phase, x.pos, x.round, x.grey.l⟩
def ObjL.pl (x : ObjL) : Obj := ⟨x.gen, x.kind, x.inn, x.res, x.til, x.pages, x.wait, x.got, x.ran, x.mark, x.links.l, x.data.l, x.queue.l⟩
def HeapL.pl (x : HeapL) : Heap := ⟨x.arena.l.map ObjL.pl, x.gc.pl⟩
def TreeL.pl (x : TreeL) : List Res := x.list.l
def LabelL.pl (x : LabelL) : List Int := x.levels.l
def PartL.pl (x : PartL) : Part := ⟨x.label.pl, x.own.l, x.tree.l, x.heap.pl, x.taps.l, x.next, x.want, x.spent, x.press, x.lost⟩
/-- A struct as a value. -/
abbrev agg {α : Type} [Lod α] (x : α) : Value := .agg (Lod.cells x).toArray

section
variable {m : Nat} {w0 : World} {L : List Atom}
theorem Src.spoke {x : SpokeL} (h : Src m w0 L x) : Src m w0 L x.list := fun w s => h w s (pk x.list) (by simp)
theorem Src.wheel {x : WheelL} (h : Src m w0 L x) : Src m w0 L x.spokes := fun w s => h w s (pk x.spokes) (by simp)
theorem Src.grey {x : GcL} (h : Src m w0 L x) : Src m w0 L x.grey := fun w s => h w s (pk x.grey) (by simp)
theorem Src.links {x : ObjL} (h : Src m w0 L x) : Src m w0 L x.links := fun w s => h w s (pk x.links) (by simp)
theorem Src.data {x : ObjL} (h : Src m w0 L x) : Src m w0 L x.data := fun w s => h w s (pk x.data) (by simp)
theorem Src.queue {x : ObjL} (h : Src m w0 L x) : Src m w0 L x.queue := fun w s => h w s (pk x.queue) (by simp)
theorem Src.arena {x : HeapL} (h : Src m w0 L x) : Src m w0 L x.arena := fun w s => h w s (pk x.arena) (by simp)
theorem Src.gc {x : HeapL} (h : Src m w0 L x) : Src m w0 L x.gc := fun w s => h w s (pk x.gc) (by simp)
theorem Src.treeList {x : TreeL} (h : Src m w0 L x) : Src m w0 L x.list := fun w s => h w s (pk x.list) (by simp)
theorem Src.levels {x : LabelL} (h : Src m w0 L x) : Src m w0 L x.levels := fun w s => h w s (pk x.levels) (by simp)
theorem Src.label {x : PartL} (h : Src m w0 L x) : Src m w0 L x.label := fun w s => h w s (pk x.label) (by simp)
theorem Src.pown {x : PartL} (h : Src m w0 L x) : Src m w0 L x.own := fun w s => h w s (pk x.own) (by simp)
theorem Src.tree {x : PartL} (h : Src m w0 L x) : Src m w0 L x.tree := fun w s => h w s (pk x.tree) (by simp)
theorem Src.heap {x : PartL} (h : Src m w0 L x) : Src m w0 L x.heap := fun w s => h w s (pk x.heap) (by simp)
theorem Src.taps {x : PartL} (h : Src m w0 L x) : Src m w0 L x.taps := fun w s => h w s (pk x.taps) (by simp)
end
end Go.Proofs.Ytandadfmmohhhaa.E
