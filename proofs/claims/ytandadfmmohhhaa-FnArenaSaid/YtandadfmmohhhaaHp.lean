/-
  Arenas freed and filled, heaps and collectors: plain functions of the contents, no program in sight.
-/
import Derived.Test.YtandadfmmohhhaaRc
namespace Go.Proofs.Ytandadfmmohhhaa.E
open Go Go.RowKit

/-- Nothing there. -/
def bareOf (g : Int) : Obj := ⟨g, 0, 0, 0, 0, 0, 0, 0, 0, false, [], [], []⟩
/-- A thing that leads to i no more. -/
def unlink (i : Int) (o : Obj) : Obj := if o.kind = 0 then o else { o with inn := if o.inn = i then -1 else o.inn, links := o.links.map fun k => if k = i then -1 else k }
def freed (l : List Obj) (i : Nat) : List Obj := (l.set i (bareOf (oat l i).gen)).map (unlink i)
def CanFree (l : List Obj) (i : Int) : Prop := ArenaOk l ∧ (1 ≤ i ∧ i ≤ 9) ∧ (oat l i.toNat).kind ≠ 0
instance (l : List Obj) (i : Int) : Decidable (CanFree l i) := by unfold CanFree; infer_instance
def arenaFree (l : List Obj) (i : Int) : List Obj := if CanFree l i then freed l i.toNat else l
/-- May a thing be put here? -/
def isRoom (l : List Obj) (i : Nat) : Bool := decide (0 < i) && decide ((oat l i).kind = 0) && decide ((oat l i).gen < 999)
def room (l : List Obj) : Option Nat := (List.range 10).find? (isRoom l)
def putAt (l : List Obj) (o : Obj) (i : Nat) : List Obj := l.set i { o with gen := (oat l i).gen + 1 }
/-- Where a thing is put. -/
def putPlace (l : List Obj) (o : Obj) : Int := if ArenaOk l ∧ o.kind ≠ 0 then match room l with
  | some i => if ArenaOk (putAt l o i) then i else -1
  | none => -1 else -1
def arenaPut (l : List Obj) (o : Obj) : List Obj := if 0 ≤ putPlace l o then putAt l o (putPlace l o).toNat else l

def GreyOk (g : List Int) : Prop := (∀ x ∈ g, 0 ≤ x ∧ x ≤ 9) ∧ g.Nodup
instance (g : List Int) : Decidable (GreyOk g) := by unfold GreyOk; infer_instance
def HeapOk (h : Heap) : Prop := ArenaOk h.arena ∧ (h.gc.phase = 0 ∧ h.gc.pos = 0 ∨ h.gc.phase = 1 ∧ (0 ≤ h.gc.pos ∧ h.gc.pos ≤ 9) ∧ h.gc.grey = []) ∧ (0 ≤ h.gc.round ∧ h.gc.round ≤ 1000000) ∧ GreyOk h.gc.grey
instance (h : Heap) : Decidable (HeapOk h) := by unfold HeapOk; infer_instance
def setMark (l : List Obj) (i : Nat) (b : Bool) : List Obj := l.set i { oat l i with mark := b }
def CanShade (h : Heap) (i : Nat) : Prop := h.gc.phase = 0 ∧ (oat h.arena i).kind ≠ 0 ∧ (oat h.arena i).mark = false
instance (h : Heap) (i : Nat) : Decidable (CanShade h i) := by unfold CanShade; infer_instance
def shadeP (h : Heap) (i : Nat) : Heap := if CanShade h i then ⟨setMark h.arena i true, { h.gc with grey := if (i : Int) ∈ h.gc.grey then h.gc.grey else h.gc.grey ++ [(i : Int)] }⟩ else h
def gcShade (h : Heap) (i : Int) : Heap := if HeapOk h ∧ 0 ≤ i ∧ i ≤ 9 then shadeP h i.toNat else h
def gcBorn (h : Heap) (i : Int) : Heap := if HeapOk h ∧ (0 ≤ i ∧ i ≤ 9) ∧ (oat h.arena i.toNat).kind ≠ 0 then ⟨setMark h.arena i.toNat (decide (h.gc.phase = 0) || decide (h.gc.pos ≤ i)), h.gc⟩ else h
/-- Each of a list shaded that has not run out. -/
def shades (now : Int) (es : List Int) (h : Heap) : Heap := es.foldl (fun x k => if expired (oat x.arena k.toNat) now then x else shadeP x k.toNat) h
def popped (h : Heap) : Heap := { h with gc := { h.gc with grey := h.gc.grey.dropLast } }
def lookAt (h : Heap) (now : Int) (i : Nat) : Heap := if i ≠ 0 ∧ expired (oat h.arena i) now then popped h else shades now (edgesN h.arena i 10) ⟨setMark h.arena i true, (popped h).gc⟩
def markStep (h : Heap) (now : Int) : Heap := if h.gc.grey = [] then { h with gc := { h.gc with phase := 1, pos := 0 } } else lookAt h now (h.gc.grey.getLastD 0).toNat
def Dead (h : Heap) (now : Int) (i : Nat) : Prop := i ≠ 0 ∧ (oat h.arena i).kind ≠ 0 ∧ (expired (oat h.arena i) now = true ∨ (oat h.arena i).mark = false)
instance (h : Heap) (now : Int) (i : Nat) : Decidable (Dead h now i) := by unfold Dead; infer_instance
def swept (h : Heap) (now : Int) (i : Nat) : List Obj := if Dead h now i then freed h.arena i else setMark h.arena i false
def sweepStep (h : Heap) (now : Int) : Heap := if h.gc.pos + 1 = 10 then ⟨setMark (swept h now h.gc.pos.toNat) 0 true, ⟨0, 0, min (h.gc.round + 1) 1000000, [0]⟩⟩ else ⟨swept h now h.gc.pos.toNat, { h.gc with pos := h.gc.pos + 1 }⟩
def sweepTold (h : Heap) (now : Int) : Int := if Dead h now h.gc.pos.toNat then h.gc.pos else -1
def gcStep (h : Heap) (now : Int) : Heap := if HeapOk h then (if h.gc.phase = 1 then sweepStep h now else markStep h now) else h
def gcTold (h : Heap) (now : Int) : Int := if HeapOk h ∧ h.gc.phase = 1 then sweepTold h now else -1
/-- Is place i of a sweep, or of a marking, as it must be? -/
def SafeAt (h : Heap) (now : Int) (i : Nat) : Prop :=
  if h.gc.phase = 1 then ((i : Int) < h.gc.pos → (oat h.arena i).mark = false) ∧ (h.gc.pos ≤ i → 0 < i → Rch h.arena now i → (oat h.arena i).mark = true)
  else Rch h.arena now i → ((oat h.arena i).mark = true ∨ i = 0) → (i : Int) ∉ h.gc.grey → ∀ k : Nat, (k : Int) ∈ edgesN h.arena i 10 → 0 < k → Rch h.arena now k → (oat h.arena k).mark = true
def GcSafe (h : Heap) (now : Int) : Prop := HeapOk h ∧ ∀ i, i < 10 → SafeAt h now i
end Go.Proofs.Ytandadfmmohhhaa.E
