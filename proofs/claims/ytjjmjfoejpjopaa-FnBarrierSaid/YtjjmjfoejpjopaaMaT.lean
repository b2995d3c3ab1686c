import Derived.Test.YtjjmjfoejpjopaaHgT
namespace Go.Proofs.Ytjjmjfoejpjopaa.E
open Go Go.RowKit
set_option maxRecDepth 100000
set_option maxHeartbeats 4000000

instance : SetF Int := ⟨fun x _ v => match v with
  | .int _ z => z
  | _ => x⟩
instance : SetF Bool := ⟨fun x _ v => match v with
  | .bool z => z
  | _ => x⟩
instance : SetF Timer := ⟨fun x j v => match j, v with
  | 0, .int _ z => { x with id := z }
  | 1, .int _ z => { x with due := z }
  | _, _ => x⟩
instance : SetF Msg := ⟨fun x j v => match j, v with
  | 0, .int _ z => { x with src := z }
  | 1, .int _ z => { x with num := z }
  | _, _ => x⟩
instance : SetF Tap := ⟨fun x j v => match j, v with
  | 0, .int _ z => { x with res := z }
  | 1, .int _ z => { x with toPart := z }
  | 2, .int _ z => { x with toRes := z }
  | 3, .int _ z => { x with which := z }
  | 4, .int _ z => { x with kind := z }
  | 5, .int _ z => { x with rate := z }
  | _, _ => x⟩
instance : SetF ObjL := ⟨fun x j v => match j, v with
  | 0, .int _ z => { x with gen := z }
  | 1, .int _ z => { x with kind := z }
  | 2, .int _ z => { x with inn := z }
  | 3, .int _ z => { x with res := z }
  | 4, .int _ z => { x with til := z }
  | 5, .int _ z => { x with pages := z }
  | 6, .int _ z => { x with wait := z }
  | 7, .int _ z => { x with got := z }
  | 8, .int _ z => { x with ran := z }
  | 9, .bool z => { x with mark := z }
  | _, _ => x⟩
instance : SetF Res := ⟨fun x j v => match j, v with
  | 0, .bool z => { x with live := z }
  | 1, .int _ z => { x with parent := z }
  | 2, .int _ z => { x with bal := { x.bal with pages := z } }
  | 3, .int _ z => { x with bal := { x.bal with rent := z } }
  | 4, .int _ z => { x with bal := { x.bal with cpu := z } }
  | _, _ => x⟩
instance : Mkd Int := ⟨fun _ => 1, fun k _ => k⟩
instance : Mkd Bool := ⟨fun _ => 1, fun k _ => decide ((k : Int) % 3 = 0)⟩
instance : Mkd Timer := ⟨fun _ => 2, fun k _ => ⟨(k : Int), (k : Int) + 1⟩⟩
instance : Mkd Msg := ⟨fun _ => 2, fun k _ => ⟨(k : Int), (k : Int) + 1⟩⟩
instance : Mkd Tap := ⟨fun _ => 6, fun k _ => ⟨(k : Int), (k : Int) + 1, (k : Int) + 1 + 1, (k : Int) + 1 + 1 + 1, (k : Int) + 1 + 1 + 1 + 1, (k : Int) + 1 + 1 + 1 + 1 + 1⟩⟩
instance : Mkd Res := ⟨fun _ => 5, fun k _ => ⟨decide ((k : Int) % 3 = 0), (k : Int) + 1, ⟨(k : Int) + 1 + 1, (k : Int) + 1 + 1 + 1, (k : Int) + 1 + 1 + 1 + 1⟩⟩⟩
instance : Mkd SpokeL := ⟨fun x => Mkd.cnt x.list, fun k x => ⟨Mkd.put k x.list⟩⟩
instance : Mkd TreeL := ⟨fun x => Mkd.cnt x.list, fun k x => ⟨Mkd.put k x.list⟩⟩
instance : Mkd LabelL := ⟨fun x => Mkd.cnt x.levels, fun k x => ⟨Mkd.put k x.levels⟩⟩
instance : Mkd WheelL := ⟨fun x => Mkd.cnt x.spokes, fun k x => { x with spokes := Mkd.put k x.spokes }⟩
instance : Mkd GcL := ⟨fun x => Mkd.cnt x.grey, fun k x => { x with grey := Mkd.put k x.grey }⟩

def ObjL.cntP (x : ObjL) : Nat := Mkd.cnt x.links + Mkd.cnt x.data + Mkd.cnt x.queue
def ObjL.putP (k : Nat) (x : ObjL) : ObjL := { x with links := Mkd.put k x.links, data := Mkd.put (k + Mkd.cnt x.links) x.data, queue := Mkd.put (k + Mkd.cnt x.links + Mkd.cnt x.data) x.queue }
instance : Mkd ObjL := ⟨fun x => 10 + x.cntP, fun k x => ObjL.putP (k + 10) ⟨(k : Int), (k : Int) + 1, (k : Int) + 1 + 1, (k : Int) + 1 + 1 + 1, (k : Int) + 1 + 1 + 1 + 1, (k : Int) + 1 + 1 + 1 + 1 + 1, (k : Int) + 1 + 1 + 1 + 1 + 1 + 1, (k : Int) + 1 + 1 + 1 + 1 + 1 + 1 + 1, (k : Int) + 1 + 1 + 1 + 1 + 1 + 1 + 1 + 1, decide (((k : Int) + 1 + 1 + 1 + 1 + 1 + 1 + 1 + 1 + 1) % 3 = 0), x.links, x.data, x.queue⟩⟩
instance : Mkd HeapL := ⟨fun x => Mkd.cnt x.arena + Mkd.cnt x.gc, fun k x => ⟨Mkd.put k x.arena, Mkd.put (k + Mkd.cnt x.arena) x.gc⟩⟩
instance : Mkd PartL := ⟨fun x => Mkd.cnt x.label + Mkd.cnt x.own + Mkd.cnt x.tree + Mkd.cnt x.heap + Mkd.cnt x.taps, fun k x => { x with label := Mkd.put k x.label, own := Mkd.put (k + Mkd.cnt x.label) x.own, tree := Mkd.put (k + Mkd.cnt x.label + Mkd.cnt x.own) x.tree, heap := Mkd.put (k + Mkd.cnt x.label + Mkd.cnt x.own + Mkd.cnt x.tree) x.heap, taps := Mkd.put (k + Mkd.cnt x.label + Mkd.cnt x.own + Mkd.cnt x.tree + Mkd.cnt x.heap) x.taps }⟩

section
variable {α : Type} [Mkd α] [Lod α] {f : FuncId} {val : α → Value}
theorem MarkF.z (h : MarkF Try.prog f val) (x : α) {z : Int} (k : Nat) (hz : z = k) (R : List Atom) (w0 : World) (hk : k + Mkd.cnt x ≤ lim) (w : World) (hw : St w0 w (Own x :: R)) :
    C Try.prog f #[val x, .int .i64 z] w fun v w' => ∃ M, (v = .int .i64 ((k + Mkd.cnt x : Nat) : Int) ∧ M = Own (Mkd.put k x) :: R) ∧ St w0 w' M := by subst hz; exact h x k R w0 hk w hw
theorem HeldF.z (h : HeldF Try.prog f val) {m : Nat} (x : α) {z : Int} (k : Nat) (hz : z = k) (w : World) (hr : Lod.rd m w (Mkd.put k x)) (hk : k + Mkd.cnt x ≤ lim) : F Try.prog f [val x, .int .i64 z] w (rA (.int .i64 ((k + Mkd.cnt x : Nat) : Int))) := by subst hz; exact h m x k w hr hk
end
section
variable {w0 : World} {R : List Atom}
theorem Imp.focusU {α : Type} [Lod α] (s : Sl α) (i : Nat) (hi : i < s.n) (x : α) : Imp w0 (Own (s.upd i x) :: R) (Own x :: Row (s.upd i x) :: OwnL ((s.upd i x).l.take i) :: OwnL ((s.upd i x).l.drop (i + 1)) :: R) := by
  have hi' : i < (s.upd i x).n := hi
  have := Imp.focus (w0 := w0) (L := R) (s.upd i x) i hi'
  rw [Sl.upd_nth] at this
  exact this
theorem Imp.unfocusU {α : Type} [Lod α] (s : Sl α) (i : Nat) (hi : i < s.n) (x y : α) (hc : Lod.cells y = Lod.cells x) : Imp w0 (Own y :: Row (s.upd i x) :: OwnL ((s.upd i x).l.take i) :: OwnL ((s.upd i x).l.drop (i + 1)) :: R) (Own (s.upd i y) :: R) := by
  have hi' : i < (s.upd i x).n := hi
  have := Imp.unfocus (w0 := w0) (L := R) (s.upd i x) i hi' y (by rw [Sl.upd_nth]; exact hc)
  rw [Sl.upd_upd] at this
  exact this
theorem Imp.p3 {A B C' : Atom} {L : List Atom} : Imp w0 (A :: B :: C' :: L) (C' :: A :: B :: L) := Imp.perm ((List.Perm.swap _ _ _).trans (List.Perm.cons _ (List.Perm.swap _ _ _)))
theorem Imp.q3 {A B C' : Atom} {L : List Atom} : Imp w0 (C' :: A :: B :: L) (A :: B :: C' :: L) := Imp.perm ((List.Perm.cons _ (List.Perm.swap _ _ _)).trans (List.Perm.swap _ _ _))
end
end Go.Proofs.Ytjjmjfoejpjopaa.E
