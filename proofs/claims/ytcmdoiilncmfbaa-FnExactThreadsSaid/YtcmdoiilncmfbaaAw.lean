/-
  New arenas.
-/
import Derived.Test.YtcmdoiilncmfbaaCt
import Derived.Test.YtcmdoiilncmfbaaLaw
namespace Go.Proofs.Ytcmdoiilncmfbaa.E
open Go Go.RowKit
set_option maxRecDepth 100000
set_option maxHeartbeats 4000000

def rootL (l : Sl Int) : ObjL := ⟨0, 1, -1, 0, 1000000, 0, 0, 0, 0, false, l, Sl.zero, Sl.zero⟩
def newArena : List Obj := (List.replicate 10 ⟨0, 0, 0, 0, 0, 0, 0, 0, 0, false, [], [], []⟩).set 0 ⟨0, 1, -1, 0, 1000000, 0, 0, 0, 0, false, [-1, -1], [], []⟩
theorem Imp.addZ {α : Type} [Lod α] {w0 : World} {L : List Atom} : Imp w0 L (Own (Sl.zero : Sl α) :: L) := by
  intro w st
  have e : (Own (Sl.zero : Sl α)).fp = [] := by simp [Own, Lod.fp, Sl.fp, Sl.zero]
  refine ⟨st.below, ?_, fun b hb => ?_, fun A hA => ?_⟩
  · simp only [fps, List.flatMap_cons, e, List.nil_append]; exact st.nodup
  · simp only [fps, List.flatMap_cons, e, List.nil_append] at hb; exact st.range b hb
  · rcases List.mem_cons.1 hA with rfl | hA
    · exact Sl.zero_own w
    · exact st.holds A hA
theorem Imp.root {w0 : World} {L : List Atom} (l : Sl Int) : Imp w0 (Own l :: L) (Own (rootL l) :: L) :=
  Imp.addZ.trans (Imp.addZ.trans (Imp.p3.trans (Imp.joinObjL (rootL l))))
theorem newArena_of {r : Sl ObjL} {l : Sl Int} (hr : r.l = List.replicate 10 ObjL.zero) (hl : l.l = [-1, -1]) : (r.upd 0 (rootL l)).l.map ObjL.pl = newArena := by
  show (r.l.set 0 (rootL l)).map ObjL.pl = _
  rw [hr, List.map_set, List.map_replicate]
  unfold newArena
  show (List.replicate 10 _).set 0 (⟨0, 1, -1, 0, 1000000, 0, 0, 0, 0, false, l.l, [], []⟩ : Obj) = _
  rw [hl]
  rfl
end Go.Proofs.Ytcmdoiilncmfbaa.E
