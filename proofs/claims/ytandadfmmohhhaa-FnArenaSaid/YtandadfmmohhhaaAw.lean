/-
  New arenas.
-/
import Derived.Test.YtandadfmmohhhaaCt
import Derived.Test.YtandadfmmohhhaaLaw
namespace Go.Proofs.Ytandadfmmohhhaa.E
open Go Go.RowKit
set_option maxRecDepth 100000
set_option maxHeartbeats 4000000

def rootL (l : Sl Int) : ObjL := ⟨0, 1, -1, 0, 1000000, 0, 0, 0, 0, false, l, Sl.zero, Sl.zero⟩
def newArena : List Obj := (List.replicate 10 ⟨0, 0, 0, 0, 0, 0, 0, 0, 0, false, [], [], []⟩).set 0 ⟨0, 1, -1, 0, 1000000, 0, 0, 0, 0, false, [-1, -1], [], []⟩
theorem Imp.addZ {α : Type} [Lod α] {w0 : World} {L : List Atom} : Imp w0 L (Own (Sl.zero : Sl α) :: L) := by
  intro w st
  have e : (Own (Sl.zero : Sl α)).fp = [] := by simp [Own, Lod.fp, Sl.fp, Sl.zero]
  refine ⟨st.below, ?_, fun b hb => ?_, fun A hA => ?_⟩
  · simp only [fps, List.flatMap_cons, e, List.nil_append]; exact st.nodup
  · simp only [fps, List.flatMap_cons, e, List.nil_append] at hb; exact st.range b hb
  · rcases List.mem_cons.1 hA with rfl | hA
    · exact Sl.zero_own w
    · exact st.holds A hA
theorem Imp.root {w0 : World} {L : List Atom} (l : Sl Int) : Imp w0 (Own l :: L) (Own (rootL l) :: L) :=
  Imp.addZ.trans (Imp.addZ.trans (Imp.p3.trans (Imp.joinObjL (rootL l))))
theorem newArena_of {r : Sl ObjL} {l : Sl Int} (hr : r.l = List.replicate 10 ObjL.zero) (hl : l.l = [-1, -1]) : (r.upd 0 (rootL l)).l.map ObjL.pl = newArena := by
  show (r.l.set 0 (rootL l)).map ObjL.pl = _
  rw [hr, List.map_set, List.map_replicate]
  unfold newArena
  show (List.replicate 10 _).set 0 (⟨0, 1, -1, 0, 1000000, 0, 0, 0, 0, false, l.l, [], []⟩ : Obj) = _
  rw [hl]
  rfl
theorem sArenaNew (w : World) : F Try.prog 109 [] w (rB Sl.val (fun r : Sl ObjL => r.l.map ObjL.pl = newArena)) := by
  refine F_of Try.func109 rfl rfl ?_
  repeat' (first | refine SX_w (SWl_mk 10 rfl rfl rfl (by decide) ObjL.zero (by rfl) (by rfl) (by rfl) (by rfl) rfl ObjL.zero_own (fun r hr hn => SWl_x ?_)) | refine SX_w (SWl_bs (vs := [.int .i64 (-1), .int .i64 (-1)]) rfl rfl (by simp [Value.cells]) rfl rfl (fun b => SWl_x ?_)) | refine SX_v (Val_build rfl (Lod.cells (rootL ⟨some ⟨b, 0, none⟩, 2, 2, [-1, -1], rfl⟩)) (by kernel_rfl)) ?_ | refine SX_v (Val_ix (s := r) (by first | exact Src.own 0 rfl | exact Src.own 1 rfl | exact Src.own 2 rfl | exact Src.own 3 rfl | exact Src.own 4 rfl | exact Src.own 5 rfl | exact Src.own 6 rfl | exact Src.own 7 rfl | exact Src.own 8 rfl | exact Src.own 9 rfl) rfl rfl 0 rfl (by omega)) ?_ | refine SX_w (SWl_stE (s := r) (i := 0) (y' := rootL ⟨some ⟨b, 0, none⟩, 2, 2, [-1, -1], rfl⟩) ((Imp.ofBlkF [(-1 : Int), -1] rfl rfl (by decide)).trans ((Imp.root _).trans ((Imp.own1 _).trans Imp.swap))) rfl rfl (by omega) rfl (SWl_x ?_)) | refine SX_run rfl rfl ?_ | refine SX_nil ?_ | refine SN_W ?_ | refine SW_seq ?_ | refine SW_regionX ?_ | refine SX_guardT rfl ?_ | refine SX_guardF rfl rfl ?_ | refine SX_guardU rfl ?_ | refine SX_gsplitD rfl rfl (fun h => ?_) (fun h => ?_) | refine SX_gsplitN rfl rfl (fun h => ?_) (fun h => ?_) | refine SX_gsplit rfl rfl (fun h => ?_) (fun h => ?_) | refine SW_condT rfl ?_ | refine SW_condF rfl ?_ | refine SW_condD rfl (fun h => ?_) (fun h => ?_) | refine SW_condN rfl (fun h => ?_) (fun h => ?_) | refine SW_condB rfl (fun h => ?_) (fun h => ?_) | refine SW_cond rfl (fun h => ?_) (fun h => ?_) | refine SW_block ?_ | refine SW_skip ?_ | refine SW_exit ?_ | refine SN_bl0 ?_ | refine SN_blS rfl ?_ | refine SW_ret ?_ | refine SX_v (Val_len rfl) ?_ | refine SX_v (Val_fa rfl) ?_ | refine SX_v (Val_add rfl rfl (by omega) (by omega)) ?_ | refine SX_v (Val_sub rfl rfl (by omega) (by omega)) ?_ | refine SX_v (Val_mul rfl rfl (by omega) (by omega)) ?_ | refine SX_v (Val_quoN rfl rfl (by omega) (by omega) (by omega)) ?_ | refine SX_v (Val_remN rfl rfl (by omega) (by omega)) ?_ | refine SX_v (Val_min rfl rfl) ?_ | refine SX_v (Val_beq und_bool rfl rfl) ?_ | refine SX_v (Val_bne und_bool rfl rfl) ?_)
  exact SN_ret1 rfl (RV.tmp rfl) (Imp.one 0 rfl) ⟨r.upd 0 (rootL ⟨some ⟨b, 0, none⟩, 2, 2, [-1, -1], rfl⟩), rfl, rfl, newArena_of hr rfl⟩
end Go.Proofs.Ytandadfmmohhhaa.E
