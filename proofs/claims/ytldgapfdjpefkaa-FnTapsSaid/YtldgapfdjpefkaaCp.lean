/-
  Copies.
-/
import Derived.Test.YtldgapfdjpefkaaIm
namespace Go.Proofs.Ytldgapfdjpefkaa.E
open Go Go.RowKit
set_option maxRecDepth 100000
set_option maxHeartbeats 4000000

def Sl.empA {α : Type} (b : Nat) : Sl α := ⟨some ⟨b, 0, none⟩, 0, 0, [], rfl⟩
theorem rd_n {α : Type} [Lod α] {m : Nat} {w : World} {s : Sl α} (h : Lod.rd m w s) : s.n ≤ m := h.1
theorem src_n {α : Type} [Lod α] {m : Nat} {w : World} {s : Sl α} (h : ∀ L, Src m w L s) : s.n ≤ m := (h [] w (St.start w)).1
theorem capOf' {α : Type} [Lod α] {m : Nat} {w : World} {s : Sl α} (h : Src m w [] s) : s.n ≤ 9223372036854775807 := by
  have := h w (St.start w)
  exact Nat.le_trans this.2.1 this.2.2.1
section
variable {w0 : World} {L : List Atom}
theorem Imp.rev3 {A B C' : Atom} : Imp w0 (A :: B :: C' :: L) (C' :: B :: A :: L) := Imp.perm (by
  have h1 : (C' :: B :: A :: L).Perm (B :: C' :: A :: L) := List.Perm.swap _ _ _
  have h2 : (B :: C' :: A :: L).Perm (B :: A :: C' :: L) := List.Perm.cons _ (List.Perm.swap _ _ _)
  have h3 : (B :: A :: C' :: L).Perm (A :: B :: C' :: L) := List.Perm.swap _ _ _
  exact (h1.trans h2).trans h3)
theorem Imp.rot3 {A B C' : Atom} : Imp w0 (A :: B :: C' :: L) (B :: C' :: A :: L) := Imp.perm (by
  have h2 : (B :: C' :: A :: L).Perm (B :: A :: C' :: L) := List.Perm.cons _ (List.Perm.swap _ _ _)
  have h3 : (B :: A :: C' :: L).Perm (A :: B :: C' :: L) := List.Perm.swap _ _ _
  exact h2.trans h3)
end
def ObjL.withL (x : ObjL) (a b : Sl Int) (c : Sl Msg) : ObjL := { x with links := a, data := b, queue := c }
theorem Imp.ofBlk0 {α : Type} [Lod α] {w0 : World} {L : List Atom} {b : Nat} {T : TypeId} (hty : Lod.ty α = T) : Imp w0 (Blk b [] T :: L) [Own (Sl.empA b : Sl α)] := by
  have h0 : Imp w0 (Blk b [] T :: L) (Blk b [] T :: OwnL ([] : List α) :: L) := by
    intro w h
    refine ⟨h.below, ?_, ?_, ?_⟩
    · have := h.nodup; simpa [fps, OwnL] using this
    · intro c hc; exact h.range c (by simpa [fps, OwnL] using hc)
    · intro A hA
      rcases List.mem_cons.1 hA with rfl | hA
      · exact h.holds _ List.mem_cons_self
      rcases List.mem_cons.1 hA with rfl | hA
      · intro y hy; cases hy
      · exact h.holds A (List.mem_cons_of_mem _ hA)
  exact (h0.trans (Imp.ofBlk (l := ([] : List α)) rfl hty (Nat.zero_le _))).trans (Imp.one 0 rfl)
theorem copyTree' (a : Sl Res) (w : World) (ha : Lod.rd lim w a) : F Try.prog 140 [a.val] w (rB Sl.val (fun r : Sl Res => r.l = a.l)) := by
  have sa : ∀ L, Src lim w L a := fun L => Src.arg ha
  have hn := rd_n ha
  refine F_of Try.func140 rfl rfl ?_
  repeat' (first | refine SX_w (SWl_bs (vs := []) rfl rfl (fun _ h => nomatch h) rfl rfl (fun b => SWl_x ?_)) | (refine SX_imp (Imp.ofBlkF ([] : List Res) rfl rfl (by decide)) ?_; refine SX_w (SWl_appS 0 (s := Sl.empA b) rfl rfl (sa _) rfl (by show 0 + a.n ≤ lim; omega) (by rfl) (by rfl) (by rfl) (by rfl) (by rfl) (fun r hr hn => SWl_x ?_))) | refine SX_run rfl rfl ?_ | refine SX_nil ?_ | refine SN_W ?_ | refine SW_seq ?_ | refine SW_regionX ?_ | refine SX_guardT rfl ?_ | refine SX_guardF rfl rfl ?_ | refine SX_guardU rfl ?_ | refine SX_gsplitD rfl rfl (fun h => ?_) (fun h => ?_) | refine SX_gsplitN rfl rfl (fun h => ?_) (fun h => ?_) | refine SX_gsplit rfl rfl (fun h => ?_) (fun h => ?_) | refine SW_condT rfl ?_ | refine SW_condF rfl ?_ | refine SW_condD rfl (fun h => ?_) (fun h => ?_) | refine SW_condN rfl (fun h => ?_) (fun h => ?_) | refine SW_condB rfl (fun h => ?_) (fun h => ?_) | refine SW_cond rfl (fun h => ?_) (fun h => ?_) | refine SW_block ?_ | refine SW_skip ?_ | refine SW_exit ?_ | refine SN_bl0 ?_ | refine SN_blS rfl ?_ | refine SW_ret ?_ | refine SX_v (Val_len rfl) ?_ | refine SX_v (Val_fa rfl) ?_ | refine SX_v (Val_add rfl rfl (by omega) (by omega)) ?_ | refine SX_v (Val_sub rfl rfl (by omega) (by omega)) ?_ | refine SX_v (Val_mul rfl rfl (by omega) (by omega)) ?_ | refine SX_v (Val_quoN rfl rfl (by omega) (by omega) (by omega)) ?_ | refine SX_v (Val_remN rfl rfl (by omega) (by omega)) ?_ | refine SX_v (Val_min rfl rfl) ?_ | refine SX_v (Val_beq und_bool rfl rfl) ?_ | refine SX_v (Val_bne und_bool rfl rfl) ?_)
  exact SN_ret1 rfl (RV.tmp rfl) Imp.refl ⟨r, rfl, rfl, hr⟩
theorem l6Copy' (a : Sl Res) (w : World) (ha : Lod.rd lim w a) : F Try.prog 145 [a.val] w (rB Sl.val (fun r : Sl Res => r.l = a.l)) := by
  have sa : ∀ L, Src lim w L a := fun L => Src.arg ha
  have hn := rd_n ha
  refine F_of Try.func145 rfl rfl ?_
  repeat' (first | refine SX_w (SWl_bs (vs := []) rfl rfl (fun _ h => nomatch h) rfl rfl (fun b => SWl_x ?_)) | (refine SX_imp (Imp.ofBlkF ([] : List Res) rfl rfl (by decide)) ?_; refine SX_w (SWl_appS 0 (s := Sl.empA b) rfl rfl (sa _) rfl (by show 0 + a.n ≤ lim; omega) (by rfl) (by rfl) (by rfl) (by rfl) (by rfl) (fun r hr hn => SWl_x ?_))) | refine SX_run rfl rfl ?_ | refine SX_nil ?_ | refine SN_W ?_ | refine SW_seq ?_ | refine SW_regionX ?_ | refine SX_guardT rfl ?_ | refine SX_guardF rfl rfl ?_ | refine SX_guardU rfl ?_ | refine SX_gsplitD rfl rfl (fun h => ?_) (fun h => ?_) | refine SX_gsplitN rfl rfl (fun h => ?_) (fun h => ?_) | refine SX_gsplit rfl rfl (fun h => ?_) (fun h => ?_) | refine SW_condT rfl ?_ | refine SW_condF rfl ?_ | refine SW_condD rfl (fun h => ?_) (fun h => ?_) | refine SW_condN rfl (fun h => ?_) (fun h => ?_) | refine SW_condB rfl (fun h => ?_) (fun h => ?_) | refine SW_cond rfl (fun h => ?_) (fun h => ?_) | refine SW_block ?_ | refine SW_skip ?_ | refine SW_exit ?_ | refine SN_bl0 ?_ | refine SN_blS rfl ?_ | refine SW_ret ?_ | refine SX_v (Val_len rfl) ?_ | refine SX_v (Val_fa rfl) ?_ | refine SX_v (Val_add rfl rfl (by omega) (by omega)) ?_ | refine SX_v (Val_sub rfl rfl (by omega) (by omega)) ?_ | refine SX_v (Val_mul rfl rfl (by omega) (by omega)) ?_ | refine SX_v (Val_quoN rfl rfl (by omega) (by omega) (by omega)) ?_ | refine SX_v (Val_remN rfl rfl (by omega) (by omega)) ?_ | refine SX_v (Val_min rfl rfl) ?_ | refine SX_v (Val_beq und_bool rfl rfl) ?_ | refine SX_v (Val_bne und_bool rfl rfl) ?_)
  exact SN_ret1 rfl (RV.tmp rfl) Imp.refl ⟨r, rfl, rfl, hr⟩
end Go.Proofs.Ytldgapfdjpefkaa.E
