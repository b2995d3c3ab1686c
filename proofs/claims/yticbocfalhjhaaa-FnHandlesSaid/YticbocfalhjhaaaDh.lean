/-
  A handle tells part, slot and generation.
-/
import Derived.Test.YticbocfalhjhaaaDr
import Derived.Test.YticbocfalhjhaaaLaw
namespace Go.Proofs.Yticbocfalhjhaaa.E
open Go Go.RowKit
set_option maxRecDepth 100000
set_option maxHeartbeats 4000000

theorem hOf_tells {p s g : Int} (h : 0 ≤ hOf p s g) : hPart (hOf p s g) = p ∧ hSlot (hOf p s g) = s ∧ hGen (hOf p s g) = g := by
  unfold hOf at h ⊢
  split at h
  · rename_i c
    rw [if_pos c]
    unfold hPart hSlot hGen
    rw [if_pos (by omega), if_pos (by omega), if_pos (by omega)]
    omega
  · omega
theorem hPart_no {n : Int} (h : hPart n < 0) : hSlot n = -1 ∧ hGen n = -1 := by
  unfold hPart at h
  split at h
  · omega
  · rename_i c
    unfold hSlot hGen
    rw [if_neg c, if_neg c]
    exact ⟨rfl, rfl⟩
theorem hOf_same {n : Int} (h : ¬ hPart n < 0) : hOf (hPart n) (hSlot n) (hGen n) = n := by
  unfold hPart at h
  split at h
  · rename_i c
    unfold hPart hSlot hGen hOf
    rw [if_pos c, if_pos c, if_pos c, if_pos (by omega)]
    omega
  · omega
theorem wFnHandles (x0 : Sl UInt8) (w : World) (hx0 : Lod.rd maxLen w x0) : FB 10 [x0.val] w true := by
  refine F_of Try.func10 rfl rfl ?_
  repeat' (first | (refine SX_at 34 ?_; refine SX_callA rfl (fun w hw => big_h x0 w (Src.arg hx0 w hw)) ?_) | refine SX_run rfl rfl ?_ | refine SX_nil ?_ | refine SN_W ?_ | refine SW_seq ?_ | refine SW_regionX ?_ | refine SX_guardT rfl ?_ | refine SX_guardF rfl rfl ?_ | refine SX_guardU rfl ?_ | refine SX_gsplitD rfl rfl (fun h => ?_) (fun h => ?_) | refine SX_gsplitN rfl rfl (fun h => ?_) (fun h => ?_) | refine SX_gsplit rfl rfl (fun h => ?_) (fun h => ?_) | refine SW_condT rfl ?_ | refine SW_condF rfl ?_ | refine SW_condD rfl (fun h => ?_) (fun h => ?_) | refine SW_condN rfl (fun h => ?_) (fun h => ?_) | refine SW_condB rfl (fun h => ?_) (fun h => ?_) | refine SW_cond rfl (fun h => ?_) (fun h => ?_) | refine SW_block ?_ | refine SW_skip ?_ | refine SW_exit ?_ | refine SN_bl0 ?_ | refine SN_blS rfl ?_ | refine SW_ret ?_ | refine SX_v (Val_len rfl) ?_ | refine SX_v (Val_fa rfl) ?_ | refine SX_v (Val_add rfl rfl (by omega) (by omega)) ?_ | refine SX_v (Val_sub rfl rfl (by omega) (by omega)) ?_ | refine SX_v (Val_mul rfl rfl (by omega) (by omega)) ?_ | refine SX_v (Val_quoN rfl rfl (by omega) (by omega) (by omega)) ?_ | refine SX_v (Val_remN rfl rfl (by omega) (by omega)) ?_ | refine SX_v (Val_min rfl rfl) ?_ | refine SX_v (Val_beq und_bool rfl rfl) ?_ | refine SX_v (Val_bne und_bool rfl rfl) ?_)
  · exact SN_retB rfl rfl ⟨rfl, rfl⟩
  have hcn : x0.n ≤ 1048576 := by omega
  refine SWl_at 35 ?_
  refine SWl_call rfl (fun w hw => drawHandleOf x0 w (Src.arg hx0 w hw) hcn) ?_
  rintro v M ⟨p, s, g, rfl, rfl⟩
  refine SWl_x ?_
  clear h
  have ht := hOf_tells (p := p) (s := s) (g := g)
  repeat' (first | (refine SX_at 24 ?_; refine SX_callA rfl (fun w _ => HandleOf_i p s g w) ?_) | (refine SX_at 20 ?_; refine SX_callA rfl (fun w _ => HandlePart_i _ w) ?_) | (refine SX_at 22 ?_; refine SX_callA rfl (fun w _ => HandleSlot_i _ w) ?_) | (refine SX_at 18 ?_; refine SX_callA rfl (fun w _ => HandleGen_i _ w) ?_) | refine SX_run rfl rfl ?_ | refine SX_nil ?_ | refine SN_W ?_ | refine SW_seq ?_ | refine SW_regionX ?_ | refine SX_guardT rfl ?_ | refine SX_guardF rfl rfl ?_ | refine SX_guardU rfl ?_ | refine SX_gsplitD rfl rfl (fun h => ?_) (fun h => ?_) | refine SX_gsplitN rfl rfl (fun h => ?_) (fun h => ?_) | refine SX_gsplit rfl rfl (fun h => ?_) (fun h => ?_) | refine SW_condT rfl ?_ | refine SW_condF rfl ?_ | refine SW_condD rfl (fun h => ?_) (fun h => ?_) | refine SW_condN rfl (fun h => ?_) (fun h => ?_) | refine SW_condB rfl (fun h => ?_) (fun h => ?_) | refine SW_cond rfl (fun h => ?_) (fun h => ?_) | refine SW_block ?_ | refine SW_skip ?_ | refine SW_exit ?_ | refine SN_bl0 ?_ | refine SN_blS rfl ?_ | refine SW_ret ?_ | refine SX_v (Val_len rfl) ?_ | refine SX_v (Val_fa rfl) ?_ | refine SX_v (Val_add rfl rfl (by omega) (by omega)) ?_ | refine SX_v (Val_sub rfl rfl (by omega) (by omega)) ?_ | refine SX_v (Val_mul rfl rfl (by omega) (by omega)) ?_ | refine SX_v (Val_quoN rfl rfl (by omega) (by omega) (by omega)) ?_ | refine SX_v (Val_remN rfl rfl (by omega) (by omega)) ?_ | refine SX_v (Val_min rfl rfl) ?_ | refine SX_v (Val_beq und_bool rfl rfl) ?_ | refine SX_v (Val_bne und_bool rfl rfl) ?_)
  all_goals try
    exfalso
    clear hx0
    grind
  all_goals
    refine SWl_at 36 ?_
    refine SWl_call rfl (fun w hw => drawHandlePart x0 w (Src.arg hx0 w hw) hcn) ?_
    rintro v M ⟨n, rfl, rfl⟩
    refine SWl_x ?_
    clear ht
    have h1 := hPart_no (n := n)
    have h2 := hOf_same (n := n)
    repeat' (first | (refine SX_at 24 ?_; refine SX_callA rfl (fun w _ => HandleOf_i _ _ _ w) ?_) | (refine SX_at 20 ?_; refine SX_callA rfl (fun w _ => HandlePart_i n w) ?_) | (refine SX_at 22 ?_; refine SX_callA rfl (fun w _ => HandleSlot_i n w) ?_) | (refine SX_at 18 ?_; refine SX_callA rfl (fun w _ => HandleGen_i n w) ?_) | refine SX_run rfl rfl ?_ | refine SX_nil ?_ | refine SN_W ?_ | refine SW_seq ?_ | refine SW_regionX ?_ | refine SX_guardT rfl ?_ | refine SX_guardF rfl rfl ?_ | refine SX_guardU rfl ?_ | refine SX_gsplitD rfl rfl (fun h => ?_) (fun h => ?_) | refine SX_gsplitN rfl rfl (fun h => ?_) (fun h => ?_) | refine SX_gsplit rfl rfl (fun h => ?_) (fun h => ?_) | refine SW_condT rfl ?_ | refine SW_condF rfl ?_ | refine SW_condD rfl (fun h => ?_) (fun h => ?_) | refine SW_condN rfl (fun h => ?_) (fun h => ?_) | refine SW_condB rfl (fun h => ?_) (fun h => ?_) | refine SW_cond rfl (fun h => ?_) (fun h => ?_) | refine SW_block ?_ | refine SW_skip ?_ | refine SW_exit ?_ | refine SN_bl0 ?_ | refine SN_blS rfl ?_ | refine SW_ret ?_ | refine SX_v (Val_len rfl) ?_ | refine SX_v (Val_fa rfl) ?_ | refine SX_v (Val_add rfl rfl (by omega) (by omega)) ?_ | refine SX_v (Val_sub rfl rfl (by omega) (by omega)) ?_ | refine SX_v (Val_mul rfl rfl (by omega) (by omega)) ?_ | refine SX_v (Val_quoN rfl rfl (by omega) (by omega) (by omega)) ?_ | refine SX_v (Val_remN rfl rfl (by omega) (by omega)) ?_ | refine SX_v (Val_min rfl rfl) ?_ | refine SX_v (Val_beq und_bool rfl rfl) ?_ | refine SX_v (Val_bne und_bool rfl rfl) ?_)
    all_goals
      refine SN_retB rfl rfl ⟨?_, rfl⟩
      congr 1
      clear hx0
      grind
end Go.Proofs.Yticbocfalhjhaaa.E
