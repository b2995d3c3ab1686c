/-
  The law: what is reached is the root and what leads on from it.
-/
import Derived.Test.YtandadfmmohhhaaRq
import Derived.Test.YtandadfmmohhhaaDc
import Derived.Test.YtandadfmmohhhaaLaw
namespace Go.Proofs.Ytandadfmmohhhaa.E
open Go Go.RowKit
set_option maxRecDepth 100000
set_option maxHeartbeats 2000000

theorem hasV {P : Prop} [Decidable P] {b : Bool} (h : b = true ↔ P) : decide P = b := by
  cases b
  · exact decide_eq_false (fun e => by have := h.2 e; cases this)
  · exact decide_eq_true (h.1 rfl)
theorem hasB {m : Nat} (a : Sl Int) (x : Int) (v : Bool) (hv : v = true ↔ x ∈ a.l) (w : World) (ha : Lod.rd m w a) : FB 29 [a.val, .int .i64 x] w v := by
  have := has_h a x w ha
  rwa [hasV hv] at this
theorem iExpF {m : Nat} (x : ObjL) (now : Int) (w : World) (hx : Lod.rd m w x) (h : expired x.pl now = false) : FB 31 [agg x, .int .i64 now] w false := by
  have := iExpired x now w hx
  rwa [h] at this
theorem wFnReached (x0 : Sl UInt8) (w : World) (hx0 : Lod.rd maxLen w x0) : FB 5 [x0.val] w true := by
  refine F_of Try.func5 rfl rfl ?_
  repeat' (first | (refine SX_at 24 ?_; refine SX_callA rfl (fun w hw => big_h x0 w (Src.arg hx0 w hw)) ?_) | refine SX_run rfl rfl ?_ | refine SX_nil ?_ | refine SN_W ?_ | refine SW_seq ?_ | refine SW_regionX ?_ | refine SX_guardT rfl ?_ | refine SX_guardF rfl rfl ?_ | refine SX_guardU rfl ?_ | refine SX_gsplitD rfl rfl (fun h => ?_) (fun h => ?_) | refine SX_gsplitN rfl rfl (fun h => ?_) (fun h => ?_) | refine SX_gsplit rfl rfl (fun h => ?_) (fun h => ?_) | refine SW_condT rfl ?_ | refine SW_condF rfl ?_ | refine SW_condD rfl (fun h => ?_) (fun h => ?_) | refine SW_condN rfl (fun h => ?_) (fun h => ?_) | refine SW_condB rfl (fun h => ?_) (fun h => ?_) | refine SW_cond rfl (fun h => ?_) (fun h => ?_) | refine SW_block ?_ | refine SW_skip ?_ | refine SW_exit ?_ | refine SN_bl0 ?_ | refine SN_blS rfl ?_ | refine SW_ret ?_ | refine SX_v (Val_len rfl) ?_ | refine SX_v (Val_fa rfl) ?_ | refine SX_v (Val_add rfl rfl (by omega) (by omega)) ?_ | refine SX_v (Val_sub rfl rfl (by omega) (by omega)) ?_ | refine SX_v (Val_mul rfl rfl (by omega) (by omega)) ?_ | refine SX_v (Val_quoN rfl rfl (by omega) (by omega) (by omega)) ?_ | refine SX_v (Val_remN rfl rfl (by omega) (by omega)) ?_ | refine SX_v (Val_min rfl rfl) ?_ | refine SX_v (Val_beq und_bool rfl rfl) ?_ | refine SX_v (Val_bne und_bool rfl rfl) ?_)
  · exact SN_retB rfl rfl ⟨rfl, rfl⟩
  have hcn : x0.n ≤ 1048576 := by omega
  refine SWl_at 25 ?_
  refine SWl_call rfl (fun w hw => drawReach x0 w (Src.arg hx0 w hw) hcn) ?_
  rintro v M ⟨a, now, rfl, hR, rfl⟩
  refine SWl_x ?_
  clear h
  repeat' (first | refine SX_run rfl rfl ?_ | refine SX_nil ?_ | refine SN_W ?_ | refine SW_seq ?_ | refine SW_regionX ?_ | refine SX_guardT rfl ?_ | refine SX_guardF rfl rfl ?_ | refine SX_guardU rfl ?_ | refine SX_gsplitD rfl rfl (fun h => ?_) (fun h => ?_) | refine SX_gsplitN rfl rfl (fun h => ?_) (fun h => ?_) | refine SX_gsplit rfl rfl (fun h => ?_) (fun h => ?_) | refine SW_condT rfl ?_ | refine SW_condF rfl ?_ | refine SW_condD rfl (fun h => ?_) (fun h => ?_) | refine SW_condN rfl (fun h => ?_) (fun h => ?_) | refine SW_condB rfl (fun h => ?_) (fun h => ?_) | refine SW_cond rfl (fun h => ?_) (fun h => ?_) | refine SW_block ?_ | refine SW_skip ?_ | refine SW_exit ?_ | refine SN_bl0 ?_ | refine SN_blS rfl ?_ | refine SW_ret ?_ | refine SX_v (Val_len rfl) ?_ | refine SX_v (Val_fa rfl) ?_ | refine SX_v (Val_add rfl rfl (by omega) (by omega)) ?_ | refine SX_v (Val_sub rfl rfl (by omega) (by omega)) ?_ | refine SX_v (Val_mul rfl rfl (by omega) (by omega)) ?_ | refine SX_v (Val_quoN rfl rfl (by omega) (by omega) (by omega)) ?_ | refine SX_v (Val_remN rfl rfl (by omega) (by omega)) ?_ | refine SX_v (Val_min rfl rfl) ?_ | refine SX_v (Val_beq und_bool rfl rfl) ?_ | refine SX_v (Val_bne und_bool rfl rfl) ?_)
  (refine SWl_at 26 ?_; refine SWl_callB rfl (fun w hw => iReach a now w (by exact Src.own 0 rfl w hw) hR) (fun r hr => SWl_x ?_))
  repeat' (first | refine SX_run rfl rfl ?_ | refine SX_nil ?_ | refine SN_W ?_ | refine SW_seq ?_ | refine SW_regionX ?_ | refine SX_guardT rfl ?_ | refine SX_guardF rfl rfl ?_ | refine SX_guardU rfl ?_ | refine SX_gsplitD rfl rfl (fun h => ?_) (fun h => ?_) | refine SX_gsplitN rfl rfl (fun h => ?_) (fun h => ?_) | refine SX_gsplit rfl rfl (fun h => ?_) (fun h => ?_) | refine SW_condT rfl ?_ | refine SW_condF rfl ?_ | refine SW_condD rfl (fun h => ?_) (fun h => ?_) | refine SW_condN rfl (fun h => ?_) (fun h => ?_) | refine SW_condB rfl (fun h => ?_) (fun h => ?_) | refine SW_cond rfl (fun h => ?_) (fun h => ?_) | refine SW_block ?_ | refine SW_skip ?_ | refine SW_exit ?_ | refine SN_bl0 ?_ | refine SN_blS rfl ?_ | refine SW_ret ?_ | refine SX_v (Val_len rfl) ?_ | refine SX_v (Val_fa rfl) ?_ | refine SX_v (Val_add rfl rfl (by omega) (by omega)) ?_ | refine SX_v (Val_sub rfl rfl (by omega) (by omega)) ?_ | refine SX_v (Val_mul rfl rfl (by omega) (by omega)) ?_ | refine SX_v (Val_quoN rfl rfl (by omega) (by omega) (by omega)) ?_ | refine SX_v (Val_remN rfl rfl (by omega) (by omega)) ?_ | refine SX_v (Val_min rfl rfl) ?_ | refine SX_v (Val_beq und_bool rfl rfl) ?_ | refine SX_v (Val_bne und_bool rfl rfl) ?_)
  (refine SWl_at 27 ?_; refine SWl_callB rfl (fun w hw => iGarbage a now w (by exact Src.own 1 rfl w hw) hR) (fun g hg => SWl_x ?_))
  repeat' (first | refine SX_run rfl rfl ?_ | refine SX_nil ?_ | refine SN_W ?_ | refine SW_seq ?_ | refine SW_regionX ?_ | refine SX_guardT rfl ?_ | refine SX_guardF rfl rfl ?_ | refine SX_guardU rfl ?_ | refine SX_gsplitD rfl rfl (fun h => ?_) (fun h => ?_) | refine SX_gsplitN rfl rfl (fun h => ?_) (fun h => ?_) | refine SX_gsplit rfl rfl (fun h => ?_) (fun h => ?_) | refine SW_condT rfl ?_ | refine SW_condF rfl ?_ | refine SW_condD rfl (fun h => ?_) (fun h => ?_) | refine SW_condN rfl (fun h => ?_) (fun h => ?_) | refine SW_condB rfl (fun h => ?_) (fun h => ?_) | refine SW_cond rfl (fun h => ?_) (fun h => ?_) | refine SW_block ?_ | refine SW_skip ?_ | refine SW_exit ?_ | refine SN_bl0 ?_ | refine SN_blS rfl ?_ | refine SW_ret ?_ | refine SX_v (Val_len rfl) ?_ | refine SX_v (Val_fa rfl) ?_ | refine SX_v (Val_add rfl rfl (by omega) (by omega)) ?_ | refine SX_v (Val_sub rfl rfl (by omega) (by omega)) ?_ | refine SX_v (Val_mul rfl rfl (by omega) (by omega)) ?_ | refine SX_v (Val_quoN rfl rfl (by omega) (by omega) (by omega)) ?_ | refine SX_v (Val_remN rfl rfl (by omega) (by omega)) ?_ | refine SX_v (Val_min rfl rfl) ?_ | refine SX_v (Val_beq und_bool rfl rfl) ?_ | refine SX_v (Val_bne und_bool rfl rfl) ?_)
  refine SX_imp (L' := [Own g, Own r, Own a]) Imp.refl ?_
  (refine SX_at 20 ?_; refine SX_callA rfl (fun w hw => sArenaOk a w (by exact Src.own 2 rfl w hw) hR) ?_)
  repeat' (first | refine SX_run rfl rfl ?_ | refine SX_nil ?_ | refine SN_W ?_ | refine SW_seq ?_ | refine SW_regionX ?_ | refine SX_guardT rfl ?_ | refine SX_guardF rfl rfl ?_ | refine SX_guardU rfl ?_ | refine SX_gsplitD rfl rfl (fun h => ?_) (fun h => ?_) | refine SX_gsplitN rfl rfl (fun h => ?_) (fun h => ?_) | refine SX_gsplit rfl rfl (fun h => ?_) (fun h => ?_) | refine SW_condT rfl ?_ | refine SW_condF rfl ?_ | refine SW_condD rfl (fun h => ?_) (fun h => ?_) | refine SW_condN rfl (fun h => ?_) (fun h => ?_) | refine SW_condB rfl (fun h => ?_) (fun h => ?_) | refine SW_cond rfl (fun h => ?_) (fun h => ?_) | refine SW_block ?_ | refine SW_skip ?_ | refine SW_exit ?_ | refine SN_bl0 ?_ | refine SN_blS rfl ?_ | refine SW_ret ?_ | refine SX_v (Val_len rfl) ?_ | refine SX_v (Val_fa rfl) ?_ | refine SX_v (Val_add rfl rfl (by omega) (by omega)) ?_ | refine SX_v (Val_sub rfl rfl (by omega) (by omega)) ?_ | refine SX_v (Val_mul rfl rfl (by omega) (by omega)) ?_ | refine SX_v (Val_quoN rfl rfl (by omega) (by omega) (by omega)) ?_ | refine SX_v (Val_remN rfl rfl (by omega) (by omega)) ?_ | refine SX_v (Val_min rfl rfl) ?_ | refine SX_v (Val_beq und_bool rfl rfl) ?_ | refine SX_v (Val_bne und_bool rfl rfl) ?_)
  · rename_i hno
    have e1 : g.n = 0 := by rw [← g.hn, hg]; unfold garbage; rw [reach_nil hno]; rfl
    exact SN_retB rfl rfl ⟨by rw [decide_eq_true (show ((g.n : Nat) : Int) = 0 by omega)], rfl⟩
  · rename_i hno
    have e1 : r.n = 0 := by rw [← r.hn, hr, reach_nil hno]; rfl
    exfalso; omega
  · rename_i hA
    have hrn : r.n = 10 := by rw [← r.hn, hr, reach_len hA]
    exfalso; omega
  rename_i hA
  clear h
  have hn := arenaOk_n hA
  have hrn : r.n = 10 := by rw [← r.hn, hr, reach_len hA]
  have hRt : ∀ (k : Nat) (hk : k < r.n), r.nth k hk = true ↔ Rch (a.l.map ObjL.pl) now k := fun k hk => by rw [← tr_nth hk, hr, reach_tr hA]
  have h0 : r.nth 0 (by omega) = true := (hRt 0 _).2 .root
  repeat' (first | refine SX_v (Val_ix (s := r) (Src.own 1 rfl) rfl rfl 0 rfl (by omega)) ?_ | refine SX_v (Val_ldE (s := r) (Src.own 1 rfl) (i := 0) rfl rfl (by omega) rfl) ?_ | refine SX_run rfl rfl ?_ | refine SX_nil ?_ | refine SN_W ?_ | refine SW_seq ?_ | refine SW_regionX ?_ | refine SX_guardT rfl ?_ | refine SX_guardF rfl rfl ?_ | refine SX_guardU rfl ?_ | refine SX_gsplitD rfl rfl (fun h => ?_) (fun h => ?_) | refine SX_gsplitN rfl rfl (fun h => ?_) (fun h => ?_) | refine SX_gsplit rfl rfl (fun h => ?_) (fun h => ?_) | refine SW_condT rfl ?_ | refine SW_condF rfl ?_ | refine SW_condD rfl (fun h => ?_) (fun h => ?_) | refine SW_condN rfl (fun h => ?_) (fun h => ?_) | refine SW_condB rfl (fun h => ?_) (fun h => ?_) | refine SW_cond rfl (fun h => ?_) (fun h => ?_) | refine SW_block ?_ | refine SW_skip ?_ | refine SW_exit ?_ | refine SN_bl0 ?_ | refine SN_blS rfl ?_ | refine SW_ret ?_ | refine SX_v (Val_len rfl) ?_ | refine SX_v (Val_fa rfl) ?_ | refine SX_v (Val_add rfl rfl (by omega) (by omega)) ?_ | refine SX_v (Val_sub rfl rfl (by omega) (by omega)) ?_ | refine SX_v (Val_mul rfl rfl (by omega) (by omega)) ?_ | refine SX_v (Val_quoN rfl rfl (by omega) (by omega) (by omega)) ?_ | refine SX_v (Val_remN rfl rfl (by omega) (by omega)) ?_ | refine SX_v (Val_min rfl rfl) ?_ | refine SX_v (Val_beq und_bool rfl rfl) ?_ | refine SX_v (Val_bne und_bool rfl rfl) ?_)
  · rw [h0] at h; cases h
  clear h h0
  refine SW_loop (fun q σ L => ∃ i : Nat, q = 10 - i ∧ i ≤ 10 ∧ L = [Own g, Own r, Own a] ∧ ∃ τ, σ = ups τ [(7, .int .i64 i), (6, g.val), (5, r.val), (4, .int .i64 now), (3, a.val)]) 10 Imp.refl ⟨0, rfl, by omega, rfl, ups_ex ⟨rfl, rfl, rfl, rfl, rfl, trivial⟩⟩ ?_
  rintro q σ L ⟨i, rfl, hi, rfl, τ, rfl⟩
  by_cases hlt : i < 10
  · have hia : i < a.n := by omega
    have hir : i < r.n := by omega
    repeat' (first | refine SX_run rfl rfl ?_ | refine SX_nil ?_ | refine SN_W ?_ | refine SW_seq ?_ | refine SW_regionX ?_ | refine SX_guardT rfl ?_ | refine SX_guardF rfl rfl ?_ | refine SX_guardU rfl ?_ | refine SX_gsplitD rfl rfl (fun h => ?_) (fun h => ?_) | refine SX_gsplitN rfl rfl (fun h => ?_) (fun h => ?_) | refine SX_gsplit rfl rfl (fun h => ?_) (fun h => ?_) | refine SW_condT rfl ?_ | refine SW_condF rfl ?_ | refine SW_condD rfl (fun h => ?_) (fun h => ?_) | refine SW_condN rfl (fun h => ?_) (fun h => ?_) | refine SW_condB rfl (fun h => ?_) (fun h => ?_) | refine SW_cond rfl (fun h => ?_) (fun h => ?_) | refine SW_block ?_ | refine SW_skip ?_ | refine SW_exit ?_ | refine SN_bl0 ?_ | refine SN_blS rfl ?_ | refine SW_ret ?_ | refine SX_v (Val_len rfl) ?_ | refine SX_v (Val_fa rfl) ?_ | refine SX_v (Val_add rfl rfl (by omega) (by omega)) ?_ | refine SX_v (Val_sub rfl rfl (by omega) (by omega)) ?_ | refine SX_v (Val_mul rfl rfl (by omega) (by omega)) ?_ | refine SX_v (Val_quoN rfl rfl (by omega) (by omega) (by omega)) ?_ | refine SX_v (Val_remN rfl rfl (by omega) (by omega)) ?_ | refine SX_v (Val_min rfl rfl) ?_ | refine SX_v (Val_beq und_bool rfl rfl) ?_ | refine SX_v (Val_bne und_bool rfl rfl) ?_)
    · refine SW_loop (fun q σ L => ∃ (k : Nat) (d : Bool), q = 10 - k ∧ k ≤ 10 ∧ (d = true ↔ Led (a.l.map ObjL.pl) now i k) ∧ L = [Own g, Own r, Own a] ∧ ∃ τ, σ = ups τ [(9, .int .i64 k), (8, .bool d), (7, .int .i64 i), (6, g.val), (5, r.val), (4, .int .i64 now), (3, a.val)]) 10 Imp.refl ⟨0, _, rfl, by omega, ?_, rfl, ups_ex ⟨rfl, rfl, rfl, rfl, rfl, rfl, rfl, trivial⟩⟩ ?_
      · rw [decide_eq_true_iff]
        unfold Led
        constructor
        · intro e; exact .inl (by omega)
        · rintro (e | ⟨_, e, _⟩)
          · omega
          · omega
      rintro q σ L ⟨k, d, rfl, hk, hd, rfl, τ, rfl⟩
      by_cases hkt : k < 10
      · have hkr : k < r.n := by omega
        repeat' (first | refine SX_run rfl rfl ?_ | refine SX_nil ?_ | refine SN_W ?_ | refine SW_seq ?_ | refine SW_regionX ?_ | refine SX_guardT rfl ?_ | refine SX_guardF rfl rfl ?_ | refine SX_guardU rfl ?_ | refine SX_gsplitD rfl rfl (fun h => ?_) (fun h => ?_) | refine SX_gsplitN rfl rfl (fun h => ?_) (fun h => ?_) | refine SX_gsplit rfl rfl (fun h => ?_) (fun h => ?_) | refine SW_condT rfl ?_ | refine SW_condF rfl ?_ | refine SW_condD rfl (fun h => ?_) (fun h => ?_) | refine SW_condN rfl (fun h => ?_) (fun h => ?_) | refine SW_condB rfl (fun h => ?_) (fun h => ?_) | refine SW_cond rfl (fun h => ?_) (fun h => ?_) | refine SW_block ?_ | refine SW_skip ?_ | refine SW_exit ?_ | refine SN_bl0 ?_ | refine SN_blS rfl ?_ | refine SW_ret ?_ | refine SX_v (Val_len rfl) ?_ | refine SX_v (Val_fa rfl) ?_ | refine SX_v (Val_add rfl rfl (by omega) (by omega)) ?_ | refine SX_v (Val_sub rfl rfl (by omega) (by omega)) ?_ | refine SX_v (Val_mul rfl rfl (by omega) (by omega)) ?_ | refine SX_v (Val_quoN rfl rfl (by omega) (by omega) (by omega)) ?_ | refine SX_v (Val_remN rfl rfl (by omega) (by omega)) ?_ | refine SX_v (Val_min rfl rfl) ?_ | refine SX_v (Val_beq und_bool rfl rfl) ?_ | refine SX_v (Val_bne und_bool rfl rfl) ?_)
        · (refine SWl_at 28 ?_; refine SWl_callB rfl (fun w hw => iEdges a k w (by exact Src.own 2 rfl w hw) hR) (fun e he => SWl_x ?_))
          repeat' (first | refine SX_v (Val_ix (s := r) (Src.own 2 rfl) rfl rfl k rfl hkr) ?_ | refine SX_v (Val_ldE (s := r) (Src.own 2 rfl) rfl rfl hkr rfl) ?_ | refine SX_v (Val_ix (s := r) (Src.own 2 rfl) rfl rfl i rfl hir) ?_ | refine SX_v (Val_ldE (s := r) (Src.own 2 rfl) rfl rfl hir rfl) ?_ | refine SX_v (Val_ix (s := a) (Src.own 3 rfl) rfl rfl i rfl hia) ?_ | refine SX_v (Val_ldAE (s := a) (Src.own 3 rfl) rfl rfl hia) ?_ | (refine SX_at 29 ?_; refine SX_callA rfl (fun w hw => has_h e i w (by exact Src.own 0 rfl w hw)) ?_) | (refine SX_at 30 ?_; refine SX_callA rfl (fun w hw => sExpired (a.nth i hia) now w (Src.elem (Src.own 3 rfl) i hia w hw)) ?_) | refine SX_run rfl rfl ?_ | refine SX_nil ?_ | refine SN_W ?_ | refine SW_seq ?_ | refine SW_regionX ?_ | refine SX_guardT rfl ?_ | refine SX_guardF rfl rfl ?_ | refine SX_guardU rfl ?_ | refine SX_gsplitD rfl rfl (fun h => ?_) (fun h => ?_) | refine SX_gsplitN rfl rfl (fun h => ?_) (fun h => ?_) | refine SX_gsplit rfl rfl (fun h => ?_) (fun h => ?_) | refine SW_condT rfl ?_ | refine SW_condF rfl ?_ | refine SW_condD rfl (fun h => ?_) (fun h => ?_) | refine SW_condN rfl (fun h => ?_) (fun h => ?_) | refine SW_condB rfl (fun h => ?_) (fun h => ?_) | refine SW_cond rfl (fun h => ?_) (fun h => ?_) | refine SW_block ?_ | refine SW_skip ?_ | refine SW_exit ?_ | refine SN_bl0 ?_ | refine SN_blS rfl ?_ | refine SW_ret ?_ | refine SX_v (Val_len rfl) ?_ | refine SX_v (Val_fa rfl) ?_ | refine SX_v (Val_add rfl rfl (by omega) (by omega)) ?_ | refine SX_v (Val_sub rfl rfl (by omega) (by omega)) ?_ | refine SX_v (Val_mul rfl rfl (by omega) (by omega)) ?_ | refine SX_v (Val_quoN rfl rfl (by omega) (by omega) (by omega)) ?_ | refine SX_v (Val_remN rfl rfl (by omega) (by omega)) ?_ | refine SX_v (Val_min rfl rfl) ?_ | refine SX_v (Val_beq und_bool rfl rfl) ?_ | refine SX_v (Val_bne und_bool rfl rfl) ?_)
          · exfalso
            have hm : (i : Int) ∈ edgesN (a.l.map ObjL.pl) k 10 := by rw [← edges_live hA hkt (Rch.kind hA ((hRt k hkr).1 (by assumption))), ← he]; assumption
            have hx : expired (a.nth i hia).pl now = false := by rename_i hx; simpa using hx
            rw [expired_nth] at hx
            have := (hRt i hir).2 (led_live ((hRt k hkr).1 (by assumption)) hm hx)
            rw [this] at h; cases h
          · have hm : (i : Int) ∈ edgesN (a.l.map ObjL.pl) k 10 := by rw [← edges_live hA hkt (Rch.kind hA ((hRt k hkr).1 (by assumption))), ← he]; assumption
            exact SN_back (10 - (k + 1)) (by omega) (Imp.drop Imp.refl) ⟨k + 1, true, rfl, by omega, ⟨fun _ => led_step.2 (.inr ⟨(hRt k hkr).1 (by assumption), hm⟩), fun _ => rfl⟩, rfl, ups_ex ⟨rfl, rfl, rfl, rfl, rfl, rfl, rfl, trivial⟩⟩
          · have hm : (i : Int) ∈ edgesN (a.l.map ObjL.pl) k 10 := by rw [← edges_live hA hkt (Rch.kind hA ((hRt k hkr).1 (by assumption))), ← he]; assumption
            exact SN_back (10 - (k + 1)) (by omega) (Imp.drop Imp.refl) ⟨k + 1, true, rfl, by omega, ⟨fun _ => led_step.2 (.inr ⟨(hRt k hkr).1 (by assumption), hm⟩), fun _ => rfl⟩, rfl, ups_ex ⟨rfl, rfl, rfl, rfl, rfl, rfl, rfl, trivial⟩⟩
          · have hm : ¬ (i : Int) ∈ edgesN (a.l.map ObjL.pl) k 10 := by rw [← edges_live hA hkt (Rch.kind hA ((hRt k hkr).1 (by assumption))), ← he]; assumption
            exact SN_back (10 - (k + 1)) (by omega) (Imp.drop Imp.refl) ⟨k + 1, d, rfl, by omega, ⟨fun e => led_step.2 (.inl (hd.1 e)), fun e => (led_step.1 e).elim hd.2 fun e2 => absurd e2.2 hm⟩, rfl, ups_ex ⟨rfl, rfl, rfl, rfl, rfl, rfl, rfl, trivial⟩⟩
          · have hnk : ¬ Rch (a.l.map ObjL.pl) now k := fun e => by rw [(hRt k hkr).2 e] at h; cases h
            exact SN_back (10 - (k + 1)) (by omega) (Imp.drop Imp.refl) ⟨k + 1, d, rfl, by omega, ⟨fun e => led_step.2 (.inl (hd.1 e)), fun e => (led_step.1 e).elim hd.2 fun e2 => absurd e2.1 hnk⟩, rfl, ups_ex ⟨rfl, rfl, rfl, rfl, rfl, rfl, rfl, trivial⟩⟩
        · exfalso; omega
      repeat' (first | refine SX_run rfl rfl ?_ | refine SX_nil ?_ | refine SN_W ?_ | refine SW_seq ?_ | refine SW_regionX ?_ | refine SX_guardT rfl ?_ | refine SX_guardF rfl rfl ?_ | refine SX_guardU rfl ?_ | refine SX_gsplitD rfl rfl (fun h => ?_) (fun h => ?_) | refine SX_gsplitN rfl rfl (fun h => ?_) (fun h => ?_) | refine SX_gsplit rfl rfl (fun h => ?_) (fun h => ?_) | refine SW_condT rfl ?_ | refine SW_condF rfl ?_ | refine SW_condD rfl (fun h => ?_) (fun h => ?_) | refine SW_condN rfl (fun h => ?_) (fun h => ?_) | refine SW_condB rfl (fun h => ?_) (fun h => ?_) | refine SW_cond rfl (fun h => ?_) (fun h => ?_) | refine SW_block ?_ | refine SW_skip ?_ | refine SW_exit ?_ | refine SN_bl0 ?_ | refine SN_blS rfl ?_ | refine SW_ret ?_ | refine SX_v (Val_len rfl) ?_ | refine SX_v (Val_fa rfl) ?_ | refine SX_v (Val_add rfl rfl (by omega) (by omega)) ?_ | refine SX_v (Val_sub rfl rfl (by omega) (by omega)) ?_ | refine SX_v (Val_mul rfl rfl (by omega) (by omega)) ?_ | refine SX_v (Val_quoN rfl rfl (by omega) (by omega) (by omega)) ?_ | refine SX_v (Val_remN rfl rfl (by omega) (by omega)) ?_ | refine SX_v (Val_min rfl rfl) ?_ | refine SX_v (Val_beq und_bool rfl rfl) ?_ | refine SX_v (Val_bne und_bool rfl rfl) ?_)
      · exfalso; omega
      have hk10 : k = 10 := by omega
      subst hk10
      by_cases hri : Rch (a.l.map ObjL.pl) now i
      · obtain rfl : d = true := hd.2 (rch_led hri)
        have hrt : r.nth i hir = true := (hRt i hir).2 hri
        have hgi : false = true ↔ (i : Int) ∈ g.l := ⟨fun e => (by cases e), fun e => absurd hri ((mem_garb hA).1 (hg ▸ e)).2.2⟩
        refine SW_regionA mixed ?_
        refine SA_pv 0 (by kernel_rfl) rfl (fun _ => Val_pv rfl) rfl ?_; refine SA_pv 1 (by kernel_rfl) rfl (fun _ => Val_pv rfl) rfl ?_
        refine SA_ld 2 (by kernel_rfl) rfl (Val_ix (s := r) (Src.own 1 rfl) rfl rfl i rfl hir) rfl ?_
        refine SA_ld 3 (by kernel_rfl) rfl (Val_ldE (s := r) (Src.own 1 rfl) rfl rfl hir (v := .bool true) (by rw [hrt]; rfl)) rfl ?_
        refine SA_pv 4 (by kernel_rfl) rfl (fun _ => Val_pv rfl) rfl ?_
        refine SA_pvg 5 (by kernel_rfl) rfl rfl (fun _ => Val_pv rfl) ?_; refine SA_pvg 6 (by kernel_rfl) rfl rfl (fun _ => Val_pv rfl) ?_; refine SA_pvg 7 (by kernel_rfl) rfl rfl (fun _ => Val_pv rfl) ?_; refine SA_pvg 8 (by kernel_rfl) rfl rfl (fun _ => Val_pv rfl) ?_; refine SA_pvg 9 (by kernel_rfl) rfl rfl (fun _ => Val_pv rfl) ?_; refine SA_pvg 10 (by kernel_rfl) rfl rfl (fun _ => Val_pv rfl) ?_
        refine SA_splitD 94 rfl (fun hi0 => ?_) (fun hi0 => ?_)
        · have hx : expired (a.nth i hia).pl now = false := by
            rw [expired_nth]
            exact (Rch.live hri).elim (fun e => by omega) id
          refine SA_pvg 11 (by kernel_rfl) rfl rfl (fun _ => Val_pv rfl) ?_; refine SA_pvg 12 (by kernel_rfl) rfl rfl (fun _ => Val_pv rfl) ?_
          refine SA_ldg 13 (by kernel_rfl) rfl rfl (Val_ix (s := a) (Src.own 2 rfl) rfl rfl i rfl hia) rfl ?_
          refine SA_ldg 14 (by kernel_rfl) rfl rfl (Val_ldAE (s := a) (Src.own 2 rfl) rfl rfl hia) rfl ?_
          refine SA_pvg 15 (by kernel_rfl) rfl rfl (fun _ => Val_pv rfl) ?_
          refine SA_only 16 (by kernel_rfl) rfl ?_
          refine SX_guardT rfl ?_
          (refine SX_at 31 ?_; refine SX_callA rfl (fun w hw => iExpF (a.nth i hia) now w (Src.elem (Src.own 2 rfl) i hia w hw) hx) ?_)
          refine SX_nil ?_
          refine SN_AN [] Imp.refl ?_
          refine SA_pvg 17 (by kernel_rfl) rfl rfl (fun _ => Val_pv rfl) ?_; refine SA_pvg 18 (by kernel_rfl) rfl rfl (fun _ => Val_pv rfl) ?_
          refine SA_pv 19 (by kernel_rfl) rfl (fun _ => Val_pv rfl) rfl ?_; refine SA_pv 20 (by kernel_rfl) rfl (fun _ => Val_pv rfl) rfl ?_
          refine SA_pvg 21 (by kernel_rfl) rfl rfl (fun _ => Val_pv rfl) ?_; refine SA_pvg 22 (by kernel_rfl) rfl rfl (fun _ => Val_pv rfl) ?_; refine SA_pvg 24 (by kernel_rfl) rfl rfl (fun _ => Val_pv rfl) ?_; refine SA_pvg 25 (by kernel_rfl) rfl rfl (fun _ => Val_pv rfl) ?_
          refine SA_ldg 26 (by kernel_rfl) rfl rfl (Val_ix (s := r) (Src.own 1 rfl) rfl rfl i rfl hir) rfl ?_
          refine SA_ldg 27 (by kernel_rfl) rfl rfl (Val_ldE (s := r) (Src.own 1 rfl) rfl rfl hir (v := .bool true) (by rw [hrt]; rfl)) rfl ?_
          refine SA_only 23 (by kernel_rfl) rfl ?_
          refine SX_guardT rfl ?_
          (refine SX_at 29 ?_; refine SX_callA rfl (fun w hw => hasB g i false hgi w (by exact Src.own 0 rfl w hw)) ?_)
          refine SX_nil ?_
          refine SN_AN [] Imp.refl ?_
          refine SA_pvg 28 (by kernel_rfl) rfl rfl (fun _ => Val_pv rfl) ?_
          (first | refine SA_off 29 (by kernel_rfl) rfl rfl rfl ?_ | refine SA_offU 29 (by kernel_rfl) rfl rfl ?_); (first | refine SA_off 30 (by kernel_rfl) rfl rfl rfl ?_ | refine SA_offU 30 (by kernel_rfl) rfl rfl ?_); (first | refine SA_off 31 (by kernel_rfl) rfl rfl rfl ?_ | refine SA_offU 31 (by kernel_rfl) rfl rfl ?_); (first | refine SA_off 32 (by kernel_rfl) rfl rfl rfl ?_ | refine SA_offU 32 (by kernel_rfl) rfl rfl ?_); (first | refine SA_off 33 (by kernel_rfl) rfl rfl rfl ?_ | refine SA_offU 33 (by kernel_rfl) rfl rfl ?_); (first | refine SA_off 34 (by kernel_rfl) rfl rfl rfl ?_ | refine SA_offU 34 (by kernel_rfl) rfl rfl ?_)
          refine SA_pvg 35 (by kernel_rfl) rfl rfl (fun _ => Val_pv rfl) ?_
          refine SA_pvg 36 (by kernel_rfl) rfl rfl (fun _ => Val_beq und_bool rfl rfl) ?_
          refine SA_pv 37 (by kernel_rfl) rfl (fun _ => Val_pv rfl) rfl ?_
          refine SA_done (by kernel_rfl) ?_
          repeat' (first | refine SX_run rfl rfl ?_ | refine SX_nil ?_ | refine SN_W ?_ | refine SW_seq ?_ | refine SW_regionX ?_ | refine SX_guardT rfl ?_ | refine SX_guardF rfl rfl ?_ | refine SX_guardU rfl ?_ | refine SX_gsplitD rfl rfl (fun h => ?_) (fun h => ?_) | refine SX_gsplitN rfl rfl (fun h => ?_) (fun h => ?_) | refine SX_gsplit rfl rfl (fun h => ?_) (fun h => ?_) | refine SW_condT rfl ?_ | refine SW_condF rfl ?_ | refine SW_condD rfl (fun h => ?_) (fun h => ?_) | refine SW_condN rfl (fun h => ?_) (fun h => ?_) | refine SW_condB rfl (fun h => ?_) (fun h => ?_) | refine SW_cond rfl (fun h => ?_) (fun h => ?_) | refine SW_block ?_ | refine SW_skip ?_ | refine SW_exit ?_ | refine SN_bl0 ?_ | refine SN_blS rfl ?_ | refine SW_ret ?_ | refine SX_v (Val_len rfl) ?_ | refine SX_v (Val_fa rfl) ?_ | refine SX_v (Val_add rfl rfl (by omega) (by omega)) ?_ | refine SX_v (Val_sub rfl rfl (by omega) (by omega)) ?_ | refine SX_v (Val_mul rfl rfl (by omega) (by omega)) ?_ | refine SX_v (Val_quoN rfl rfl (by omega) (by omega) (by omega)) ?_ | refine SX_v (Val_remN rfl rfl (by omega) (by omega)) ?_ | refine SX_v (Val_min rfl rfl) ?_ | refine SX_v (Val_beq und_bool rfl rfl) ?_ | refine SX_v (Val_bne und_bool rfl rfl) ?_)
          exact SN_back (10 - (i + 1)) (by omega) Imp.refl ⟨i + 1, rfl, by omega, rfl, ups_ex ⟨rfl, rfl, rfl, rfl, rfl, trivial⟩⟩
        · (first | refine SA_off 11 (by kernel_rfl) rfl rfl rfl ?_ | refine SA_offU 11 (by kernel_rfl) rfl rfl ?_); (first | refine SA_off 12 (by kernel_rfl) rfl rfl rfl ?_ | refine SA_offU 12 (by kernel_rfl) rfl rfl ?_); (first | refine SA_off 13 (by kernel_rfl) rfl rfl rfl ?_ | refine SA_offU 13 (by kernel_rfl) rfl rfl ?_); (first | refine SA_off 14 (by kernel_rfl) rfl rfl rfl ?_ | refine SA_offU 14 (by kernel_rfl) rfl rfl ?_); (first | refine SA_off 15 (by kernel_rfl) rfl rfl rfl ?_ | refine SA_offU 15 (by kernel_rfl) rfl rfl ?_); (first | refine SA_off 16 (by kernel_rfl) rfl rfl rfl ?_ | refine SA_offU 16 (by kernel_rfl) rfl rfl ?_)
          refine SA_pvg 17 (by kernel_rfl) rfl rfl (fun _ => Val_pv rfl) ?_; refine SA_pvg 18 (by kernel_rfl) rfl rfl (fun _ => Val_pv rfl) ?_
          refine SA_pv 19 (by kernel_rfl) rfl (fun _ => Val_pv rfl) rfl ?_; refine SA_pv 20 (by kernel_rfl) rfl (fun _ => Val_pv rfl) rfl ?_
          refine SA_pvg 21 (by kernel_rfl) rfl rfl (fun _ => Val_pv rfl) ?_; refine SA_pvg 22 (by kernel_rfl) rfl rfl (fun _ => Val_pv rfl) ?_; refine SA_pvg 24 (by kernel_rfl) rfl rfl (fun _ => Val_pv rfl) ?_; refine SA_pvg 25 (by kernel_rfl) rfl rfl (fun _ => Val_pv rfl) ?_
          refine SA_ldg 26 (by kernel_rfl) rfl rfl (Val_ix (s := r) (Src.own 1 rfl) rfl rfl i rfl hir) rfl ?_
          refine SA_ldg 27 (by kernel_rfl) rfl rfl (Val_ldE (s := r) (Src.own 1 rfl) rfl rfl hir (v := .bool true) (by rw [hrt]; rfl)) rfl ?_
          refine SA_only 23 (by kernel_rfl) rfl ?_
          refine SX_guardT rfl ?_
          (refine SX_at 29 ?_; refine SX_callA rfl (fun w hw => hasB g i false hgi w (by exact Src.own 0 rfl w hw)) ?_)
          refine SX_nil ?_
          refine SN_AN [] Imp.refl ?_
          refine SA_pvg 28 (by kernel_rfl) rfl rfl (fun _ => Val_pv rfl) ?_
          (first | refine SA_off 29 (by kernel_rfl) rfl rfl rfl ?_ | refine SA_offU 29 (by kernel_rfl) rfl rfl ?_); (first | refine SA_off 30 (by kernel_rfl) rfl rfl rfl ?_ | refine SA_offU 30 (by kernel_rfl) rfl rfl ?_); (first | refine SA_off 31 (by kernel_rfl) rfl rfl rfl ?_ | refine SA_offU 31 (by kernel_rfl) rfl rfl ?_); (first | refine SA_off 32 (by kernel_rfl) rfl rfl rfl ?_ | refine SA_offU 32 (by kernel_rfl) rfl rfl ?_); (first | refine SA_off 33 (by kernel_rfl) rfl rfl rfl ?_ | refine SA_offU 33 (by kernel_rfl) rfl rfl ?_); (first | refine SA_off 34 (by kernel_rfl) rfl rfl rfl ?_ | refine SA_offU 34 (by kernel_rfl) rfl rfl ?_)
          refine SA_pvg 35 (by kernel_rfl) rfl rfl (fun _ => Val_pv rfl) ?_
          refine SA_pvg 36 (by kernel_rfl) rfl rfl (fun _ => Val_beq und_bool rfl rfl) ?_
          refine SA_pv 37 (by kernel_rfl) rfl (fun _ => Val_pv rfl) rfl ?_
          refine SA_done (by kernel_rfl) ?_
          repeat' (first | refine SX_run rfl rfl ?_ | refine SX_nil ?_ | refine SN_W ?_ | refine SW_seq ?_ | refine SW_regionX ?_ | refine SX_guardT rfl ?_ | refine SX_guardF rfl rfl ?_ | refine SX_guardU rfl ?_ | refine SX_gsplitD rfl rfl (fun h => ?_) (fun h => ?_) | refine SX_gsplitN rfl rfl (fun h => ?_) (fun h => ?_) | refine SX_gsplit rfl rfl (fun h => ?_) (fun h => ?_) | refine SW_condT rfl ?_ | refine SW_condF rfl ?_ | refine SW_condD rfl (fun h => ?_) (fun h => ?_) | refine SW_condN rfl (fun h => ?_) (fun h => ?_) | refine SW_condB rfl (fun h => ?_) (fun h => ?_) | refine SW_cond rfl (fun h => ?_) (fun h => ?_) | refine SW_block ?_ | refine SW_skip ?_ | refine SW_exit ?_ | refine SN_bl0 ?_ | refine SN_blS rfl ?_ | refine SW_ret ?_ | refine SX_v (Val_len rfl) ?_ | refine SX_v (Val_fa rfl) ?_ | refine SX_v (Val_add rfl rfl (by omega) (by omega)) ?_ | refine SX_v (Val_sub rfl rfl (by omega) (by omega)) ?_ | refine SX_v (Val_mul rfl rfl (by omega) (by omega)) ?_ | refine SX_v (Val_quoN rfl rfl (by omega) (by omega) (by omega)) ?_ | refine SX_v (Val_remN rfl rfl (by omega) (by omega)) ?_ | refine SX_v (Val_min rfl rfl) ?_ | refine SX_v (Val_beq und_bool rfl rfl) ?_ | refine SX_v (Val_bne und_bool rfl rfl) ?_)
          exact SN_back (10 - (i + 1)) (by omega) Imp.refl ⟨i + 1, rfl, by omega, rfl, ups_ex ⟨rfl, rfl, rfl, rfl, rfl, trivial⟩⟩
      · have hrf : r.nth i hir = false := by
          cases e : r.nth i hir
          · rfl
          · exact absurd ((hRt i hir).1 e) hri
        have hk0 : (oat (a.l.map ObjL.pl) i).kind = (a.nth i hia).kind := by rw [oat_nth a i hia]; rfl
        have hgi : (!decide ((a.nth i hia).kind = 0)) = true ↔ (i : Int) ∈ g.l := by
          rw [hg, mem_garb hA, hk0]
          simp [hri, hlt]
        refine SW_regionA mixed ?_
        refine SA_pv 0 (by kernel_rfl) rfl (fun _ => Val_pv rfl) rfl ?_; refine SA_pv 1 (by kernel_rfl) rfl (fun _ => Val_pv rfl) rfl ?_
        refine SA_ld 2 (by kernel_rfl) rfl (Val_ix (s := r) (Src.own 1 rfl) rfl rfl i rfl hir) rfl ?_
        refine SA_ld 3 (by kernel_rfl) rfl (Val_ldE (s := r) (Src.own 1 rfl) rfl rfl hir (v := .bool false) (by rw [hrf]; rfl)) rfl ?_
        refine SA_pv 4 (by kernel_rfl) rfl (fun _ => Val_pv rfl) rfl ?_
        (first | refine SA_off 5 (by kernel_rfl) rfl rfl rfl ?_ | refine SA_offU 5 (by kernel_rfl) rfl rfl ?_); (first | refine SA_off 6 (by kernel_rfl) rfl rfl rfl ?_ | refine SA_offU 6 (by kernel_rfl) rfl rfl ?_); (first | refine SA_off 7 (by kernel_rfl) rfl rfl rfl ?_ | refine SA_offU 7 (by kernel_rfl) rfl rfl ?_); (first | refine SA_off 8 (by kernel_rfl) rfl rfl rfl ?_ | refine SA_offU 8 (by kernel_rfl) rfl rfl ?_); (first | refine SA_off 9 (by kernel_rfl) rfl rfl rfl ?_ | refine SA_offU 9 (by kernel_rfl) rfl rfl ?_); (first | refine SA_off 10 (by kernel_rfl) rfl rfl rfl ?_ | refine SA_offU 10 (by kernel_rfl) rfl rfl ?_); (first | refine SA_off 11 (by kernel_rfl) rfl rfl rfl ?_ | refine SA_offU 11 (by kernel_rfl) rfl rfl ?_); (first | refine SA_off 12 (by kernel_rfl) rfl rfl rfl ?_ | refine SA_offU 12 (by kernel_rfl) rfl rfl ?_); (first | refine SA_off 13 (by kernel_rfl) rfl rfl rfl ?_ | refine SA_offU 13 (by kernel_rfl) rfl rfl ?_); (first | refine SA_off 14 (by kernel_rfl) rfl rfl rfl ?_ | refine SA_offU 14 (by kernel_rfl) rfl rfl ?_); (first | refine SA_off 15 (by kernel_rfl) rfl rfl rfl ?_ | refine SA_offU 15 (by kernel_rfl) rfl rfl ?_); (first | refine SA_off 16 (by kernel_rfl) rfl rfl rfl ?_ | refine SA_offU 16 (by kernel_rfl) rfl rfl ?_); (first | refine SA_off 17 (by kernel_rfl) rfl rfl rfl ?_ | refine SA_offU 17 (by kernel_rfl) rfl rfl ?_); (first | refine SA_off 18 (by kernel_rfl) rfl rfl rfl ?_ | refine SA_offU 18 (by kernel_rfl) rfl rfl ?_)
        refine SA_pv 19 (by kernel_rfl) rfl (fun _ => Val_pv rfl) rfl ?_; refine SA_pv 20 (by kernel_rfl) rfl (fun _ => Val_pv rfl) rfl ?_
        refine SA_pvg 21 (by kernel_rfl) rfl rfl (fun _ => Val_pv rfl) ?_; refine SA_pvg 22 (by kernel_rfl) rfl rfl (fun _ => Val_pv rfl) ?_; refine SA_pvg 24 (by kernel_rfl) rfl rfl (fun _ => Val_pv rfl) ?_; refine SA_pvg 25 (by kernel_rfl) rfl rfl (fun _ => Val_pv rfl) ?_
        refine SA_ldg 26 (by kernel_rfl) rfl rfl (Val_ix (s := r) (Src.own 1 rfl) rfl rfl i rfl hir) rfl ?_
        refine SA_ldg 27 (by kernel_rfl) rfl rfl (Val_ldE (s := r) (Src.own 1 rfl) rfl rfl hir (v := .bool false) (by rw [hrf]; rfl)) rfl ?_
        refine SA_only 23 (by kernel_rfl) rfl ?_
        refine SX_guardT rfl ?_
        (refine SX_at 29 ?_; refine SX_callA rfl (fun w hw => hasB g i _ hgi w (by exact Src.own 0 rfl w hw)) ?_)
        refine SX_nil ?_
        refine SN_AN [] Imp.refl ?_
        refine SA_pvg 28 (by kernel_rfl) rfl rfl (fun _ => Val_pv rfl) ?_; refine SA_pvg 29 (by kernel_rfl) rfl rfl (fun _ => Val_pv rfl) ?_; refine SA_pvg 30 (by kernel_rfl) rfl rfl (fun _ => Val_pv rfl) ?_
        refine SA_ldg 31 (by kernel_rfl) rfl rfl (Val_ix (s := a) (Src.own 2 rfl) rfl rfl i rfl hia) rfl ?_
        refine SA_pvg 32 (by kernel_rfl) rfl rfl (fun _ => Val_fa rfl) ?_
        refine SA_ldg 33 (by kernel_rfl) rfl rfl (Val_ldS (s := a) (Src.own 2 rfl) (j := 1) rfl rfl rfl hia rfl) rfl ?_
        refine SA_pvg 34 (by kernel_rfl) rfl rfl (fun _ => Val_pv rfl) ?_; refine SA_pvg 35 (by kernel_rfl) rfl rfl (fun _ => Val_pv rfl) ?_
        refine SA_pvg 36 (by kernel_rfl) rfl rfl (fun _ => Val_beq und_bool rfl rfl) ?_
        refine SA_pv 37 (by kernel_rfl) rfl (fun _ => Val_pv rfl) rfl ?_
        refine SA_done (by kernel_rfl) ?_
        repeat' (first | refine SX_run rfl rfl ?_ | refine SX_nil ?_ | refine SN_W ?_ | refine SW_seq ?_ | refine SW_regionX ?_ | refine SX_guardT rfl ?_ | refine SX_guardF rfl rfl ?_ | refine SX_guardU rfl ?_ | refine SX_gsplitD rfl rfl (fun h => ?_) (fun h => ?_) | refine SX_gsplitN rfl rfl (fun h => ?_) (fun h => ?_) | refine SX_gsplit rfl rfl (fun h => ?_) (fun h => ?_) | refine SW_condT rfl ?_ | refine SW_condF rfl ?_ | refine SW_condD rfl (fun h => ?_) (fun h => ?_) | refine SW_condN rfl (fun h => ?_) (fun h => ?_) | refine SW_condB rfl (fun h => ?_) (fun h => ?_) | refine SW_cond rfl (fun h => ?_) (fun h => ?_) | refine SW_block ?_ | refine SW_skip ?_ | refine SW_exit ?_ | refine SN_bl0 ?_ | refine SN_blS rfl ?_ | refine SW_ret ?_ | refine SX_v (Val_len rfl) ?_ | refine SX_v (Val_fa rfl) ?_ | refine SX_v (Val_add rfl rfl (by omega) (by omega)) ?_ | refine SX_v (Val_sub rfl rfl (by omega) (by omega)) ?_ | refine SX_v (Val_mul rfl rfl (by omega) (by omega)) ?_ | refine SX_v (Val_quoN rfl rfl (by omega) (by omega) (by omega)) ?_ | refine SX_v (Val_remN rfl rfl (by omega) (by omega)) ?_ | refine SX_v (Val_min rfl rfl) ?_ | refine SX_v (Val_beq und_bool rfl rfl) ?_ | refine SX_v (Val_bne und_bool rfl rfl) ?_)
        · exfalso; revert h; cases decide ((a.nth i hia).kind = 0) <;> simp
        · exact SN_back (10 - (i + 1)) (by omega) Imp.refl ⟨i + 1, rfl, by omega, rfl, ups_ex ⟨rfl, rfl, rfl, rfl, rfl, trivial⟩⟩
    · exfalso; omega
  · repeat' (first | refine SX_run rfl rfl ?_ | refine SX_nil ?_ | refine SN_W ?_ | refine SW_seq ?_ | refine SW_regionX ?_ | refine SX_guardT rfl ?_ | refine SX_guardF rfl rfl ?_ | refine SX_guardU rfl ?_ | refine SX_gsplitD rfl rfl (fun h => ?_) (fun h => ?_) | refine SX_gsplitN rfl rfl (fun h => ?_) (fun h => ?_) | refine SX_gsplit rfl rfl (fun h => ?_) (fun h => ?_) | refine SW_condT rfl ?_ | refine SW_condF rfl ?_ | refine SW_condD rfl (fun h => ?_) (fun h => ?_) | refine SW_condN rfl (fun h => ?_) (fun h => ?_) | refine SW_condB rfl (fun h => ?_) (fun h => ?_) | refine SW_cond rfl (fun h => ?_) (fun h => ?_) | refine SW_block ?_ | refine SW_skip ?_ | refine SW_exit ?_ | refine SN_bl0 ?_ | refine SN_blS rfl ?_ | refine SW_ret ?_ | refine SX_v (Val_len rfl) ?_ | refine SX_v (Val_fa rfl) ?_ | refine SX_v (Val_add rfl rfl (by omega) (by omega)) ?_ | refine SX_v (Val_sub rfl rfl (by omega) (by omega)) ?_ | refine SX_v (Val_mul rfl rfl (by omega) (by omega)) ?_ | refine SX_v (Val_quoN rfl rfl (by omega) (by omega) (by omega)) ?_ | refine SX_v (Val_remN rfl rfl (by omega) (by omega)) ?_ | refine SX_v (Val_min rfl rfl) ?_ | refine SX_v (Val_beq und_bool rfl rfl) ?_ | refine SX_v (Val_bne und_bool rfl rfl) ?_)
    · exfalso; omega
    exact SN_retB rfl rfl ⟨rfl, rfl⟩
end Go.Proofs.Ytandadfmmohhhaa.E
