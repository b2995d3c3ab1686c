/-
  Whose turn it is: the model and the program pick the same.
-/
import Derived.Test.YticbocfalhjhaaaHelp
namespace Go.Proofs.Yticbocfalhjhaaa.E
open Go Go.RowKit

/-- Who is next, by the model. -/
def rn (last pick : Int) : List Int → Int → Int → Int
  | [], least, next => if 0 ≤ next then next else least
  | n :: l, least, next =>
    if n < 0 then rn last pick l least next
    else if n = pick then n
    else rn last pick l (if least < 0 ∨ n < least then n else least) (if last < n ∧ (next < 0 ∨ n < next) then n else next)
theorem Sl.drop_nth {α : Type} (s : Sl α) (i : Nat) (hi : i < s.n) : s.l.drop i = s.nth i hi :: s.l.drop (i + 1) :=
  List.drop_eq_getElem_cons (by rw [s.hn]; exact hi)

theorem sRunNext {m : Nat} (a : Sl Int) (last pick : Int) (w : World) (ha : Lod.rd m w a) : FI 30 [a.val, .int .i64 last, .int .i64 pick] w (rn last pick a.l (-1) (-1)) := by
  have hcap : a.n ≤ maxLen := Nat.le_trans ha.2.1 ha.2.2.1
  unfold maxLen at hcap
  have sa : ∀ L, Src m w L a := fun L => Src.arg ha
  refine F_of Try.func30 rfl rfl ?_
  repeat' (first | refine SX_run rfl rfl ?_ | refine SX_nil ?_ | refine SN_W ?_ | refine SW_seq ?_ | refine SW_regionX ?_ | refine SX_guardT rfl ?_ | refine SX_guardF rfl rfl ?_ | refine SX_guardU rfl ?_ | refine SX_gsplitD rfl rfl (fun h => ?_) (fun h => ?_) | refine SX_gsplitN rfl rfl (fun h => ?_) (fun h => ?_) | refine SX_gsplit rfl rfl (fun h => ?_) (fun h => ?_) | refine SW_condT rfl ?_ | refine SW_condF rfl ?_ | refine SW_condD rfl (fun h => ?_) (fun h => ?_) | refine SW_condN rfl (fun h => ?_) (fun h => ?_) | refine SW_condB rfl (fun h => ?_) (fun h => ?_) | refine SW_cond rfl (fun h => ?_) (fun h => ?_) | refine SW_block ?_ | refine SW_skip ?_ | refine SW_exit ?_ | refine SN_bl0 ?_ | refine SN_blS rfl ?_ | refine SW_ret ?_ | refine SX_v (Val_len rfl) ?_ | refine SX_v (Val_fa rfl) ?_ | refine SX_v (Val_add rfl rfl (by omega) (by omega)) ?_ | refine SX_v (Val_sub rfl rfl (by omega) (by omega)) ?_ | refine SX_v (Val_mul rfl rfl (by omega) (by omega)) ?_ | refine SX_v (Val_quoN rfl rfl (by omega) (by omega) (by omega)) ?_ | refine SX_v (Val_remN rfl rfl (by omega) (by omega)) ?_ | refine SX_v (Val_min rfl rfl) ?_ | refine SX_v (Val_beq und_bool rfl rfl) ?_ | refine SX_v (Val_bne und_bool rfl rfl) ?_)
  refine SW_loop (fun k σ L => ∃ (i : Nat) (le ne : Int), k = a.n - i ∧ i ≤ a.n ∧ L = [] ∧ rn last pick (a.l.drop i) le ne = rn last pick a.l (-1) (-1) ∧ ∃ τ, σ = ups τ [(9, .int .i64 i), (0, a.val), (1, .int .i64 last), (2, .int .i64 pick), (7, .int .i64 le), (8, .int .i64 ne)]) a.n Imp.refl ⟨0, -1, -1, rfl, Nat.zero_le _, rfl, rfl, ups_ex ⟨rfl, rfl, rfl, rfl, rfl, rfl, trivial⟩⟩ ?_
  rintro k σ L ⟨i, le, ne, rfl, hi, rfl, hpre, τ, rfl⟩
  repeat' (first | refine SX_v (Val_ix (sa _) rfl rfl i rfl (by omega)) ?_ | refine SX_v (Val_ldE (sa _) rfl rfl (by omega) rfl) ?_ | refine SX_run rfl rfl ?_ | refine SX_nil ?_ | refine SN_W ?_ | refine SW_seq ?_ | refine SW_regionX ?_ | refine SX_guardT rfl ?_ | refine SX_guardF rfl rfl ?_ | refine SX_guardU rfl ?_ | refine SX_gsplitD rfl rfl (fun h => ?_) (fun h => ?_) | refine SX_gsplitN rfl rfl (fun h => ?_) (fun h => ?_) | refine SX_gsplit rfl rfl (fun h => ?_) (fun h => ?_) | refine SW_condT rfl ?_ | refine SW_condF rfl ?_ | refine SW_condD rfl (fun h => ?_) (fun h => ?_) | refine SW_condN rfl (fun h => ?_) (fun h => ?_) | refine SW_condB rfl (fun h => ?_) (fun h => ?_) | refine SW_cond rfl (fun h => ?_) (fun h => ?_) | refine SW_block ?_ | refine SW_skip ?_ | refine SW_exit ?_ | refine SN_bl0 ?_ | refine SN_blS rfl ?_ | refine SW_ret ?_ | refine SX_v (Val_len rfl) ?_ | refine SX_v (Val_fa rfl) ?_ | refine SX_v (Val_add rfl rfl (by omega) (by omega)) ?_ | refine SX_v (Val_sub rfl rfl (by omega) (by omega)) ?_ | refine SX_v (Val_mul rfl rfl (by omega) (by omega)) ?_ | refine SX_v (Val_quoN rfl rfl (by omega) (by omega) (by omega)) ?_ | refine SX_v (Val_remN rfl rfl (by omega) (by omega)) ?_ | refine SX_v (Val_min rfl rfl) ?_ | refine SX_v (Val_beq und_bool rfl rfl) ?_ | refine SX_v (Val_bne und_bool rfl rfl) ?_)
  all_goals first
    | (refine SN_back (a.n - (i + 1)) (by omega) Imp.refl ⟨i + 1, _, _, rfl, by omega, rfl, ?_, ups_ex ⟨rfl, rfl, rfl, rfl, rfl, rfl, trivial⟩⟩
       rw [← hpre, Sl.drop_nth a i (by omega), rn]
       clear hpre ha sa hcap
       simp [*])
    | (refine SN_retI rfl rfl ⟨?_, rfl⟩
       rw [← hpre]
       first
         | (rw [Sl.drop_nth a i (by omega), rn]; clear hpre ha sa hcap; simp [*]; done)
         | (rw [Sl.drop_nth a i (by omega), rn]; clear hpre ha sa hcap; simp [*]; intro _; omega)
         | (have : i = a.n := by omega
            subst this
            rw [← a.hn, List.drop_length, rn]; clear hpre ha sa hcap; simp [*]))
theorem iRunNext {m : Nat} (a : Sl Int) (last pick : Int) (w : World) (ha : Lod.rd m w a) : FI 32 [a.val, .int .i64 last, .int .i64 pick] w (rn last pick a.l (-1) (-1)) := by
  have hcap : a.n ≤ maxLen := Nat.le_trans ha.2.1 ha.2.2.1
  unfold maxLen at hcap
  have sa : ∀ L, Src m w L a := fun L => Src.arg ha
  refine F_of Try.func32 rfl rfl ?_
  repeat' (first | refine SX_run rfl rfl ?_ | refine SX_nil ?_ | refine SN_W ?_ | refine SW_seq ?_ | refine SW_regionX ?_ | refine SX_guardT rfl ?_ | refine SX_guardF rfl rfl ?_ | refine SX_guardU rfl ?_ | refine SX_gsplitD rfl rfl (fun h => ?_) (fun h => ?_) | refine SX_gsplitN rfl rfl (fun h => ?_) (fun h => ?_) | refine SX_gsplit rfl rfl (fun h => ?_) (fun h => ?_) | refine SW_condT rfl ?_ | refine SW_condF rfl ?_ | refine SW_condD rfl (fun h => ?_) (fun h => ?_) | refine SW_condN rfl (fun h => ?_) (fun h => ?_) | refine SW_condB rfl (fun h => ?_) (fun h => ?_) | refine SW_cond rfl (fun h => ?_) (fun h => ?_) | refine SW_block ?_ | refine SW_skip ?_ | refine SW_exit ?_ | refine SN_bl0 ?_ | refine SN_blS rfl ?_ | refine SW_ret ?_ | refine SX_v (Val_len rfl) ?_ | refine SX_v (Val_fa rfl) ?_ | refine SX_v (Val_add rfl rfl (by omega) (by omega)) ?_ | refine SX_v (Val_sub rfl rfl (by omega) (by omega)) ?_ | refine SX_v (Val_mul rfl rfl (by omega) (by omega)) ?_ | refine SX_v (Val_quoN rfl rfl (by omega) (by omega) (by omega)) ?_ | refine SX_v (Val_remN rfl rfl (by omega) (by omega)) ?_ | refine SX_v (Val_min rfl rfl) ?_ | refine SX_v (Val_beq und_bool rfl rfl) ?_ | refine SX_v (Val_bne und_bool rfl rfl) ?_)
  refine SW_loop (fun k σ L => ∃ (i : Nat) (le ne : Int), k = a.n - i ∧ i ≤ a.n ∧ L = [] ∧ rn last pick (a.l.drop i) le ne = rn last pick a.l (-1) (-1) ∧ ∃ τ, σ = ups τ [(13, .int .i64 i), (11, a.val), (12, .int .i64 a.n), (1, .int .i64 last), (2, .int .i64 pick), (7, .int .i64 le), (8, .int .i64 ne)]) a.n Imp.refl ⟨0, -1, -1, rfl, Nat.zero_le _, rfl, rfl, ups_ex ⟨rfl, rfl, rfl, rfl, rfl, rfl, rfl, trivial⟩⟩ ?_
  rintro k σ L ⟨i, le, ne, rfl, hi, rfl, hpre, τ, rfl⟩
  repeat' (first | refine SX_v (Val_ix (sa _) rfl rfl i rfl (by omega)) ?_ | refine SX_v (Val_ldE (sa _) rfl rfl (by omega) rfl) ?_ | refine SX_run rfl rfl ?_ | refine SX_nil ?_ | refine SN_W ?_ | refine SW_seq ?_ | refine SW_regionX ?_ | refine SX_guardT rfl ?_ | refine SX_guardF rfl rfl ?_ | refine SX_guardU rfl ?_ | refine SX_gsplitD rfl rfl (fun h => ?_) (fun h => ?_) | refine SX_gsplitN rfl rfl (fun h => ?_) (fun h => ?_) | refine SX_gsplit rfl rfl (fun h => ?_) (fun h => ?_) | refine SW_condT rfl ?_ | refine SW_condF rfl ?_ | refine SW_condD rfl (fun h => ?_) (fun h => ?_) | refine SW_condN rfl (fun h => ?_) (fun h => ?_) | refine SW_condB rfl (fun h => ?_) (fun h => ?_) | refine SW_cond rfl (fun h => ?_) (fun h => ?_) | refine SW_block ?_ | refine SW_skip ?_ | refine SW_exit ?_ | refine SN_bl0 ?_ | refine SN_blS rfl ?_ | refine SW_ret ?_ | refine SX_v (Val_len rfl) ?_ | refine SX_v (Val_fa rfl) ?_ | refine SX_v (Val_add rfl rfl (by omega) (by omega)) ?_ | refine SX_v (Val_sub rfl rfl (by omega) (by omega)) ?_ | refine SX_v (Val_mul rfl rfl (by omega) (by omega)) ?_ | refine SX_v (Val_quoN rfl rfl (by omega) (by omega) (by omega)) ?_ | refine SX_v (Val_remN rfl rfl (by omega) (by omega)) ?_ | refine SX_v (Val_min rfl rfl) ?_ | refine SX_v (Val_beq und_bool rfl rfl) ?_ | refine SX_v (Val_bne und_bool rfl rfl) ?_)
  all_goals first
    | (refine SN_back (a.n - (i + 1)) (by omega) Imp.refl ⟨i + 1, _, _, rfl, by omega, rfl, ?_, ups_ex ⟨rfl, rfl, rfl, rfl, rfl, rfl, rfl, trivial⟩⟩
       rw [← hpre, Sl.drop_nth a i (by omega), rn]
       clear hpre ha sa hcap
       simp [*])
    | (refine SN_retI rfl rfl ⟨?_, rfl⟩
       rw [← hpre]
       first
         | (rw [Sl.drop_nth a i (by omega), rn]; clear hpre ha sa hcap; simp [*]; done)
         | (rw [Sl.drop_nth a i (by omega), rn]; clear hpre ha sa hcap; simp [*]; intro _; omega)
         | (have : i = a.n := by omega
            subst this
            rw [← a.hn, List.drop_length, rn]; clear hpre ha sa hcap; simp [*]))
theorem wFnExactRunNext (x0 : Sl Int) (w : World) (hx0 : Lod.rd maxLen w x0) (last pick : Int) : FB 9 [x0.val, .int .i64 last, .int .i64 pick] w true := by
  refine F_of Try.func9 rfl rfl ?_
  repeat' (first | (refine SWl_at 31 ?_; refine SWl_callB rfl (fun w hw => toIntS x0 w (Src.arg hx0 w hw) (by unfold lim; omega)) (fun y hy => SWl_x ?_)) | (refine SX_at 30 ?_; refine SX_callA rfl (fun w hw => sRunNext _ last pick w (Src.own 0 rfl w hw)) ?_) | (refine SX_at 32 ?_; refine SX_callA rfl (fun w hw => iRunNext _ last pick w (Src.own 0 rfl w hw)) ?_) | (refine SX_at 33 ?_; refine SX_callA rfl (fun w hw => eqIntS _ _ w (Src.own 1 rfl w hw) (Src.own 0 rfl w hw)) ?_) | refine SX_run rfl rfl ?_ | refine SX_nil ?_ | refine SN_W ?_ | refine SW_seq ?_ | refine SW_regionX ?_ | refine SX_guardT rfl ?_ | refine SX_guardF rfl rfl ?_ | refine SX_guardU rfl ?_ | refine SX_gsplitD rfl rfl (fun h => ?_) (fun h => ?_) | refine SX_gsplitN rfl rfl (fun h => ?_) (fun h => ?_) | refine SX_gsplit rfl rfl (fun h => ?_) (fun h => ?_) | refine SW_condT rfl ?_ | refine SW_condF rfl ?_ | refine SW_condD rfl (fun h => ?_) (fun h => ?_) | refine SW_condN rfl (fun h => ?_) (fun h => ?_) | refine SW_condB rfl (fun h => ?_) (fun h => ?_) | refine SW_cond rfl (fun h => ?_) (fun h => ?_) | refine SW_block ?_ | refine SW_skip ?_ | refine SW_exit ?_ | refine SN_bl0 ?_ | refine SN_blS rfl ?_ | refine SW_ret ?_ | refine SX_v (Val_len rfl) ?_ | refine SX_v (Val_fa rfl) ?_ | refine SX_v (Val_add rfl rfl (by omega) (by omega)) ?_ | refine SX_v (Val_sub rfl rfl (by omega) (by omega)) ?_ | refine SX_v (Val_mul rfl rfl (by omega) (by omega)) ?_ | refine SX_v (Val_quoN rfl rfl (by omega) (by omega) (by omega)) ?_ | refine SX_v (Val_remN rfl rfl (by omega) (by omega)) ?_ | refine SX_v (Val_min rfl rfl) ?_ | refine SX_v (Val_beq und_bool rfl rfl) ?_ | refine SX_v (Val_bne und_bool rfl rfl) ?_)
  all_goals first
    | exact SN_retB rfl rfl ⟨rfl, rfl⟩
    | (exfalso; simp_all)
end Go.Proofs.Yticbocfalhjhaaa.E
