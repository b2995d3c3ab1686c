/-
  What is reached, what is not, and good slots: the model and the program.
-/
import Derived.Test.YtandadfmmohhhaaRc
namespace Go.Proofs.Ytandadfmmohhhaa.E
open Go Go.RowKit
set_option maxRecDepth 100000
set_option maxHeartbeats 4000000

theorem tr_nth {r : Sl Bool} {k : Nat} (h : k < r.n) : tr r.l k ↔ r.nth k h = true := tr_iff (by rw [r.hn]; exact h)
theorem exp_nth (a : Sl ObjL) (i : Nat) (hi : i < a.n) (now : Int) : expired (oat (a.l.map ObjL.pl) i) now = expired (a.nth i hi).pl now := by rw [oat_nth a i hi]
theorem nth_of {α : Type} {s : Sl α} {l : List α} (h : s.l = l) (i : Nat) (hi : i < s.n) : l[i]'(by rw [← h, s.hn]; exact hi) = s.nth i hi := by subst h; rfl
theorem Imp.drop1 {w0 : World} {L M : List Atom} {A B : Atom} (h : Imp w0 (A :: L) M) : Imp w0 (A :: B :: L) M := (Imp.sub (List.Sublist.cons_cons _ (List.sublist_cons_self _ _))).trans h
theorem Imp.nilO {w0 : World} {L : List Atom} {A B : Atom} : Imp w0 (A :: B :: L) [A, B] := Imp.sub (List.Sublist.cons_cons _ (List.Sublist.cons_cons _ (List.nil_sublist _)))
theorem iReach {m : Nat} (a : Sl ObjL) (now : Int) (w : World) (ha : Lod.rd m w a) (hr : RgA (a.l.map ObjL.pl)) : F Try.prog 26 [a.val, .int .i64 now] w (rB Sl.val (fun r : Sl Bool => r.l = reach (a.l.map ObjL.pl) now)) := by
  have sa : ∀ L, Src m w L a := fun L => Src.arg ha
  refine F_of Try.func26 rfl rfl ?_
  repeat' (first | (refine SX_at 22 ?_; refine SX_callA rfl (fun w hw => iArenaOk a w (Src.arg ha w hw) hr) ?_) | refine SX_w (SWl_mk 10 rfl rfl rfl (by decide) false (by rfl) (by rfl) (by rfl) (by rfl) rfl (fun _ => trivial) (fun r0 hr0 hn0 => SWl_x ?_)) | refine SX_v (Val_ix (Src.own 0 rfl : Src lim w _ r0) rfl rfl 0 rfl (by omega)) ?_ | refine SX_w (SWl_stS 0 (s := r0) rfl (i := 0) (j := 0) rfl rfl rfl (by omega) rfl rfl rfl true rfl rfl (fun _ _ => trivial) (SWl_x ?_)) | refine SX_w (SWl_bs (vs := [.int .i64 0]) rfl rfl (by simp [Value.cells]) rfl rfl (fun b => SWl_x ?_)) | refine SX_run rfl rfl ?_ | refine SX_nil ?_ | refine SN_W ?_ | refine SW_seq ?_ | refine SW_regionX ?_ | refine SX_guardT rfl ?_ | refine SX_guardF rfl rfl ?_ | refine SX_guardU rfl ?_ | refine SX_gsplitD rfl rfl (fun h => ?_) (fun h => ?_) | refine SX_gsplitN rfl rfl (fun h => ?_) (fun h => ?_) | refine SX_gsplit rfl rfl (fun h => ?_) (fun h => ?_) | refine SW_condT rfl ?_ | refine SW_condF rfl ?_ | refine SW_condD rfl (fun h => ?_) (fun h => ?_) | refine SW_condN rfl (fun h => ?_) (fun h => ?_) | refine SW_condB rfl (fun h => ?_) (fun h => ?_) | refine SW_cond rfl (fun h => ?_) (fun h => ?_) | refine SW_block ?_ | refine SW_skip ?_ | refine SW_exit ?_ | refine SN_bl0 ?_ | refine SN_blS rfl ?_ | refine SW_ret ?_ | refine SX_v (Val_len rfl) ?_ | refine SX_v (Val_fa rfl) ?_ | refine SX_v (Val_add rfl rfl (by omega) (by omega)) ?_ | refine SX_v (Val_sub rfl rfl (by omega) (by omega)) ?_ | refine SX_v (Val_mul rfl rfl (by omega) (by omega)) ?_ | refine SX_v (Val_quoN rfl rfl (by omega) (by omega) (by omega)) ?_ | refine SX_v (Val_remN rfl rfl (by omega) (by omega)) ?_ | refine SX_v (Val_min rfl rfl) ?_ | refine SX_v (Val_beq und_bool rfl rfl) ?_ | refine SX_v (Val_bne und_bool rfl rfl) ?_)
  · refine SN_ret1 rfl (RV.tmp rfl) Imp.zero ⟨Sl.zero, rfl, rfl, ?_⟩
    exact (reach_nil ‹¬ArenaOk _›).symm
  have hA : ArenaOk (a.l.map ObjL.pl) := ‹_›
  have hn := arenaOk_n hA
  refine SW_loop (fun k σ L => ∃ (r : Sl Bool) (t : Sl Int), k = t.n + 2 * left r.l ∧ L = [Own t, Own r] ∧ t.n + left r.l ≤ 30 ∧ Bfs (a.l.map ObjL.pl) now r.l t.l ∧ ∃ τ, σ = ups τ [(0, a.val), (1, .int .i64 now), (5, r.val), (6, t.val)]) _ (Imp.ofBlkF [(0 : Int)] rfl rfl (by decide)) ⟨r0.upd 0 true, _, rfl, rfl, ?_, ?_, ups_ex ⟨rfl, rfl, rfl, rfl, trivial⟩⟩ ?_
  · show 1 + left (r0.l.set 0 true) ≤ 30
    rw [hr0]; decide
  · show Bfs _ _ (r0.l.set 0 true) [0]
    rw [hr0]; exact Bfs.start _ _
  rintro k σ L ⟨r, t, rfl, rfl, h30, hB, τ, rfl⟩
  have hrn : r.n = 10 := by rw [← r.hn]; exact hB.len
  by_cases ht : t.n = 0
  · repeat' (first | refine SX_run rfl rfl ?_ | refine SX_nil ?_ | refine SN_W ?_ | refine SW_seq ?_ | refine SW_regionX ?_ | refine SX_guardT rfl ?_ | refine SX_guardF rfl rfl ?_ | refine SX_guardU rfl ?_ | refine SX_gsplitD rfl rfl (fun h => ?_) (fun h => ?_) | refine SX_gsplitN rfl rfl (fun h => ?_) (fun h => ?_) | refine SX_gsplit rfl rfl (fun h => ?_) (fun h => ?_) | refine SW_condT rfl ?_ | refine SW_condF rfl ?_ | refine SW_condD rfl (fun h => ?_) (fun h => ?_) | refine SW_condN rfl (fun h => ?_) (fun h => ?_) | refine SW_condB rfl (fun h => ?_) (fun h => ?_) | refine SW_cond rfl (fun h => ?_) (fun h => ?_) | refine SW_block ?_ | refine SW_skip ?_ | refine SW_exit ?_ | refine SN_bl0 ?_ | refine SN_blS rfl ?_ | refine SW_ret ?_ | refine SX_v (Val_len rfl) ?_ | refine SX_v (Val_fa rfl) ?_ | refine SX_v (Val_add rfl rfl (by omega) (by omega)) ?_ | refine SX_v (Val_sub rfl rfl (by omega) (by omega)) ?_ | refine SX_v (Val_mul rfl rfl (by omega) (by omega)) ?_ | refine SX_v (Val_quoN rfl rfl (by omega) (by omega) (by omega)) ?_ | refine SX_v (Val_remN rfl rfl (by omega) (by omega)) ?_ | refine SX_v (Val_min rfl rfl) ?_ | refine SX_v (Val_beq und_bool rfl rfl) ?_ | refine SX_v (Val_bne und_bool rfl rfl) ?_)
    · exfalso; omega
    have : t.l = [] := List.eq_nil_of_length_eq_zero (by rw [t.hn, ht])
    rw [this] at hB
    exact SN_ret1 rfl (RV.tmp rfl) (Imp.one 1 rfl) ⟨r, rfl, rfl, hB.done hA⟩
  have ht0 : 0 < t.n := by omega
  have htl : t.l = t.nth 0 ht0 :: t.l.drop 1 := by
    have e : t.l.drop 0 = t.nth 0 ht0 :: t.l.drop (0 + 1) := List.drop_eq_getElem_cons (by rw [t.hn]; exact ht0)
    simpa using e
  obtain ⟨i, hi, htr⟩ := hB.todo (t.nth 0 ht0) (by rw [htl]; simp)
  have hi10 : i < 10 := by have := tr_lt htr; have := hB.len; omega
  rw [htl, hi] at hB
  have hP := hB.pop
  repeat' (first | refine SX_v (Val_ix (Src.own 0 rfl : Src lim w _ t) rfl rfl 0 rfl ht0) ?_ | refine SX_v (Val_ldE (Src.own 0 rfl : Src lim w _ t) rfl rfl ht0 rfl) ?_ | refine SX_v (Val_slL (s := t) rfl rfl 1 rfl ht0 rfl (by first | exact Src.own 0 rfl | exact Src.own 1 rfl | exact Src.own 2 rfl | exact Src.own 3 rfl | exact Src.own 4 rfl | exact Src.own 5 rfl | exact Src.own 6 rfl | exact Src.own 7 rfl | exact Src.own 8 rfl | exact Src.own 9 rfl)) ?_ | refine SX_run rfl rfl ?_ | refine SX_nil ?_ | refine SN_W ?_ | refine SW_seq ?_ | refine SW_regionX ?_ | refine SX_guardT rfl ?_ | refine SX_guardF rfl rfl ?_ | refine SX_guardU rfl ?_ | refine SX_gsplitD rfl rfl (fun h => ?_) (fun h => ?_) | refine SX_gsplitN rfl rfl (fun h => ?_) (fun h => ?_) | refine SX_gsplit rfl rfl (fun h => ?_) (fun h => ?_) | refine SW_condT rfl ?_ | refine SW_condF rfl ?_ | refine SW_condD rfl (fun h => ?_) (fun h => ?_) | refine SW_condN rfl (fun h => ?_) (fun h => ?_) | refine SW_condB rfl (fun h => ?_) (fun h => ?_) | refine SW_cond rfl (fun h => ?_) (fun h => ?_) | refine SW_block ?_ | refine SW_skip ?_ | refine SW_exit ?_ | refine SN_bl0 ?_ | refine SN_blS rfl ?_ | refine SW_ret ?_ | refine SX_v (Val_len rfl) ?_ | refine SX_v (Val_fa rfl) ?_ | refine SX_v (Val_add rfl rfl (by omega) (by omega)) ?_ | refine SX_v (Val_sub rfl rfl (by omega) (by omega)) ?_ | refine SX_v (Val_mul rfl rfl (by omega) (by omega)) ?_ | refine SX_v (Val_quoN rfl rfl (by omega) (by omega) (by omega)) ?_ | refine SX_v (Val_remN rfl rfl (by omega) (by omega)) ?_ | refine SX_v (Val_min rfl rfl) ?_ | refine SX_v (Val_beq und_bool rfl rfl) ?_ | refine SX_v (Val_bne und_bool rfl rfl) ?_)
  · refine SX_imp (Imp.dropS 1 ht0) ?_
    (refine SWl_at 76 ?_; refine SWl_callB rfl (fun w hw => edgesOfZ a i hi w (Src.arg ha w hw) hn hi10) (fun e he => SWl_x ?_))
    repeat' (first | refine SX_run rfl rfl ?_ | refine SX_nil ?_ | refine SN_W ?_ | refine SW_seq ?_ | refine SW_regionX ?_ | refine SX_guardT rfl ?_ | refine SX_guardF rfl rfl ?_ | refine SX_guardU rfl ?_ | refine SX_gsplitD rfl rfl (fun h => ?_) (fun h => ?_) | refine SX_gsplitN rfl rfl (fun h => ?_) (fun h => ?_) | refine SX_gsplit rfl rfl (fun h => ?_) (fun h => ?_) | refine SW_condT rfl ?_ | refine SW_condF rfl ?_ | refine SW_condD rfl (fun h => ?_) (fun h => ?_) | refine SW_condN rfl (fun h => ?_) (fun h => ?_) | refine SW_condB rfl (fun h => ?_) (fun h => ?_) | refine SW_cond rfl (fun h => ?_) (fun h => ?_) | refine SW_block ?_ | refine SW_skip ?_ | refine SW_exit ?_ | refine SN_bl0 ?_ | refine SN_blS rfl ?_ | refine SW_ret ?_ | refine SX_v (Val_len rfl) ?_ | refine SX_v (Val_fa rfl) ?_ | refine SX_v (Val_add rfl rfl (by omega) (by omega)) ?_ | refine SX_v (Val_sub rfl rfl (by omega) (by omega)) ?_ | refine SX_v (Val_mul rfl rfl (by omega) (by omega)) ?_ | refine SX_v (Val_quoN rfl rfl (by omega) (by omega) (by omega)) ?_ | refine SX_v (Val_remN rfl rfl (by omega) (by omega)) ?_ | refine SX_v (Val_min rfl rfl) ?_ | refine SX_v (Val_beq und_bool rfl rfl) ?_ | refine SX_v (Val_bne und_bool rfl rfl) ?_)
    have hel : e.n ≤ 10 := by rw [← e.hn, he]; exact edgesN_len _ _ _
    refine SW_loop (fun k σ L => ∃ (j : Nat) (r' : Sl Bool) (t' : Sl Int), k = e.n - j ∧ j ≤ e.n ∧ L = [Own t', Own e, Own r'] ∧ t'.n + left r'.l ≤ 30 ∧ t'.n + 2 * left r'.l < t.n + 2 * left r.l ∧ BfsI (a.l.map ObjL.pl) now r'.l t'.l i j ∧ ∃ τ, σ = ups τ [(0, a.val), (1, .int .i64 now), (5, r'.val), (6, t'.val), (27, e.val), (28, .int .i64 e.n), (29, .int .i64 j)]) e.n Imp.swap ⟨0, r, t.dropS 1, rfl, Nat.zero_le _, rfl, by show t.n - 1 + left r.l ≤ 30; omega, by show t.n - 1 + 2 * left r.l < _; omega, hP, ups_ex ⟨rfl, rfl, rfl, rfl, rfl, rfl, rfl, trivial⟩⟩ ?_
    rintro k σ L ⟨j, r', t', rfl, hj, rfl, ht20, hm, hI, τ, rfl⟩
    have hrn' : r'.n = 10 := by rw [← r'.hn]; exact hI.len
    by_cases hjl : j < e.n
    · have hjl' : j < (edgesN (a.l.map ObjL.pl) i 10).length := by rw [← he, e.hn]; exact hjl
      obtain ⟨q, eq, hq, _⟩ := edgesN_mem (List.getElem_mem hjl')
      have hen : e.nth j hjl = (q : Int) := (nth_of he j hjl).symm.trans eq
      have hqa : q < a.n := by omega
      have hqr : q < r'.n := by omega
      repeat' (first | refine SX_v (Val_ix (Src.own 1 rfl : Src lim w _ e) rfl rfl j rfl hjl) ?_ | refine SX_v (Val_ldE (Src.own 1 rfl : Src lim w _ e) rfl rfl hjl rfl) ?_ | refine SX_v (Val_ix (Src.own 2 rfl : Src lim w _ r') rfl rfl q hen hqr) ?_ | refine SX_v (Val_ldE (Src.own 2 rfl : Src lim w _ r') rfl rfl hqr rfl) ?_ | refine SX_v (Val_ix (sa _) rfl rfl q hen hqa) ?_ | refine SX_v (Val_ldAE (sa _) rfl rfl hqa) ?_ | (refine SX_at 31 ?_; refine SX_callA rfl (fun w hw => iExpired (a.nth q hqa) now w (Src.elem (sa _) q hqa w hw)) ?_) | refine SX_w (SWl_stS 2 (s := r') rfl (i := q) (j := 0) rfl rfl rfl hqr rfl rfl rfl true rfl rfl (fun _ _ => trivial) (SWl_x ?_)) | refine SX_w (SWl_bs (vs := [.int .i64 (e.nth j hjl)]) rfl rfl (by simp [Value.cells]) rfl rfl (fun b => SWl_x ?_)) | refine SX_w (SWl_appB 1 (s := t') rfl rfl 0 rfl [e.nth j hjl] rfl rfl (by unfold lim; simp; omega) (by rfl) (by rfl) (by rfl) (by rfl) (by rfl) (fun t2 ht2 hn2 => SWl_x ?_)) | refine SX_run rfl rfl ?_ | refine SX_nil ?_ | refine SN_W ?_ | refine SW_seq ?_ | refine SW_regionX ?_ | refine SX_guardT rfl ?_ | refine SX_guardF rfl rfl ?_ | refine SX_guardU rfl ?_ | refine SX_gsplitD rfl rfl (fun h => ?_) (fun h => ?_) | refine SX_gsplitN rfl rfl (fun h => ?_) (fun h => ?_) | refine SX_gsplit rfl rfl (fun h => ?_) (fun h => ?_) | refine SW_condT rfl ?_ | refine SW_condF rfl ?_ | refine SW_condD rfl (fun h => ?_) (fun h => ?_) | refine SW_condN rfl (fun h => ?_) (fun h => ?_) | refine SW_condB rfl (fun h => ?_) (fun h => ?_) | refine SW_cond rfl (fun h => ?_) (fun h => ?_) | refine SW_block ?_ | refine SW_skip ?_ | refine SW_exit ?_ | refine SN_bl0 ?_ | refine SN_blS rfl ?_ | refine SW_ret ?_ | refine SX_v (Val_len rfl) ?_ | refine SX_v (Val_fa rfl) ?_ | refine SX_v (Val_add rfl rfl (by omega) (by omega)) ?_ | refine SX_v (Val_sub rfl rfl (by omega) (by omega)) ?_ | refine SX_v (Val_mul rfl rfl (by omega) (by omega)) ?_ | refine SX_v (Val_quoN rfl rfl (by omega) (by omega) (by omega)) ?_ | refine SX_v (Val_remN rfl rfl (by omega) (by omega)) ?_ | refine SX_v (Val_min rfl rfl) ?_ | refine SX_v (Val_beq und_bool rfl rfl) ?_ | refine SX_v (Val_bne und_bool rfl rfl) ?_)
      all_goals first
        | (exfalso; omega)
        | (rename_i hbq
           have hnt : ¬ tr r'.l q := by rw [tr_nth hqr]; simpa using hbq
           have hlf := left_set (r := r'.l) (k := q) (by rw [r'.hn]; exact hqr) hnt
           refine SN_back (e.n - (j + 1)) (by omega) (Imp.drop1 Imp.refl) ⟨j + 1, r'.upd q true, t2, rfl, hjl, rfl, ?_, ?_, ?_, ups_ex ⟨rfl, rfl, rfl, rfl, rfl, rfl, rfl, trivial⟩⟩
           · show t2.n + left (r'.l.set q true) ≤ 30
             rw [hn2]; simp only [List.length_singleton]; omega
           · show t2.n + 2 * left (r'.l.set q true) < _
             rw [hn2]; simp only [List.length_singleton]; omega
           · show BfsI _ _ (r'.l.set q true) t2.l i (j + 1)
             rw [ht2, hen]
             exact hI.add hi10 hjl' q eq (by rw [exp_nth a q hqa]; exact h))
        | (refine SN_back (e.n - (j + 1)) (by omega) Imp.refl ⟨j + 1, r', t', rfl, hjl, rfl, ht20, hm, hI.skip hjl' q eq ?_, ups_ex ⟨rfl, rfl, rfl, rfl, rfl, rfl, rfl, trivial⟩⟩
           first
             | (right; rw [exp_nth a q hqa]; exact h)
             | (left; rw [tr_nth hqr]; simpa using h))
    · repeat' (first | refine SX_run rfl rfl ?_ | refine SX_nil ?_ | refine SN_W ?_ | refine SW_seq ?_ | refine SW_regionX ?_ | refine SX_guardT rfl ?_ | refine SX_guardF rfl rfl ?_ | refine SX_guardU rfl ?_ | refine SX_gsplitD rfl rfl (fun h => ?_) (fun h => ?_) | refine SX_gsplitN rfl rfl (fun h => ?_) (fun h => ?_) | refine SX_gsplit rfl rfl (fun h => ?_) (fun h => ?_) | refine SW_condT rfl ?_ | refine SW_condF rfl ?_ | refine SW_condD rfl (fun h => ?_) (fun h => ?_) | refine SW_condN rfl (fun h => ?_) (fun h => ?_) | refine SW_condB rfl (fun h => ?_) (fun h => ?_) | refine SW_cond rfl (fun h => ?_) (fun h => ?_) | refine SW_block ?_ | refine SW_skip ?_ | refine SW_exit ?_ | refine SN_bl0 ?_ | refine SN_blS rfl ?_ | refine SW_ret ?_ | refine SX_v (Val_len rfl) ?_ | refine SX_v (Val_fa rfl) ?_ | refine SX_v (Val_add rfl rfl (by omega) (by omega)) ?_ | refine SX_v (Val_sub rfl rfl (by omega) (by omega)) ?_ | refine SX_v (Val_mul rfl rfl (by omega) (by omega)) ?_ | refine SX_v (Val_quoN rfl rfl (by omega) (by omega) (by omega)) ?_ | refine SX_v (Val_remN rfl rfl (by omega) (by omega)) ?_ | refine SX_v (Val_min rfl rfl) ?_ | refine SX_v (Val_beq und_bool rfl rfl) ?_ | refine SX_v (Val_bne und_bool rfl rfl) ?_)
      · exfalso; omega
      exact SN_back _ hm (Imp.perm (List.Perm.cons _ (List.Perm.swap _ _ _)) |>.trans Imp.nilO) ⟨r', t', rfl, rfl, ht20, hI.out (by rw [← he, e.hn]; omega), ups_ex ⟨rfl, rfl, rfl, rfl, trivial⟩⟩
  · exfalso; omega
theorem iGarbage {m : Nat} (a : Sl ObjL) (now : Int) (w : World) (ha : Lod.rd m w a) (hr : RgA (a.l.map ObjL.pl)) : F Try.prog 27 [a.val, .int .i64 now] w (rB Sl.val (fun r : Sl Int => r.l = garbage (a.l.map ObjL.pl) now)) := by
  have sa : ∀ L, Src m w L a := fun L => Src.arg ha
  refine F_of Try.func27 rfl rfl ?_
  repeat' (first | refine SX_w (SWl_bs (vs := []) rfl rfl (fun _ h => nomatch h) rfl rfl (fun b => SWl_x ?_)) | refine SX_run rfl rfl ?_ | refine SX_nil ?_ | refine SN_W ?_ | refine SW_seq ?_ | refine SW_regionX ?_ | refine SX_guardT rfl ?_ | refine SX_guardF rfl rfl ?_ | refine SX_guardU rfl ?_ | refine SX_gsplitD rfl rfl (fun h => ?_) (fun h => ?_) | refine SX_gsplitN rfl rfl (fun h => ?_) (fun h => ?_) | refine SX_gsplit rfl rfl (fun h => ?_) (fun h => ?_) | refine SW_condT rfl ?_ | refine SW_condF rfl ?_ | refine SW_condD rfl (fun h => ?_) (fun h => ?_) | refine SW_condN rfl (fun h => ?_) (fun h => ?_) | refine SW_condB rfl (fun h => ?_) (fun h => ?_) | refine SW_cond rfl (fun h => ?_) (fun h => ?_) | refine SW_block ?_ | refine SW_skip ?_ | refine SW_exit ?_ | refine SN_bl0 ?_ | refine SN_blS rfl ?_ | refine SW_ret ?_ | refine SX_v (Val_len rfl) ?_ | refine SX_v (Val_fa rfl) ?_ | refine SX_v (Val_add rfl rfl (by omega) (by omega)) ?_ | refine SX_v (Val_sub rfl rfl (by omega) (by omega)) ?_ | refine SX_v (Val_mul rfl rfl (by omega) (by omega)) ?_ | refine SX_v (Val_quoN rfl rfl (by omega) (by omega) (by omega)) ?_ | refine SX_v (Val_remN rfl rfl (by omega) (by omega)) ?_ | refine SX_v (Val_min rfl rfl) ?_ | refine SX_v (Val_beq und_bool rfl rfl) ?_ | refine SX_v (Val_bne und_bool rfl rfl) ?_)
  (refine SWl_at 26 ?_; refine SWl_callB rfl (fun w hw => iReach a now w (Src.arg ha w hw) hr) (fun q hq => SWl_x ?_))
  repeat' (first | refine SX_run rfl rfl ?_ | refine SX_nil ?_ | refine SN_W ?_ | refine SW_seq ?_ | refine SW_regionX ?_ | refine SX_guardT rfl ?_ | refine SX_guardF rfl rfl ?_ | refine SX_guardU rfl ?_ | refine SX_gsplitD rfl rfl (fun h => ?_) (fun h => ?_) | refine SX_gsplitN rfl rfl (fun h => ?_) (fun h => ?_) | refine SX_gsplit rfl rfl (fun h => ?_) (fun h => ?_) | refine SW_condT rfl ?_ | refine SW_condF rfl ?_ | refine SW_condD rfl (fun h => ?_) (fun h => ?_) | refine SW_condN rfl (fun h => ?_) (fun h => ?_) | refine SW_condB rfl (fun h => ?_) (fun h => ?_) | refine SW_cond rfl (fun h => ?_) (fun h => ?_) | refine SW_block ?_ | refine SW_skip ?_ | refine SW_exit ?_ | refine SN_bl0 ?_ | refine SN_blS rfl ?_ | refine SW_ret ?_ | refine SX_v (Val_len rfl) ?_ | refine SX_v (Val_fa rfl) ?_ | refine SX_v (Val_add rfl rfl (by omega) (by omega)) ?_ | refine SX_v (Val_sub rfl rfl (by omega) (by omega)) ?_ | refine SX_v (Val_mul rfl rfl (by omega) (by omega)) ?_ | refine SX_v (Val_quoN rfl rfl (by omega) (by omega) (by omega)) ?_ | refine SX_v (Val_remN rfl rfl (by omega) (by omega)) ?_ | refine SX_v (Val_min rfl rfl) ?_ | refine SX_v (Val_beq und_bool rfl rfl) ?_ | refine SX_v (Val_bne und_bool rfl rfl) ?_)
  have hqn : q.n ≤ 10 := by
    rw [← q.hn, hq]
    by_cases hA : ArenaOk (a.l.map ObjL.pl)
    · rw [reach_len hA]; exact Nat.le_refl _
    · rw [reach_nil hA]; decide
  have hqa : q.n ≤ a.n := by
    by_cases hA : ArenaOk (a.l.map ObjL.pl)
    · have := arenaOk_n hA; omega
    · rw [← q.hn, hq, reach_nil hA]; exact Nat.zero_le _
  refine SW_loop (fun k σ L => ∃ (j : Nat) (r : Sl Int), k = q.n - j ∧ j ≤ q.n ∧ L = [Own r, Own q] ∧ r.l = garbN (a.l.map ObjL.pl) q.l j ∧ ∃ τ, σ = ups τ [(0, a.val), (5, r.val), (11, q.val), (12, .int .i64 q.n), (13, .int .i64 j)]) q.n (Imp.swap.trans (Imp.ofBlkF [] rfl rfl (by decide))) ⟨0, Sl.emp b, rfl, Nat.zero_le _, rfl, rfl, ups_ex ⟨rfl, rfl, rfl, rfl, rfl, trivial⟩⟩ ?_
  rintro k σ L ⟨j, r, rfl, hj, rfl, hr', τ, rfl⟩
  have hrl : r.n ≤ j := by rw [← r.hn, hr']; exact garbN_len _ _ _
  by_cases hjl : j < q.n
  · have hja : j < a.n := by omega
    have hE : ((oat (a.l.map ObjL.pl) j).kind ≠ 0 ∧ ¬ tr q.l j) ↔ ((a.nth j hja).kind ≠ 0 ∧ q.nth j hjl = false) := by
      rw [oat_nth a j hja, tr_nth hjl]; simp [ObjL.pl]
    repeat' (first | refine SX_v (Val_ix (Src.own 1 rfl : Src lim w _ q) rfl rfl j rfl hjl) ?_ | refine SX_v (Val_ldE (Src.own 1 rfl : Src lim w _ q) rfl rfl hjl rfl) ?_ | refine SX_v (Val_ix (sa _) rfl rfl j rfl hja) ?_ | refine SX_v (Val_ldS (sa _) rfl rfl rfl hja rfl) ?_ | refine SX_w (SWl_bs (vs := [.int .i64 j]) rfl rfl (by simp [Value.cells]) rfl rfl (fun b => SWl_x ?_)) | refine SX_w (SWl_appB 1 (s := r) rfl rfl 0 rfl [(j : Int)] rfl rfl (by unfold lim; simp; omega) (by rfl) (by rfl) (by rfl) (by rfl) (by rfl) (fun r' hr2 hn' => SWl_x ?_)) | refine SX_run rfl rfl ?_ | refine SX_nil ?_ | refine SN_W ?_ | refine SW_seq ?_ | refine SW_regionX ?_ | refine SX_guardT rfl ?_ | refine SX_guardF rfl rfl ?_ | refine SX_guardU rfl ?_ | refine SX_gsplitD rfl rfl (fun h => ?_) (fun h => ?_) | refine SX_gsplitN rfl rfl (fun h => ?_) (fun h => ?_) | refine SX_gsplit rfl rfl (fun h => ?_) (fun h => ?_) | refine SW_condT rfl ?_ | refine SW_condF rfl ?_ | refine SW_condD rfl (fun h => ?_) (fun h => ?_) | refine SW_condN rfl (fun h => ?_) (fun h => ?_) | refine SW_condB rfl (fun h => ?_) (fun h => ?_) | refine SW_cond rfl (fun h => ?_) (fun h => ?_) | refine SW_block ?_ | refine SW_skip ?_ | refine SW_exit ?_ | refine SN_bl0 ?_ | refine SN_blS rfl ?_ | refine SW_ret ?_ | refine SX_v (Val_len rfl) ?_ | refine SX_v (Val_fa rfl) ?_ | refine SX_v (Val_add rfl rfl (by omega) (by omega)) ?_ | refine SX_v (Val_sub rfl rfl (by omega) (by omega)) ?_ | refine SX_v (Val_mul rfl rfl (by omega) (by omega)) ?_ | refine SX_v (Val_quoN rfl rfl (by omega) (by omega) (by omega)) ?_ | refine SX_v (Val_remN rfl rfl (by omega) (by omega)) ?_ | refine SX_v (Val_min rfl rfl) ?_ | refine SX_v (Val_beq und_bool rfl rfl) ?_ | refine SX_v (Val_bne und_bool rfl rfl) ?_)
    all_goals first
      | (exfalso; omega)
      | (refine SN_back (q.n - (j + 1)) (by omega) (Imp.drop1 Imp.refl) ⟨j + 1, r', rfl, hjl, rfl, ?_, ups_ex ⟨rfl, rfl, rfl, rfl, rfl, trivial⟩⟩
         rename_i hbq
         rw [hr2, hr', garbN_step, if_pos (hE.2 ⟨h, by simpa using hbq⟩)])
      | (refine SN_back (q.n - (j + 1)) (by omega) Imp.refl ⟨j + 1, r, rfl, hjl, rfl, ?_, ups_ex ⟨rfl, rfl, rfl, rfl, rfl, trivial⟩⟩
         rw [hr', garbN_step, if_neg, List.append_nil]
         rw [hE]
         rintro ⟨e1, e2⟩
         first
           | exact e1 h
           | (rw [e2] at h; cases h))
  · repeat' (first | refine SX_run rfl rfl ?_ | refine SX_nil ?_ | refine SN_W ?_ | refine SW_seq ?_ | refine SW_regionX ?_ | refine SX_guardT rfl ?_ | refine SX_guardF rfl rfl ?_ | refine SX_guardU rfl ?_ | refine SX_gsplitD rfl rfl (fun h => ?_) (fun h => ?_) | refine SX_gsplitN rfl rfl (fun h => ?_) (fun h => ?_) | refine SX_gsplit rfl rfl (fun h => ?_) (fun h => ?_) | refine SW_condT rfl ?_ | refine SW_condF rfl ?_ | refine SW_condD rfl (fun h => ?_) (fun h => ?_) | refine SW_condN rfl (fun h => ?_) (fun h => ?_) | refine SW_condB rfl (fun h => ?_) (fun h => ?_) | refine SW_cond rfl (fun h => ?_) (fun h => ?_) | refine SW_block ?_ | refine SW_skip ?_ | refine SW_exit ?_ | refine SN_bl0 ?_ | refine SN_blS rfl ?_ | refine SW_ret ?_ | refine SX_v (Val_len rfl) ?_ | refine SX_v (Val_fa rfl) ?_ | refine SX_v (Val_add rfl rfl (by omega) (by omega)) ?_ | refine SX_v (Val_sub rfl rfl (by omega) (by omega)) ?_ | refine SX_v (Val_mul rfl rfl (by omega) (by omega)) ?_ | refine SX_v (Val_quoN rfl rfl (by omega) (by omega) (by omega)) ?_ | refine SX_v (Val_remN rfl rfl (by omega) (by omega)) ?_ | refine SX_v (Val_min rfl rfl) ?_ | refine SX_v (Val_beq und_bool rfl rfl) ?_ | refine SX_v (Val_bne und_bool rfl rfl) ?_)
    · exfalso; omega
    refine SN_ret1 rfl (RV.tmp rfl) (Imp.one 0 rfl) ⟨r, rfl, rfl, ?_⟩
    show r.l = _
    rw [hr', show j = q.l.length by have := q.hn; omega, hq]
    rfl
theorem Rch.kind {l : List Obj} {now : Int} {k : Nat} (hA : ArenaOk l) (h : Rch l now k) : (oat l k).kind ≠ 0 := by
  rcases h.live with rfl | h
  · rw [hA.2.1]; decide
  · intro e
    unfold expired at h
    rw [e] at h
    simp at h
theorem edges_live {l : List Obj} {i : Nat} (hA : ArenaOk l) (hi : i < 10) (hk : (oat l i).kind ≠ 0) : edges l (i : Int) = edgesN l i 10 := by
  unfold edges
  rw [if_pos ⟨hA, by omega, by simpa using hk⟩]
  simp
theorem iGoodSlot {m : Nat} (a : Sl ObjL) (now part hh : Int) (w : World) (ha : Lod.rd m w a) (hr : RgA (a.l.map ObjL.pl)) : FI 43 [a.val, .int .i64 now, .int .i64 part, .int .i64 hh] w (goodSlot (a.l.map ObjL.pl) now part hh) := by
  have sa : ∀ L, Src m w L a := fun L => Src.arg ha
  refine F_of Try.func43 rfl rfl ?_
  repeat' (first | refine SX_run rfl rfl ?_ | refine SX_nil ?_ | refine SN_W ?_ | refine SW_seq ?_ | refine SW_regionX ?_ | refine SX_guardT rfl ?_ | refine SX_guardF rfl rfl ?_ | refine SX_guardU rfl ?_ | refine SX_gsplitD rfl rfl (fun h => ?_) (fun h => ?_) | refine SX_gsplitN rfl rfl (fun h => ?_) (fun h => ?_) | refine SX_gsplit rfl rfl (fun h => ?_) (fun h => ?_) | refine SW_condT rfl ?_ | refine SW_condF rfl ?_ | refine SW_condD rfl (fun h => ?_) (fun h => ?_) | refine SW_condN rfl (fun h => ?_) (fun h => ?_) | refine SW_condB rfl (fun h => ?_) (fun h => ?_) | refine SW_cond rfl (fun h => ?_) (fun h => ?_) | refine SW_block ?_ | refine SW_skip ?_ | refine SW_exit ?_ | refine SN_bl0 ?_ | refine SN_blS rfl ?_ | refine SW_ret ?_ | refine SX_v (Val_len rfl) ?_ | refine SX_v (Val_fa rfl) ?_ | refine SX_v (Val_add rfl rfl (by omega) (by omega)) ?_ | refine SX_v (Val_sub rfl rfl (by omega) (by omega)) ?_ | refine SX_v (Val_mul rfl rfl (by omega) (by omega)) ?_ | refine SX_v (Val_quoN rfl rfl (by omega) (by omega) (by omega)) ?_ | refine SX_v (Val_remN rfl rfl (by omega) (by omega)) ?_ | refine SX_v (Val_min rfl rfl) ?_ | refine SX_v (Val_beq und_bool rfl rfl) ?_ | refine SX_v (Val_bne und_bool rfl rfl) ?_)
  (refine SWl_at 26 ?_; refine SWl_callB rfl (fun w hw => iReach a now w (Src.arg ha w hw) hr) (fun q hq => SWl_x ?_))
  have hql : (q.n : Int) = 0 ↔ ¬ ArenaOk (a.l.map ObjL.pl) := by
    rw [← q.hn, hq]
    constructor
    · intro h hA; rw [reach_len hA] at h; omega
    · intro hA; rw [reach_nil hA]; rfl
  repeat' (first | (refine SX_at 71 ?_; refine SX_callA rfl (fun w _ => isHandle _ w) ?_) | (refine SX_at 88 ?_; refine SX_callA rfl (fun w _ => HandlePart_i _ w) ?_) | (refine SX_at 89 ?_; refine SX_callA rfl (fun w _ => HandleSlot_i _ w) ?_) | refine SX_run rfl rfl ?_ | refine SX_nil ?_ | refine SN_W ?_ | refine SW_seq ?_ | refine SW_regionX ?_ | refine SX_guardT rfl ?_ | refine SX_guardF rfl rfl ?_ | refine SX_guardU rfl ?_ | refine SX_gsplitD rfl rfl (fun h => ?_) (fun h => ?_) | refine SX_gsplitN rfl rfl (fun h => ?_) (fun h => ?_) | refine SX_gsplit rfl rfl (fun h => ?_) (fun h => ?_) | refine SW_condT rfl ?_ | refine SW_condF rfl ?_ | refine SW_condD rfl (fun h => ?_) (fun h => ?_) | refine SW_condN rfl (fun h => ?_) (fun h => ?_) | refine SW_condB rfl (fun h => ?_) (fun h => ?_) | refine SW_cond rfl (fun h => ?_) (fun h => ?_) | refine SW_block ?_ | refine SW_skip ?_ | refine SW_exit ?_ | refine SN_bl0 ?_ | refine SN_blS rfl ?_ | refine SW_ret ?_ | refine SX_v (Val_len rfl) ?_ | refine SX_v (Val_fa rfl) ?_ | refine SX_v (Val_add rfl rfl (by omega) (by omega)) ?_ | refine SX_v (Val_sub rfl rfl (by omega) (by omega)) ?_ | refine SX_v (Val_mul rfl rfl (by omega) (by omega)) ?_ | refine SX_v (Val_quoN rfl rfl (by omega) (by omega) (by omega)) ?_ | refine SX_v (Val_remN rfl rfl (by omega) (by omega)) ?_ | refine SX_v (Val_min rfl rfl) ?_ | refine SX_v (Val_beq und_bool rfl rfl) ?_ | refine SX_v (Val_bne und_bool rfl rfl) ?_)
  · refine SN_retI rfl rfl ⟨?_, rfl⟩
    congr 1
    exact (if_neg fun e => hql.1 h e.1).symm
  · refine SN_retI rfl rfl ⟨?_, rfl⟩
    congr 1
    exact (if_neg fun e => h e.2.1).symm
  · refine SN_retI rfl rfl ⟨?_, rfl⟩
    congr 1
    exact (if_neg fun e => h e.2.2.1).symm
  rename_i hl hh1
  have hA : ArenaOk (a.l.map ObjL.pl) := Classical.byContradiction fun e => hl (hql.2 e)
  have hn := arenaOk_n hA
  have hs : 0 ≤ hSlot hh ∧ hSlot hh ≤ 9 := by unfold hSlot; rw [if_pos hh1]; omega
  have hqn : q.n = 10 := by rw [← q.hn, hq, reach_len hA]
  have hi : (hSlot hh).toNat < a.n := by omega
  have hiq : (hSlot hh).toNat < q.n := by omega
  have hii : hSlot hh = ((hSlot hh).toNat : Int) := by omega
  have ho := oat_nth a _ hi
  have hk : (oat (a.l.map ObjL.pl) (hSlot hh).toNat).kind = (a.nth _ hi).kind := by rw [ho]; rfl
  have hg : (oat (a.l.map ObjL.pl) (hSlot hh).toNat).gen = (a.nth _ hi).gen := by rw [ho]; rfl
  have hR : Rch (a.l.map ObjL.pl) now (hSlot hh).toNat ↔ q.nth _ hiq = true := by rw [← reach_tr hA, ← hq]; exact tr_nth hiq
  repeat' (first | (refine SX_at 90 ?_; refine SX_callA rfl (fun w _ => HandleGen_i _ w) ?_) | refine SX_v (Val_ix (sa _) rfl rfl _ hii hi) ?_ | refine SX_v (Val_ldS (sa _) rfl rfl rfl hi rfl) ?_ | refine SX_v (Val_ix (s := q) (by first | exact Src.own 0 rfl | exact Src.own 1 rfl | exact Src.own 2 rfl | exact Src.own 3 rfl | exact Src.own 4 rfl | exact Src.own 5 rfl | exact Src.own 6 rfl | exact Src.own 7 rfl | exact Src.own 8 rfl | exact Src.own 9 rfl) rfl rfl _ hii hiq) ?_ | refine SX_v (Val_ldE (s := q) (by first | exact Src.own 0 rfl | exact Src.own 1 rfl | exact Src.own 2 rfl | exact Src.own 3 rfl | exact Src.own 4 rfl | exact Src.own 5 rfl | exact Src.own 6 rfl | exact Src.own 7 rfl | exact Src.own 8 rfl | exact Src.own 9 rfl) rfl rfl hiq rfl) ?_ | refine SX_run rfl rfl ?_ | refine SX_nil ?_ | refine SN_W ?_ | refine SW_seq ?_ | refine SW_regionX ?_ | refine SX_guardT rfl ?_ | refine SX_guardF rfl rfl ?_ | refine SX_guardU rfl ?_ | refine SX_gsplitD rfl rfl (fun h => ?_) (fun h => ?_) | refine SX_gsplitN rfl rfl (fun h => ?_) (fun h => ?_) | refine SX_gsplit rfl rfl (fun h => ?_) (fun h => ?_) | refine SW_condT rfl ?_ | refine SW_condF rfl ?_ | refine SW_condD rfl (fun h => ?_) (fun h => ?_) | refine SW_condN rfl (fun h => ?_) (fun h => ?_) | refine SW_condB rfl (fun h => ?_) (fun h => ?_) | refine SW_cond rfl (fun h => ?_) (fun h => ?_) | refine SW_block ?_ | refine SW_skip ?_ | refine SW_exit ?_ | refine SN_bl0 ?_ | refine SN_blS rfl ?_ | refine SW_ret ?_ | refine SX_v (Val_len rfl) ?_ | refine SX_v (Val_fa rfl) ?_ | refine SX_v (Val_add rfl rfl (by omega) (by omega)) ?_ | refine SX_v (Val_sub rfl rfl (by omega) (by omega)) ?_ | refine SX_v (Val_mul rfl rfl (by omega) (by omega)) ?_ | refine SX_v (Val_quoN rfl rfl (by omega) (by omega) (by omega)) ?_ | refine SX_v (Val_remN rfl rfl (by omega) (by omega)) ?_ | refine SX_v (Val_min rfl rfl) ?_ | refine SX_v (Val_beq und_bool rfl rfl) ?_ | refine SX_v (Val_bne und_bool rfl rfl) ?_ | refine SW_regionD mixed (by kernel_rfl) ?_)
  all_goals (refine SN_retI rfl rfl ⟨?_, rfl⟩; congr 1)
  · exact (if_neg fun e => e.2.2.2.1 (hk.trans h)).symm
  · exact (if_neg fun e => h (hg.symm.trans e.2.2.2.2.1)).symm
  · exact (if_neg fun e => by rw [hR.1 e.2.2.2.2.2] at h; cases h).symm
  · rename_i hk' hg'
    exact (if_pos ⟨hA, hh1, ‹_›, fun e => hk' (hk.symm.trans e), hg.trans hg', hR.2 (by simpa using h)⟩).symm
theorem sReach {m : Nat} (a : Sl ObjL) (now : Int) (w : World) (ha : Lod.rd m w a) (hr : RgA (a.l.map ObjL.pl)) : F Try.prog 44 [a.val, .int .i64 now] w (rB Sl.val (fun r : Sl Bool => r.l = reach (a.l.map ObjL.pl) now)) := by
  have sa : ∀ L, Src m w L a := fun L => Src.arg ha
  refine F_of Try.func44 rfl rfl ?_
  repeat' (first | refine SX_w (SWl_bs (vs := []) rfl rfl (fun _ h => nomatch h) rfl rfl (fun b => SWl_x ?_)) | (refine SX_at 20 ?_; refine SX_callA rfl (fun w hw => sArenaOk a w (Src.arg ha w hw) hr) ?_) | refine SX_w (SWl_mk 10 rfl rfl rfl (by decide) false (by rfl) (by rfl) (by rfl) (by rfl) rfl (fun _ => trivial) (fun r0 hr0 hn0 => SWl_x ?_)) | refine SX_v (Val_ix (Src.own 0 rfl : Src lim w _ r0) rfl rfl 0 rfl (by omega)) ?_ | refine SX_w (SWl_stS 0 (s := r0) rfl (i := 0) (j := 0) rfl rfl rfl (by omega) rfl rfl rfl true rfl rfl (fun _ _ => trivial) (SWl_x ?_)) | refine SX_run rfl rfl ?_ | refine SX_nil ?_ | refine SN_W ?_ | refine SW_seq ?_ | refine SW_regionX ?_ | refine SX_guardT rfl ?_ | refine SX_guardF rfl rfl ?_ | refine SX_guardU rfl ?_ | refine SX_gsplitD rfl rfl (fun h => ?_) (fun h => ?_) | refine SX_gsplitN rfl rfl (fun h => ?_) (fun h => ?_) | refine SX_gsplit rfl rfl (fun h => ?_) (fun h => ?_) | refine SW_condT rfl ?_ | refine SW_condF rfl ?_ | refine SW_condD rfl (fun h => ?_) (fun h => ?_) | refine SW_condN rfl (fun h => ?_) (fun h => ?_) | refine SW_condB rfl (fun h => ?_) (fun h => ?_) | refine SW_cond rfl (fun h => ?_) (fun h => ?_) | refine SW_block ?_ | refine SW_skip ?_ | refine SW_exit ?_ | refine SN_bl0 ?_ | refine SN_blS rfl ?_ | refine SW_ret ?_ | refine SX_v (Val_len rfl) ?_ | refine SX_v (Val_fa rfl) ?_ | refine SX_v (Val_add rfl rfl (by omega) (by omega)) ?_ | refine SX_v (Val_sub rfl rfl (by omega) (by omega)) ?_ | refine SX_v (Val_mul rfl rfl (by omega) (by omega)) ?_ | refine SX_v (Val_quoN rfl rfl (by omega) (by omega) (by omega)) ?_ | refine SX_v (Val_remN rfl rfl (by omega) (by omega)) ?_ | refine SX_v (Val_min rfl rfl) ?_ | refine SX_v (Val_beq und_bool rfl rfl) ?_ | refine SX_v (Val_bne und_bool rfl rfl) ?_)
  · refine SN_ret1 rfl (RV.tmp rfl) (Imp.ofBlkF ([] : List Bool) rfl rfl (by decide)) ⟨⟨some ⟨b, 0, none⟩, 0, 0, [], rfl⟩, rfl, rfl, ?_⟩
    exact (reach_nil ‹¬ArenaOk _›).symm
  have hA : ArenaOk (a.l.map ObjL.pl) := ‹_›
  have hn := arenaOk_n hA
  have hst := Bfs.start (a.l.map ObjL.pl) now
  refine SW_loop (fun k σ L => ∃ (n : Nat) (r : Sl Bool), k = 10 - n ∧ n ≤ 10 ∧ L = [Own r] ∧ r.l.length = 10 ∧ tr r.l 0 ∧ (∀ k, tr r.l k → Rch (a.l.map ObjL.pl) now k) ∧ (Shut (a.l.map ObjL.pl) now r.l ∨ n + 1 ≤ r.l.count true) ∧ ∃ τ, σ = ups τ [(0, a.val), (1, .int .i64 now), (5, r.val), (6, .int .i64 n)]) 10 (Imp.one 0 rfl) ⟨0, r0.upd 0 true, rfl, by omega, rfl, ?_, ?_, ?_, ?_, ups_ex ⟨rfl, rfl, rfl, rfl, trivial⟩⟩ ?_
  · show (r0.l.set 0 true).length = 10; rw [hr0]; rfl
  · show tr (r0.l.set 0 true) 0; rw [hr0]; exact hst.root
  · show ∀ k, tr (r0.l.set 0 true) k → _; rw [hr0]; exact hst.snd
  · right; show 0 + 1 ≤ (r0.l.set 0 true).count true; rw [hr0]; decide
  rintro k σ L ⟨n, r0, rfl, hn10, rfl, h1, h2, h3, h4, τ, rfl⟩
  by_cases hnl : n < 10
  · repeat' (first | refine SX_run rfl rfl ?_ | refine SX_nil ?_ | refine SN_W ?_ | refine SW_seq ?_ | refine SW_regionX ?_ | refine SX_guardT rfl ?_ | refine SX_guardF rfl rfl ?_ | refine SX_guardU rfl ?_ | refine SX_gsplitD rfl rfl (fun h => ?_) (fun h => ?_) | refine SX_gsplitN rfl rfl (fun h => ?_) (fun h => ?_) | refine SX_gsplit rfl rfl (fun h => ?_) (fun h => ?_) | refine SW_condT rfl ?_ | refine SW_condF rfl ?_ | refine SW_condD rfl (fun h => ?_) (fun h => ?_) | refine SW_condN rfl (fun h => ?_) (fun h => ?_) | refine SW_condB rfl (fun h => ?_) (fun h => ?_) | refine SW_cond rfl (fun h => ?_) (fun h => ?_) | refine SW_block ?_ | refine SW_skip ?_ | refine SW_exit ?_ | refine SN_bl0 ?_ | refine SN_blS rfl ?_ | refine SW_ret ?_ | refine SX_v (Val_len rfl) ?_ | refine SX_v (Val_fa rfl) ?_ | refine SX_v (Val_add rfl rfl (by omega) (by omega)) ?_ | refine SX_v (Val_sub rfl rfl (by omega) (by omega)) ?_ | refine SX_v (Val_mul rfl rfl (by omega) (by omega)) ?_ | refine SX_v (Val_quoN rfl rfl (by omega) (by omega) (by omega)) ?_ | refine SX_v (Val_remN rfl rfl (by omega) (by omega)) ?_ | refine SX_v (Val_min rfl rfl) ?_ | refine SX_v (Val_beq und_bool rfl rfl) ?_ | refine SX_v (Val_bne und_bool rfl rfl) ?_)
    · refine SW_loop (fun k σ L => ∃ (i : Nat) (r : Sl Bool), k = 10 - i ∧ i ≤ 10 ∧ L = [Own r] ∧ Rnd (a.l.map ObjL.pl) now r0.l r.l i ∧ ∃ τ, σ = ups τ [(0, a.val), (1, .int .i64 now), (5, r.val), (6, .int .i64 n), (7, .int .i64 i)]) 10 Imp.refl ⟨0, r0, rfl, by omega, rfl, Rnd.start h1 h2 h3, ups_ex ⟨rfl, rfl, rfl, rfl, rfl, trivial⟩⟩ ?_
      rintro k σ L ⟨i, r, rfl, hi10, rfl, hR, τ, rfl⟩
      have hrn : r.n = 10 := by rw [← r.hn]; exact hR.len
      by_cases hil : i < 10
      · have hia : i < a.n := by omega
        have hir : i < r.n := by omega
        repeat' (first | refine SX_v (Val_ix (s := r) (by first | exact Src.own 0 rfl | exact Src.own 1 rfl | exact Src.own 2 rfl | exact Src.own 3 rfl | exact Src.own 4 rfl | exact Src.own 5 rfl | exact Src.own 6 rfl | exact Src.own 7 rfl | exact Src.own 8 rfl | exact Src.own 9 rfl) rfl rfl i rfl hir) ?_ | refine SX_v (Val_ldE (s := r) (by first | exact Src.own 0 rfl | exact Src.own 1 rfl | exact Src.own 2 rfl | exact Src.own 3 rfl | exact Src.own 4 rfl | exact Src.own 5 rfl | exact Src.own 6 rfl | exact Src.own 7 rfl | exact Src.own 8 rfl | exact Src.own 9 rfl) rfl rfl hir rfl) ?_ | refine SX_v (Val_ix (sa _) rfl rfl i rfl hia) ?_ | refine SX_v (Val_ldAE (sa _) rfl rfl hia) ?_ | (refine SX_at 30 ?_; refine SX_callA rfl (fun w hw => sExpired (a.nth i hia) now w (Src.elem (sa _) i hia w hw)) ?_) | refine SX_run rfl rfl ?_ | refine SX_nil ?_ | refine SN_W ?_ | refine SW_seq ?_ | refine SW_regionX ?_ | refine SX_guardT rfl ?_ | refine SX_guardF rfl rfl ?_ | refine SX_guardU rfl ?_ | refine SX_gsplitD rfl rfl (fun h => ?_) (fun h => ?_) | refine SX_gsplitN rfl rfl (fun h => ?_) (fun h => ?_) | refine SX_gsplit rfl rfl (fun h => ?_) (fun h => ?_) | refine SW_condT rfl ?_ | refine SW_condF rfl ?_ | refine SW_condD rfl (fun h => ?_) (fun h => ?_) | refine SW_condN rfl (fun h => ?_) (fun h => ?_) | refine SW_condB rfl (fun h => ?_) (fun h => ?_) | refine SW_cond rfl (fun h => ?_) (fun h => ?_) | refine SW_block ?_ | refine SW_skip ?_ | refine SW_exit ?_ | refine SN_bl0 ?_ | refine SN_blS rfl ?_ | refine SW_ret ?_ | refine SX_v (Val_len rfl) ?_ | refine SX_v (Val_fa rfl) ?_ | refine SX_v (Val_add rfl rfl (by omega) (by omega)) ?_ | refine SX_v (Val_sub rfl rfl (by omega) (by omega)) ?_ | refine SX_v (Val_mul rfl rfl (by omega) (by omega)) ?_ | refine SX_v (Val_quoN rfl rfl (by omega) (by omega) (by omega)) ?_ | refine SX_v (Val_remN rfl rfl (by omega) (by omega)) ?_ | refine SX_v (Val_min rfl rfl) ?_ | refine SX_v (Val_beq und_bool rfl rfl) ?_ | refine SX_v (Val_bne und_bool rfl rfl) ?_)
        all_goals try (exfalso; omega)
        · refine SN_back (10 - (i + 1)) (by omega) Imp.refl ⟨i + 1, r, rfl, by omega, rfl, hR.skip ?_, ups_ex ⟨rfl, rfl, rfl, rfl, rfl, trivial⟩⟩
          rw [tr_nth hir]; simpa using h
        · rename_i hb he
          exfalso
          rcases (hR.snd i ((tr_nth hir).2 (by simpa using hb))).live with e | e
          · omega
          · rw [exp_nth a i hia, he] at e; cases e
        all_goals
          have htr : tr r.l i := (tr_nth hir).2 (by first | (rename_i hb _; simpa using hb; done) | (rename_i hb; simpa using hb; done))
          have hk := Rch.kind hA (hR.snd i htr)
          repeat' (first | refine SX_run rfl rfl ?_ | refine SX_nil ?_ | refine SN_W ?_ | refine SW_seq ?_ | refine SW_regionX ?_ | refine SX_guardT rfl ?_ | refine SX_guardF rfl rfl ?_ | refine SX_guardU rfl ?_ | refine SX_gsplitD rfl rfl (fun h => ?_) (fun h => ?_) | refine SX_gsplitN rfl rfl (fun h => ?_) (fun h => ?_) | refine SX_gsplit rfl rfl (fun h => ?_) (fun h => ?_) | refine SW_condT rfl ?_ | refine SW_condF rfl ?_ | refine SW_condD rfl (fun h => ?_) (fun h => ?_) | refine SW_condN rfl (fun h => ?_) (fun h => ?_) | refine SW_condB rfl (fun h => ?_) (fun h => ?_) | refine SW_cond rfl (fun h => ?_) (fun h => ?_) | refine SW_block ?_ | refine SW_skip ?_ | refine SW_exit ?_ | refine SN_bl0 ?_ | refine SN_blS rfl ?_ | refine SW_ret ?_ | refine SX_v (Val_len rfl) ?_ | refine SX_v (Val_fa rfl) ?_ | refine SX_v (Val_add rfl rfl (by omega) (by omega)) ?_ | refine SX_v (Val_sub rfl rfl (by omega) (by omega)) ?_ | refine SX_v (Val_mul rfl rfl (by omega) (by omega)) ?_ | refine SX_v (Val_quoN rfl rfl (by omega) (by omega) (by omega)) ?_ | refine SX_v (Val_remN rfl rfl (by omega) (by omega)) ?_ | refine SX_v (Val_min rfl rfl) ?_ | refine SX_v (Val_beq und_bool rfl rfl) ?_ | refine SX_v (Val_bne und_bool rfl rfl) ?_)
          (refine SWl_at 32 ?_; refine SWl_callB rfl (fun w hw => sEdges a i w (Src.arg ha w hw) hr) (fun e he0 => SWl_x ?_))
          rw [edges_live hA hil hk] at he0
          repeat' (first | refine SX_run rfl rfl ?_ | refine SX_nil ?_ | refine SN_W ?_ | refine SW_seq ?_ | refine SW_regionX ?_ | refine SX_guardT rfl ?_ | refine SX_guardF rfl rfl ?_ | refine SX_guardU rfl ?_ | refine SX_gsplitD rfl rfl (fun h => ?_) (fun h => ?_) | refine SX_gsplitN rfl rfl (fun h => ?_) (fun h => ?_) | refine SX_gsplit rfl rfl (fun h => ?_) (fun h => ?_) | refine SW_condT rfl ?_ | refine SW_condF rfl ?_ | refine SW_condD rfl (fun h => ?_) (fun h => ?_) | refine SW_condN rfl (fun h => ?_) (fun h => ?_) | refine SW_condB rfl (fun h => ?_) (fun h => ?_) | refine SW_cond rfl (fun h => ?_) (fun h => ?_) | refine SW_block ?_ | refine SW_skip ?_ | refine SW_exit ?_ | refine SN_bl0 ?_ | refine SN_blS rfl ?_ | refine SW_ret ?_ | refine SX_v (Val_len rfl) ?_ | refine SX_v (Val_fa rfl) ?_ | refine SX_v (Val_add rfl rfl (by omega) (by omega)) ?_ | refine SX_v (Val_sub rfl rfl (by omega) (by omega)) ?_ | refine SX_v (Val_mul rfl rfl (by omega) (by omega)) ?_ | refine SX_v (Val_quoN rfl rfl (by omega) (by omega) (by omega)) ?_ | refine SX_v (Val_remN rfl rfl (by omega) (by omega)) ?_ | refine SX_v (Val_min rfl rfl) ?_ | refine SX_v (Val_beq und_bool rfl rfl) ?_ | refine SX_v (Val_bne und_bool rfl rfl) ?_)
          have hel : e.n ≤ 10 := by rw [← e.hn, he0]; exact edgesN_len _ _ _
          refine SW_loop (fun k σ L => ∃ (j : Nat) (r' : Sl Bool), k = e.n - j ∧ j ≤ e.n ∧ L = [Own e, Own r'] ∧ RndI (a.l.map ObjL.pl) now r0.l r'.l i j ∧ ∃ τ, σ = ups τ [(0, a.val), (1, .int .i64 now), (5, r'.val), (6, .int .i64 n), (7, .int .i64 i), (8, e.val), (9, .int .i64 j)]) e.n Imp.refl ⟨0, r, rfl, Nat.zero_le _, rfl, hR.enter htr, ups_ex ⟨rfl, rfl, rfl, rfl, rfl, rfl, rfl, trivial⟩⟩ ?_
          rintro k σ L ⟨j, r', rfl, hj, rfl, hI, τ, rfl⟩
          have hrn' : r'.n = 10 := by rw [← r'.hn]; exact hI.rnd.len
          by_cases hjl : j < e.n
          · have hjl' : j < (edgesN (a.l.map ObjL.pl) i 10).length := by rw [← he0, e.hn]; exact hjl
            obtain ⟨q, eq, hq, _⟩ := edgesN_mem (List.getElem_mem hjl')
            have hen : e.nth j hjl = (q : Int) := (nth_of he0 j hjl).symm.trans eq
            have hqa : q < a.n := by omega
            have hqr : q < r'.n := by omega
            repeat' (first | refine SX_v (Val_ix (s := e) (by first | exact Src.own 0 rfl | exact Src.own 1 rfl | exact Src.own 2 rfl | exact Src.own 3 rfl | exact Src.own 4 rfl | exact Src.own 5 rfl | exact Src.own 6 rfl | exact Src.own 7 rfl | exact Src.own 8 rfl | exact Src.own 9 rfl) rfl rfl j rfl hjl) ?_ | refine SX_v (Val_ldE (s := e) (by first | exact Src.own 0 rfl | exact Src.own 1 rfl | exact Src.own 2 rfl | exact Src.own 3 rfl | exact Src.own 4 rfl | exact Src.own 5 rfl | exact Src.own 6 rfl | exact Src.own 7 rfl | exact Src.own 8 rfl | exact Src.own 9 rfl) rfl rfl hjl rfl) ?_ | refine SX_v (Val_ix (s := r') (by first | exact Src.own 0 rfl | exact Src.own 1 rfl | exact Src.own 2 rfl | exact Src.own 3 rfl | exact Src.own 4 rfl | exact Src.own 5 rfl | exact Src.own 6 rfl | exact Src.own 7 rfl | exact Src.own 8 rfl | exact Src.own 9 rfl) rfl rfl q hen hqr) ?_ | refine SX_v (Val_ix (sa _) rfl rfl q hen hqa) ?_ | refine SX_v (Val_ldAE (sa _) rfl rfl hqa) ?_ | (refine SX_at 30 ?_; refine SX_callA rfl (fun w hw => sExpired (a.nth q hqa) now w (Src.elem (sa _) q hqa w hw)) ?_) | refine SX_w (SWl_stS 1 (s := r') rfl (i := q) (j := 0) rfl rfl rfl hqr rfl rfl rfl true rfl rfl (fun _ _ => trivial) (SWl_x ?_)) | refine SX_run rfl rfl ?_ | refine SX_nil ?_ | refine SN_W ?_ | refine SW_seq ?_ | refine SW_regionX ?_ | refine SX_guardT rfl ?_ | refine SX_guardF rfl rfl ?_ | refine SX_guardU rfl ?_ | refine SX_gsplitD rfl rfl (fun h => ?_) (fun h => ?_) | refine SX_gsplitN rfl rfl (fun h => ?_) (fun h => ?_) | refine SX_gsplit rfl rfl (fun h => ?_) (fun h => ?_) | refine SW_condT rfl ?_ | refine SW_condF rfl ?_ | refine SW_condD rfl (fun h => ?_) (fun h => ?_) | refine SW_condN rfl (fun h => ?_) (fun h => ?_) | refine SW_condB rfl (fun h => ?_) (fun h => ?_) | refine SW_cond rfl (fun h => ?_) (fun h => ?_) | refine SW_block ?_ | refine SW_skip ?_ | refine SW_exit ?_ | refine SN_bl0 ?_ | refine SN_blS rfl ?_ | refine SW_ret ?_ | refine SX_v (Val_len rfl) ?_ | refine SX_v (Val_fa rfl) ?_ | refine SX_v (Val_add rfl rfl (by omega) (by omega)) ?_ | refine SX_v (Val_sub rfl rfl (by omega) (by omega)) ?_ | refine SX_v (Val_mul rfl rfl (by omega) (by omega)) ?_ | refine SX_v (Val_quoN rfl rfl (by omega) (by omega) (by omega)) ?_ | refine SX_v (Val_remN rfl rfl (by omega) (by omega)) ?_ | refine SX_v (Val_min rfl rfl) ?_ | refine SX_v (Val_beq und_bool rfl rfl) ?_ | refine SX_v (Val_bne und_bool rfl rfl) ?_)
            · exact SN_back (e.n - (j + 1)) (by omega) Imp.refl ⟨j + 1, r'.upd q true, rfl, hjl, rfl, hI.add hil hjl' q eq (by rw [exp_nth a q hqa]; exact h), ups_ex ⟨rfl, rfl, rfl, rfl, rfl, rfl, rfl, trivial⟩⟩
            · exact SN_back (e.n - (j + 1)) (by omega) Imp.refl ⟨j + 1, r', rfl, hjl, rfl, hI.skip hjl' q eq (by rw [exp_nth a q hqa]; exact h), ups_ex ⟨rfl, rfl, rfl, rfl, rfl, rfl, rfl, trivial⟩⟩
            · exfalso; omega
          · repeat' (first | refine SX_run rfl rfl ?_ | refine SX_nil ?_ | refine SN_W ?_ | refine SW_seq ?_ | refine SW_regionX ?_ | refine SX_guardT rfl ?_ | refine SX_guardF rfl rfl ?_ | refine SX_guardU rfl ?_ | refine SX_gsplitD rfl rfl (fun h => ?_) (fun h => ?_) | refine SX_gsplitN rfl rfl (fun h => ?_) (fun h => ?_) | refine SX_gsplit rfl rfl (fun h => ?_) (fun h => ?_) | refine SW_condT rfl ?_ | refine SW_condF rfl ?_ | refine SW_condD rfl (fun h => ?_) (fun h => ?_) | refine SW_condN rfl (fun h => ?_) (fun h => ?_) | refine SW_condB rfl (fun h => ?_) (fun h => ?_) | refine SW_cond rfl (fun h => ?_) (fun h => ?_) | refine SW_block ?_ | refine SW_skip ?_ | refine SW_exit ?_ | refine SN_bl0 ?_ | refine SN_blS rfl ?_ | refine SW_ret ?_ | refine SX_v (Val_len rfl) ?_ | refine SX_v (Val_fa rfl) ?_ | refine SX_v (Val_add rfl rfl (by omega) (by omega)) ?_ | refine SX_v (Val_sub rfl rfl (by omega) (by omega)) ?_ | refine SX_v (Val_mul rfl rfl (by omega) (by omega)) ?_ | refine SX_v (Val_quoN rfl rfl (by omega) (by omega) (by omega)) ?_ | refine SX_v (Val_remN rfl rfl (by omega) (by omega)) ?_ | refine SX_v (Val_min rfl rfl) ?_ | refine SX_v (Val_beq und_bool rfl rfl) ?_ | refine SX_v (Val_bne und_bool rfl rfl) ?_)
            · exfalso; omega
            exact SN_back (10 - (i + 1)) (by omega) (Imp.one 1 rfl) ⟨i + 1, r', rfl, by omega, rfl, hI.out (by rw [← he0, e.hn]; omega), ups_ex ⟨rfl, rfl, rfl, rfl, rfl, trivial⟩⟩
      · repeat' (first | refine SX_run rfl rfl ?_ | refine SX_nil ?_ | refine SN_W ?_ | refine SW_seq ?_ | refine SW_regionX ?_ | refine SX_guardT rfl ?_ | refine SX_guardF rfl rfl ?_ | refine SX_guardU rfl ?_ | refine SX_gsplitD rfl rfl (fun h => ?_) (fun h => ?_) | refine SX_gsplitN rfl rfl (fun h => ?_) (fun h => ?_) | refine SX_gsplit rfl rfl (fun h => ?_) (fun h => ?_) | refine SW_condT rfl ?_ | refine SW_condF rfl ?_ | refine SW_condD rfl (fun h => ?_) (fun h => ?_) | refine SW_condN rfl (fun h => ?_) (fun h => ?_) | refine SW_condB rfl (fun h => ?_) (fun h => ?_) | refine SW_cond rfl (fun h => ?_) (fun h => ?_) | refine SW_block ?_ | refine SW_skip ?_ | refine SW_exit ?_ | refine SN_bl0 ?_ | refine SN_blS rfl ?_ | refine SW_ret ?_ | refine SX_v (Val_len rfl) ?_ | refine SX_v (Val_fa rfl) ?_ | refine SX_v (Val_add rfl rfl (by omega) (by omega)) ?_ | refine SX_v (Val_sub rfl rfl (by omega) (by omega)) ?_ | refine SX_v (Val_mul rfl rfl (by omega) (by omega)) ?_ | refine SX_v (Val_quoN rfl rfl (by omega) (by omega) (by omega)) ?_ | refine SX_v (Val_remN rfl rfl (by omega) (by omega)) ?_ | refine SX_v (Val_min rfl rfl) ?_ | refine SX_v (Val_beq und_bool rfl rfl) ?_ | refine SX_v (Val_bne und_bool rfl rfl) ?_)
        · exfalso; omega
        exact SN_back (10 - (n + 1)) (by omega) Imp.refl ⟨n + 1, r, rfl, by omega, rfl, hR.len, hR.root, hR.snd, (show i = 10 by omega) ▸ hR |>.turn h1 h4, ups_ex ⟨rfl, rfl, rfl, rfl, trivial⟩⟩
    · exfalso; omega
  · repeat' (first | refine SX_run rfl rfl ?_ | refine SX_nil ?_ | refine SN_W ?_ | refine SW_seq ?_ | refine SW_regionX ?_ | refine SX_guardT rfl ?_ | refine SX_guardF rfl rfl ?_ | refine SX_guardU rfl ?_ | refine SX_gsplitD rfl rfl (fun h => ?_) (fun h => ?_) | refine SX_gsplitN rfl rfl (fun h => ?_) (fun h => ?_) | refine SX_gsplit rfl rfl (fun h => ?_) (fun h => ?_) | refine SW_condT rfl ?_ | refine SW_condF rfl ?_ | refine SW_condD rfl (fun h => ?_) (fun h => ?_) | refine SW_condN rfl (fun h => ?_) (fun h => ?_) | refine SW_condB rfl (fun h => ?_) (fun h => ?_) | refine SW_cond rfl (fun h => ?_) (fun h => ?_) | refine SW_block ?_ | refine SW_skip ?_ | refine SW_exit ?_ | refine SN_bl0 ?_ | refine SN_blS rfl ?_ | refine SW_ret ?_ | refine SX_v (Val_len rfl) ?_ | refine SX_v (Val_fa rfl) ?_ | refine SX_v (Val_add rfl rfl (by omega) (by omega)) ?_ | refine SX_v (Val_sub rfl rfl (by omega) (by omega)) ?_ | refine SX_v (Val_mul rfl rfl (by omega) (by omega)) ?_ | refine SX_v (Val_quoN rfl rfl (by omega) (by omega) (by omega)) ?_ | refine SX_v (Val_remN rfl rfl (by omega) (by omega)) ?_ | refine SX_v (Val_min rfl rfl) ?_ | refine SX_v (Val_beq und_bool rfl rfl) ?_ | refine SX_v (Val_bne und_bool rfl rfl) ?_)
    · exfalso; omega
    refine SN_ret1 rfl (RV.tmp rfl) Imp.refl ⟨r0, rfl, rfl, ?_⟩
    have hs := h4.resolve_right (by have := count_lt h1; omega)
    exact reach_of hA h1 h2 h3 (fun i _ hi => hs i hi)
theorem sGarbage {m : Nat} (a : Sl ObjL) (now : Int) (w : World) (ha : Lod.rd m w a) (hr : RgA (a.l.map ObjL.pl)) : F Try.prog 48 [a.val, .int .i64 now] w (rB Sl.val (fun r : Sl Int => r.l = garbage (a.l.map ObjL.pl) now)) := by
  have sa : ∀ L, Src m w L a := fun L => Src.arg ha
  refine F_of Try.func48 rfl rfl ?_
  repeat' (first | refine SX_w (SWl_bs (vs := []) rfl rfl (fun _ h => nomatch h) rfl rfl (fun b => SWl_x ?_)) | refine SX_run rfl rfl ?_ | refine SX_nil ?_ | refine SN_W ?_ | refine SW_seq ?_ | refine SW_regionX ?_ | refine SX_guardT rfl ?_ | refine SX_guardF rfl rfl ?_ | refine SX_guardU rfl ?_ | refine SX_gsplitD rfl rfl (fun h => ?_) (fun h => ?_) | refine SX_gsplitN rfl rfl (fun h => ?_) (fun h => ?_) | refine SX_gsplit rfl rfl (fun h => ?_) (fun h => ?_) | refine SW_condT rfl ?_ | refine SW_condF rfl ?_ | refine SW_condD rfl (fun h => ?_) (fun h => ?_) | refine SW_condN rfl (fun h => ?_) (fun h => ?_) | refine SW_condB rfl (fun h => ?_) (fun h => ?_) | refine SW_cond rfl (fun h => ?_) (fun h => ?_) | refine SW_block ?_ | refine SW_skip ?_ | refine SW_exit ?_ | refine SN_bl0 ?_ | refine SN_blS rfl ?_ | refine SW_ret ?_ | refine SX_v (Val_len rfl) ?_ | refine SX_v (Val_fa rfl) ?_ | refine SX_v (Val_add rfl rfl (by omega) (by omega)) ?_ | refine SX_v (Val_sub rfl rfl (by omega) (by omega)) ?_ | refine SX_v (Val_mul rfl rfl (by omega) (by omega)) ?_ | refine SX_v (Val_quoN rfl rfl (by omega) (by omega) (by omega)) ?_ | refine SX_v (Val_remN rfl rfl (by omega) (by omega)) ?_ | refine SX_v (Val_min rfl rfl) ?_ | refine SX_v (Val_beq und_bool rfl rfl) ?_ | refine SX_v (Val_bne und_bool rfl rfl) ?_)
  (refine SWl_at 44 ?_; refine SWl_callB rfl (fun w hw => sReach a now w (Src.arg ha w hw) hr) (fun q hq => SWl_x ?_))
  repeat' (first | refine SX_run rfl rfl ?_ | refine SX_nil ?_ | refine SN_W ?_ | refine SW_seq ?_ | refine SW_regionX ?_ | refine SX_guardT rfl ?_ | refine SX_guardF rfl rfl ?_ | refine SX_guardU rfl ?_ | refine SX_gsplitD rfl rfl (fun h => ?_) (fun h => ?_) | refine SX_gsplitN rfl rfl (fun h => ?_) (fun h => ?_) | refine SX_gsplit rfl rfl (fun h => ?_) (fun h => ?_) | refine SW_condT rfl ?_ | refine SW_condF rfl ?_ | refine SW_condD rfl (fun h => ?_) (fun h => ?_) | refine SW_condN rfl (fun h => ?_) (fun h => ?_) | refine SW_condB rfl (fun h => ?_) (fun h => ?_) | refine SW_cond rfl (fun h => ?_) (fun h => ?_) | refine SW_block ?_ | refine SW_skip ?_ | refine SW_exit ?_ | refine SN_bl0 ?_ | refine SN_blS rfl ?_ | refine SW_ret ?_ | refine SX_v (Val_len rfl) ?_ | refine SX_v (Val_fa rfl) ?_ | refine SX_v (Val_add rfl rfl (by omega) (by omega)) ?_ | refine SX_v (Val_sub rfl rfl (by omega) (by omega)) ?_ | refine SX_v (Val_mul rfl rfl (by omega) (by omega)) ?_ | refine SX_v (Val_quoN rfl rfl (by omega) (by omega) (by omega)) ?_ | refine SX_v (Val_remN rfl rfl (by omega) (by omega)) ?_ | refine SX_v (Val_min rfl rfl) ?_ | refine SX_v (Val_beq und_bool rfl rfl) ?_ | refine SX_v (Val_bne und_bool rfl rfl) ?_)
  have hqn : q.n ≤ 10 := by
    rw [← q.hn, hq]
    by_cases hA : ArenaOk (a.l.map ObjL.pl)
    · rw [reach_len hA]; exact Nat.le_refl _
    · rw [reach_nil hA]; decide
  have hqa : q.n ≤ a.n := by
    by_cases hA : ArenaOk (a.l.map ObjL.pl)
    · have := arenaOk_n hA; omega
    · rw [← q.hn, hq, reach_nil hA]; exact Nat.zero_le _
  refine SW_loop (fun k σ L => ∃ (j : Nat) (r : Sl Int), k = q.n - j ∧ j ≤ q.n ∧ L = [Own r, Own q] ∧ r.l = garbN (a.l.map ObjL.pl) q.l j ∧ ∃ τ, σ = ups τ [(0, a.val), (5, r.val), (6, q.val), (7, .int .i64 j)]) q.n (Imp.swap.trans (Imp.ofBlkF [] rfl rfl (by decide))) ⟨0, Sl.emp b, rfl, Nat.zero_le _, rfl, rfl, ups_ex ⟨rfl, rfl, rfl, rfl, trivial⟩⟩ ?_
  rintro k σ L ⟨j, r, rfl, hj, rfl, hr', τ, rfl⟩
  have hrl : r.n ≤ j := by rw [← r.hn, hr']; exact garbN_len _ _ _
  by_cases hjl : j < q.n
  · have hja : j < a.n := by omega
    have hE : ((oat (a.l.map ObjL.pl) j).kind ≠ 0 ∧ ¬ tr q.l j) ↔ ((a.nth j hja).kind ≠ 0 ∧ q.nth j hjl = false) := by
      rw [oat_nth a j hja, tr_nth hjl]; simp [ObjL.pl]
    repeat' (first | refine SX_v (Val_ix (s := q) (by first | exact Src.own 0 rfl | exact Src.own 1 rfl | exact Src.own 2 rfl | exact Src.own 3 rfl | exact Src.own 4 rfl | exact Src.own 5 rfl | exact Src.own 6 rfl | exact Src.own 7 rfl | exact Src.own 8 rfl | exact Src.own 9 rfl) rfl rfl j rfl hjl) ?_ | refine SX_v (Val_ldE (s := q) (by first | exact Src.own 0 rfl | exact Src.own 1 rfl | exact Src.own 2 rfl | exact Src.own 3 rfl | exact Src.own 4 rfl | exact Src.own 5 rfl | exact Src.own 6 rfl | exact Src.own 7 rfl | exact Src.own 8 rfl | exact Src.own 9 rfl) rfl rfl hjl rfl) ?_ | refine SX_v (Val_ix (sa _) rfl rfl j rfl hja) ?_ | refine SX_v (Val_ldS (sa _) rfl rfl rfl hja rfl) ?_ | refine SX_w (SWl_bs (vs := [.int .i64 j]) rfl rfl (by simp [Value.cells]) rfl rfl (fun b => SWl_x ?_)) | refine SX_w (SWl_appB 1 (s := r) rfl rfl 0 rfl [(j : Int)] rfl rfl (by unfold lim; simp; omega) (by rfl) (by rfl) (by rfl) (by rfl) (by rfl) (fun r' hr2 hn' => SWl_x ?_)) | refine SX_run rfl rfl ?_ | refine SX_nil ?_ | refine SN_W ?_ | refine SW_seq ?_ | refine SW_regionX ?_ | refine SX_guardT rfl ?_ | refine SX_guardF rfl rfl ?_ | refine SX_guardU rfl ?_ | refine SX_gsplitD rfl rfl (fun h => ?_) (fun h => ?_) | refine SX_gsplitN rfl rfl (fun h => ?_) (fun h => ?_) | refine SX_gsplit rfl rfl (fun h => ?_) (fun h => ?_) | refine SW_condT rfl ?_ | refine SW_condF rfl ?_ | refine SW_condD rfl (fun h => ?_) (fun h => ?_) | refine SW_condN rfl (fun h => ?_) (fun h => ?_) | refine SW_condB rfl (fun h => ?_) (fun h => ?_) | refine SW_cond rfl (fun h => ?_) (fun h => ?_) | refine SW_block ?_ | refine SW_skip ?_ | refine SW_exit ?_ | refine SN_bl0 ?_ | refine SN_blS rfl ?_ | refine SW_ret ?_ | refine SX_v (Val_len rfl) ?_ | refine SX_v (Val_fa rfl) ?_ | refine SX_v (Val_add rfl rfl (by omega) (by omega)) ?_ | refine SX_v (Val_sub rfl rfl (by omega) (by omega)) ?_ | refine SX_v (Val_mul rfl rfl (by omega) (by omega)) ?_ | refine SX_v (Val_quoN rfl rfl (by omega) (by omega) (by omega)) ?_ | refine SX_v (Val_remN rfl rfl (by omega) (by omega)) ?_ | refine SX_v (Val_min rfl rfl) ?_ | refine SX_v (Val_beq und_bool rfl rfl) ?_ | refine SX_v (Val_bne und_bool rfl rfl) ?_)
    all_goals first
      | (exfalso; omega)
      | (refine SN_back (q.n - (j + 1)) (by omega) (Imp.drop1 Imp.refl) ⟨j + 1, r', rfl, hjl, rfl, ?_, ups_ex ⟨rfl, rfl, rfl, rfl, trivial⟩⟩
         rename_i hk
         rw [hr2, hr', garbN_step, if_pos (hE.2 ⟨hk, by simpa using h⟩)])
      | (refine SN_back (q.n - (j + 1)) (by omega) Imp.refl ⟨j + 1, r, rfl, hjl, rfl, ?_, ups_ex ⟨rfl, rfl, rfl, rfl, trivial⟩⟩
         rw [hr', garbN_step, if_neg, List.append_nil]
         rw [hE]
         rintro ⟨e1, e2⟩
         first
           | exact e1 h
           | (rw [e2] at h; cases h))
  · repeat' (first | refine SX_run rfl rfl ?_ | refine SX_nil ?_ | refine SN_W ?_ | refine SW_seq ?_ | refine SW_regionX ?_ | refine SX_guardT rfl ?_ | refine SX_guardF rfl rfl ?_ | refine SX_guardU rfl ?_ | refine SX_gsplitD rfl rfl (fun h => ?_) (fun h => ?_) | refine SX_gsplitN rfl rfl (fun h => ?_) (fun h => ?_) | refine SX_gsplit rfl rfl (fun h => ?_) (fun h => ?_) | refine SW_condT rfl ?_ | refine SW_condF rfl ?_ | refine SW_condD rfl (fun h => ?_) (fun h => ?_) | refine SW_condN rfl (fun h => ?_) (fun h => ?_) | refine SW_condB rfl (fun h => ?_) (fun h => ?_) | refine SW_cond rfl (fun h => ?_) (fun h => ?_) | refine SW_block ?_ | refine SW_skip ?_ | refine SW_exit ?_ | refine SN_bl0 ?_ | refine SN_blS rfl ?_ | refine SW_ret ?_ | refine SX_v (Val_len rfl) ?_ | refine SX_v (Val_fa rfl) ?_ | refine SX_v (Val_add rfl rfl (by omega) (by omega)) ?_ | refine SX_v (Val_sub rfl rfl (by omega) (by omega)) ?_ | refine SX_v (Val_mul rfl rfl (by omega) (by omega)) ?_ | refine SX_v (Val_quoN rfl rfl (by omega) (by omega) (by omega)) ?_ | refine SX_v (Val_remN rfl rfl (by omega) (by omega)) ?_ | refine SX_v (Val_min rfl rfl) ?_ | refine SX_v (Val_beq und_bool rfl rfl) ?_ | refine SX_v (Val_bne und_bool rfl rfl) ?_)
    · exfalso; omega
    refine SN_ret1 rfl (RV.tmp rfl) (Imp.one 0 rfl) ⟨r, rfl, rfl, ?_⟩
    show r.l = _
    rw [hr', show j = q.l.length by have := q.hn; omega, hq]
    rfl
theorem sGoodSlot {m : Nat} (a : Sl ObjL) (now part hh : Int) (w : World) (ha : Lod.rd m w a) (hr : RgA (a.l.map ObjL.pl)) : FI 42 [a.val, .int .i64 now, .int .i64 part, .int .i64 hh] w (goodSlot (a.l.map ObjL.pl) now part hh) := by
  have sa : ∀ L, Src m w L a := fun L => Src.arg ha
  refine F_of Try.func42 rfl rfl ?_
  repeat' (first | (refine SX_at 20 ?_; refine SX_callA rfl (fun w hw => sArenaOk a w (Src.arg ha w hw) hr) ?_) | (refine SX_at 63 ?_; refine SX_callA rfl (fun w _ => l8Handle _ w) ?_) | (refine SX_at 85 ?_; refine SX_callA rfl (fun w _ => HandlePart_s _ w) ?_) | (refine SX_at 86 ?_; refine SX_callA rfl (fun w _ => HandleSlot_s _ w) ?_) | refine SX_run rfl rfl ?_ | refine SX_nil ?_ | refine SN_W ?_ | refine SW_seq ?_ | refine SW_regionX ?_ | refine SX_guardT rfl ?_ | refine SX_guardF rfl rfl ?_ | refine SX_guardU rfl ?_ | refine SX_gsplitD rfl rfl (fun h => ?_) (fun h => ?_) | refine SX_gsplitN rfl rfl (fun h => ?_) (fun h => ?_) | refine SX_gsplit rfl rfl (fun h => ?_) (fun h => ?_) | refine SW_condT rfl ?_ | refine SW_condF rfl ?_ | refine SW_condD rfl (fun h => ?_) (fun h => ?_) | refine SW_condN rfl (fun h => ?_) (fun h => ?_) | refine SW_condB rfl (fun h => ?_) (fun h => ?_) | refine SW_cond rfl (fun h => ?_) (fun h => ?_) | refine SW_block ?_ | refine SW_skip ?_ | refine SW_exit ?_ | refine SN_bl0 ?_ | refine SN_blS rfl ?_ | refine SW_ret ?_ | refine SX_v (Val_len rfl) ?_ | refine SX_v (Val_fa rfl) ?_ | refine SX_v (Val_add rfl rfl (by omega) (by omega)) ?_ | refine SX_v (Val_sub rfl rfl (by omega) (by omega)) ?_ | refine SX_v (Val_mul rfl rfl (by omega) (by omega)) ?_ | refine SX_v (Val_quoN rfl rfl (by omega) (by omega) (by omega)) ?_ | refine SX_v (Val_remN rfl rfl (by omega) (by omega)) ?_ | refine SX_v (Val_min rfl rfl) ?_ | refine SX_v (Val_beq und_bool rfl rfl) ?_ | refine SX_v (Val_bne und_bool rfl rfl) ?_)
  · refine SN_retI rfl rfl ⟨?_, rfl⟩
    congr 1
    exact (if_neg fun e => h e.1).symm
  · refine SN_retI rfl rfl ⟨?_, rfl⟩
    congr 1
    exact (if_neg fun e => h e.2.1).symm
  · refine SN_retI rfl rfl ⟨?_, rfl⟩
    congr 1
    exact (if_neg fun e => h e.2.2.1).symm
  rename_i hA hh1
  have hn := arenaOk_n hA
  have hs : 0 ≤ hSlot hh ∧ hSlot hh ≤ 9 := by unfold hSlot; rw [if_pos hh1]; omega
  have hi : (hSlot hh).toNat < a.n := by omega
  have hii : hSlot hh = ((hSlot hh).toNat : Int) := by omega
  have ho := oat_nth a _ hi
  have hk : (oat (a.l.map ObjL.pl) (hSlot hh).toNat).kind = (a.nth _ hi).kind := by rw [ho]; rfl
  have hg : (oat (a.l.map ObjL.pl) (hSlot hh).toNat).gen = (a.nth _ hi).gen := by rw [ho]; rfl
  refine SW_regionA mixed ?_
  refine SA_pv 0 (by kernel_rfl) rfl (fun _ => Val_pv rfl) rfl ?_; refine SA_pv 1 (by kernel_rfl) rfl (fun _ => Val_pv rfl) rfl ?_
  refine SA_ld 2 (by kernel_rfl) rfl (Val_ix (sa _) rfl rfl _ hii hi) rfl ?_
  refine SA_pv 3 (by kernel_rfl) rfl (fun _ => Val_fa rfl) rfl ?_
  refine SA_ld 4 (by kernel_rfl) rfl (Val_ldS (sa _) rfl rfl rfl hi rfl) rfl ?_
  refine SA_pv 5 (by kernel_rfl) rfl (fun _ => Val_pv rfl) rfl ?_; refine SA_pv 6 (by kernel_rfl) rfl (fun _ => Val_pv rfl) rfl ?_
  refine SA_splitD 32 rfl (fun hk0 => ?_) (fun hk0 => ?_)
  · (first | refine SA_off 7 (by kernel_rfl) rfl rfl rfl ?_ | refine SA_offU 7 (by kernel_rfl) rfl rfl ?_); (first | refine SA_off 8 (by kernel_rfl) rfl rfl rfl ?_ | refine SA_offU 8 (by kernel_rfl) rfl rfl ?_); (first | refine SA_off 9 (by kernel_rfl) rfl rfl rfl ?_ | refine SA_offU 9 (by kernel_rfl) rfl rfl ?_); (first | refine SA_off 10 (by kernel_rfl) rfl rfl rfl ?_ | refine SA_offU 10 (by kernel_rfl) rfl rfl ?_); (first | refine SA_off 11 (by kernel_rfl) rfl rfl rfl ?_ | refine SA_offU 11 (by kernel_rfl) rfl rfl ?_); (first | refine SA_off 12 (by kernel_rfl) rfl rfl rfl ?_ | refine SA_offU 12 (by kernel_rfl) rfl rfl ?_); (first | refine SA_off 13 (by kernel_rfl) rfl rfl rfl ?_ | refine SA_offU 13 (by kernel_rfl) rfl rfl ?_); (first | refine SA_off 14 (by kernel_rfl) rfl rfl rfl ?_ | refine SA_offU 14 (by kernel_rfl) rfl rfl ?_)
    refine SA_pv 15 (by kernel_rfl) rfl (fun _ => Val_pv rfl) rfl ?_; refine SA_pv 16 (by kernel_rfl) rfl (fun _ => Val_pv rfl) rfl ?_
    (first | refine SA_off 17 (by kernel_rfl) rfl rfl rfl ?_ | refine SA_offU 17 (by kernel_rfl) rfl rfl ?_); (first | refine SA_off 18 (by kernel_rfl) rfl rfl rfl ?_ | refine SA_offU 18 (by kernel_rfl) rfl rfl ?_); (first | refine SA_off 19 (by kernel_rfl) rfl rfl rfl ?_ | refine SA_offU 19 (by kernel_rfl) rfl rfl ?_); (first | refine SA_off 20 (by kernel_rfl) rfl rfl rfl ?_ | refine SA_offU 20 (by kernel_rfl) rfl rfl ?_); (first | refine SA_off 21 (by kernel_rfl) rfl rfl rfl ?_ | refine SA_offU 21 (by kernel_rfl) rfl rfl ?_); (first | refine SA_off 22 (by kernel_rfl) rfl rfl rfl ?_ | refine SA_offU 22 (by kernel_rfl) rfl rfl ?_); (first | refine SA_off 23 (by kernel_rfl) rfl rfl rfl ?_ | refine SA_offU 23 (by kernel_rfl) rfl rfl ?_)
    refine SA_pv 24 (by kernel_rfl) rfl (fun _ => Val_pv rfl) rfl ?_
    refine SA_done (by kernel_rfl) ?_
    repeat' (first | refine SX_run rfl rfl ?_ | refine SX_nil ?_ | refine SN_W ?_ | refine SW_seq ?_ | refine SW_regionX ?_ | refine SX_guardT rfl ?_ | refine SX_guardF rfl rfl ?_ | refine SX_guardU rfl ?_ | refine SX_gsplitD rfl rfl (fun h => ?_) (fun h => ?_) | refine SX_gsplitN rfl rfl (fun h => ?_) (fun h => ?_) | refine SX_gsplit rfl rfl (fun h => ?_) (fun h => ?_) | refine SW_condT rfl ?_ | refine SW_condF rfl ?_ | refine SW_condD rfl (fun h => ?_) (fun h => ?_) | refine SW_condN rfl (fun h => ?_) (fun h => ?_) | refine SW_condB rfl (fun h => ?_) (fun h => ?_) | refine SW_cond rfl (fun h => ?_) (fun h => ?_) | refine SW_block ?_ | refine SW_skip ?_ | refine SW_exit ?_ | refine SN_bl0 ?_ | refine SN_blS rfl ?_ | refine SW_ret ?_ | refine SX_v (Val_len rfl) ?_ | refine SX_v (Val_fa rfl) ?_ | refine SX_v (Val_add rfl rfl (by omega) (by omega)) ?_ | refine SX_v (Val_sub rfl rfl (by omega) (by omega)) ?_ | refine SX_v (Val_mul rfl rfl (by omega) (by omega)) ?_ | refine SX_v (Val_quoN rfl rfl (by omega) (by omega) (by omega)) ?_ | refine SX_v (Val_remN rfl rfl (by omega) (by omega)) ?_ | refine SX_v (Val_min rfl rfl) ?_ | refine SX_v (Val_beq und_bool rfl rfl) ?_ | refine SX_v (Val_bne und_bool rfl rfl) ?_)
    refine SN_retI rfl rfl ⟨?_, rfl⟩
    congr 1
    exact (if_neg fun e => e.2.2.2.1 (hk.trans hk0)).symm
  · refine SA_pvg 7 (by kernel_rfl) rfl rfl (fun _ => Val_pv rfl) ?_; refine SA_pvg 8 (by kernel_rfl) rfl rfl (fun _ => Val_pv rfl) ?_
    refine SA_ldg 9 (by kernel_rfl) rfl rfl (Val_ix (sa _) rfl rfl _ hii hi) rfl ?_
    refine SA_pvg 10 (by kernel_rfl) rfl rfl (fun _ => Val_fa rfl) ?_
    refine SA_ldg 11 (by kernel_rfl) rfl rfl (Val_ldS (sa _) rfl rfl rfl hi rfl) rfl ?_
    refine SA_pvg 12 (by kernel_rfl) rfl rfl (fun _ => Val_pv rfl) ?_
    refine SA_only 13 (by kernel_rfl) rfl ?_
    refine SX_guardT rfl ?_
    (refine SX_at 87 ?_; refine SX_callA rfl (fun w _ => HandleGen_s _ w) ?_)
    refine SX_nil ?_
    refine SN_AN [] Imp.refl ?_
    refine SA_pvg 14 (by kernel_rfl) rfl rfl (fun _ => Val_pv rfl) ?_
    refine SA_pv 15 (by kernel_rfl) rfl (fun _ => Val_pv rfl) rfl ?_; refine SA_pv 16 (by kernel_rfl) rfl (fun _ => Val_pv rfl) rfl ?_
    refine SA_splitN 42 rfl (fun hg0 => ?_) (fun hg0 => ?_)
    · (first | refine SA_off 17 (by kernel_rfl) rfl rfl rfl ?_ | refine SA_offU 17 (by kernel_rfl) rfl rfl ?_); (first | refine SA_off 18 (by kernel_rfl) rfl rfl rfl ?_ | refine SA_offU 18 (by kernel_rfl) rfl rfl ?_); (first | refine SA_off 19 (by kernel_rfl) rfl rfl rfl ?_ | refine SA_offU 19 (by kernel_rfl) rfl rfl ?_); (first | refine SA_off 20 (by kernel_rfl) rfl rfl rfl ?_ | refine SA_offU 20 (by kernel_rfl) rfl rfl ?_); (first | refine SA_off 21 (by kernel_rfl) rfl rfl rfl ?_ | refine SA_offU 21 (by kernel_rfl) rfl rfl ?_); (first | refine SA_off 22 (by kernel_rfl) rfl rfl rfl ?_ | refine SA_offU 22 (by kernel_rfl) rfl rfl ?_); (first | refine SA_off 23 (by kernel_rfl) rfl rfl rfl ?_ | refine SA_offU 23 (by kernel_rfl) rfl rfl ?_)
      refine SA_pv 24 (by kernel_rfl) rfl (fun _ => Val_pv rfl) rfl ?_
      refine SA_done (by kernel_rfl) ?_
      repeat' (first | refine SX_run rfl rfl ?_ | refine SX_nil ?_ | refine SN_W ?_ | refine SW_seq ?_ | refine SW_regionX ?_ | refine SX_guardT rfl ?_ | refine SX_guardF rfl rfl ?_ | refine SX_guardU rfl ?_ | refine SX_gsplitD rfl rfl (fun h => ?_) (fun h => ?_) | refine SX_gsplitN rfl rfl (fun h => ?_) (fun h => ?_) | refine SX_gsplit rfl rfl (fun h => ?_) (fun h => ?_) | refine SW_condT rfl ?_ | refine SW_condF rfl ?_ | refine SW_condD rfl (fun h => ?_) (fun h => ?_) | refine SW_condN rfl (fun h => ?_) (fun h => ?_) | refine SW_condB rfl (fun h => ?_) (fun h => ?_) | refine SW_cond rfl (fun h => ?_) (fun h => ?_) | refine SW_block ?_ | refine SW_skip ?_ | refine SW_exit ?_ | refine SN_bl0 ?_ | refine SN_blS rfl ?_ | refine SW_ret ?_ | refine SX_v (Val_len rfl) ?_ | refine SX_v (Val_fa rfl) ?_ | refine SX_v (Val_add rfl rfl (by omega) (by omega)) ?_ | refine SX_v (Val_sub rfl rfl (by omega) (by omega)) ?_ | refine SX_v (Val_mul rfl rfl (by omega) (by omega)) ?_ | refine SX_v (Val_quoN rfl rfl (by omega) (by omega) (by omega)) ?_ | refine SX_v (Val_remN rfl rfl (by omega) (by omega)) ?_ | refine SX_v (Val_min rfl rfl) ?_ | refine SX_v (Val_beq und_bool rfl rfl) ?_ | refine SX_v (Val_bne und_bool rfl rfl) ?_)
      refine SN_retI rfl rfl ⟨?_, rfl⟩
      congr 1
      exact (if_neg fun e => hg0 (hg.symm.trans e.2.2.2.2.1)).symm
    · refine SA_pvg 17 (by kernel_rfl) rfl rfl (fun _ => Val_pv rfl) ?_; refine SA_pvg 18 (by kernel_rfl) rfl rfl (fun _ => Val_pv rfl) ?_; refine SA_pvg 20 (by kernel_rfl) rfl rfl (fun _ => Val_pv rfl) ?_
      refine SA_only 19 (by kernel_rfl) rfl ?_
      refine SX_guardT rfl ?_
      (refine SWl_at 44 ?_; refine SWl_callB rfl (fun w hw => sReach a now w (Src.arg ha w hw) hr) (fun q hq => SWl_x ?_))
      refine SX_nil ?_
      have hqn : q.n = 10 := by rw [← q.hn, hq, reach_len hA]
      have hiq : (hSlot hh).toNat < q.n := by omega
      have hR : Rch (a.l.map ObjL.pl) now (hSlot hh).toNat ↔ q.nth _ hiq = true := by rw [← reach_tr hA, ← hq]; exact tr_nth hiq
      refine SN_AN [Own q] Imp.refl ?_
      refine SA_only 21 (by kernel_rfl) rfl ?_
      refine SX_guardT rfl ?_
      refine SX_v (Val_ix (s := q) (by first | exact Src.own 0 rfl | exact Src.own 1 rfl | exact Src.own 2 rfl | exact Src.own 3 rfl | exact Src.own 4 rfl | exact Src.own 5 rfl | exact Src.own 6 rfl | exact Src.own 7 rfl | exact Src.own 8 rfl | exact Src.own 9 rfl) rfl rfl _ hii hiq) ?_
      refine SX_nil ?_
      refine SN_AN [Own q] Imp.refl ?_
      refine SA_only 22 (by kernel_rfl) rfl ?_
      refine SX_guardT rfl ?_
      refine SX_v (Val_ldE (s := q) (by first | exact Src.own 0 rfl | exact Src.own 1 rfl | exact Src.own 2 rfl | exact Src.own 3 rfl | exact Src.own 4 rfl | exact Src.own 5 rfl | exact Src.own 6 rfl | exact Src.own 7 rfl | exact Src.own 8 rfl | exact Src.own 9 rfl) rfl rfl hiq rfl) ?_
      refine SX_nil ?_
      refine SN_AN [Own q] Imp.refl ?_
      refine SA_pvg 23 (by kernel_rfl) rfl rfl (fun _ => Val_pv rfl) ?_
      refine SA_pv 24 (by kernel_rfl) rfl (fun _ => Val_pv rfl) rfl ?_
      refine SA_done (by kernel_rfl) ?_
      repeat' (first | refine SX_run rfl rfl ?_ | refine SX_nil ?_ | refine SN_W ?_ | refine SW_seq ?_ | refine SW_regionX ?_ | refine SX_guardT rfl ?_ | refine SX_guardF rfl rfl ?_ | refine SX_guardU rfl ?_ | refine SX_gsplitD rfl rfl (fun h => ?_) (fun h => ?_) | refine SX_gsplitN rfl rfl (fun h => ?_) (fun h => ?_) | refine SX_gsplit rfl rfl (fun h => ?_) (fun h => ?_) | refine SW_condT rfl ?_ | refine SW_condF rfl ?_ | refine SW_condD rfl (fun h => ?_) (fun h => ?_) | refine SW_condN rfl (fun h => ?_) (fun h => ?_) | refine SW_condB rfl (fun h => ?_) (fun h => ?_) | refine SW_cond rfl (fun h => ?_) (fun h => ?_) | refine SW_block ?_ | refine SW_skip ?_ | refine SW_exit ?_ | refine SN_bl0 ?_ | refine SN_blS rfl ?_ | refine SW_ret ?_ | refine SX_v (Val_len rfl) ?_ | refine SX_v (Val_fa rfl) ?_ | refine SX_v (Val_add rfl rfl (by omega) (by omega)) ?_ | refine SX_v (Val_sub rfl rfl (by omega) (by omega)) ?_ | refine SX_v (Val_mul rfl rfl (by omega) (by omega)) ?_ | refine SX_v (Val_quoN rfl rfl (by omega) (by omega) (by omega)) ?_ | refine SX_v (Val_remN rfl rfl (by omega) (by omega)) ?_ | refine SX_v (Val_min rfl rfl) ?_ | refine SX_v (Val_beq und_bool rfl rfl) ?_ | refine SX_v (Val_bne und_bool rfl rfl) ?_)
      all_goals (refine SN_retI rfl rfl ⟨?_, rfl⟩; congr 1)
      · exact (if_neg fun e => by rw [hR.1 e.2.2.2.2.2] at h; cases h).symm
      · exact (if_pos ⟨hA, hh1, ‹_›, fun e => hk0 (hk.symm.trans e), hg.trans hg0, hR.2 (by simpa using h)⟩).symm
end Go.Proofs.Ytandadfmmohhhaa.E
