/-
  The timers that are due.
-/
import Derived.Test.YtldgapfdjpefkaaHx
namespace Go.Proofs.Ytldgapfdjpefkaa.E
open Go Go.RowKit
set_option maxRecDepth 100000
set_option maxHeartbeats 4000000

def dueBy (now : Int) (l : List Timer) : List Int := (l.filter fun t => decide (t.due ≤ now)).map Timer.id
theorem dueBy_step {now : Int} {s : Sl Timer} {i : Nat} (hi : i < s.n) : dueBy now (s.l.take (i + 1)) = dueBy now (s.l.take i) ++ (if (s.nth i hi).due ≤ now then [(s.nth i hi).id] else []) := by
  rw [List.take_succ_eq_append_getElem (by rw [s.hn]; exact hi), dueBy, List.filter_append, List.map_append]
  congr 1
  show List.map _ (List.filter _ [s.nth i hi]) = _
  by_cases h : (s.nth i hi).due ≤ now <;> simp [h]
theorem dueBy_len (now : Int) (l : List Timer) : (dueBy now l).length ≤ l.length := by
  rw [dueBy, List.length_map]; exact List.length_filter_le _ _
def Sl.emp (b : Nat) : Sl Int := ⟨some ⟨b, 0, none⟩, 0, 0, [], rfl⟩

theorem sDueBy {m : Nat} (a : Sl Timer) (now : Int) (w : World) (ha : Lod.rd m w a) (hl : a.n ≤ lim) : F Try.prog 26 [a.val, .int .i64 now] w (rB Sl.val (fun r : Sl Int => r.l = dueBy now a.l)) := by
  have hl' := hl
  unfold lim at hl'
  have sa : ∀ L, Src m w L a := fun L => Src.arg ha
  refine F_of Try.func26 rfl rfl ?_
  repeat' (first | refine SX_w (SWl_bs (vs := []) rfl rfl (fun _ h => nomatch h) rfl rfl (fun b => SWl_x ?_)) | refine SX_run rfl rfl ?_ | refine SX_nil ?_ | refine SN_W ?_ | refine SW_seq ?_ | refine SW_regionX ?_ | refine SX_guardT rfl ?_ | refine SX_guardF rfl rfl ?_ | refine SX_guardU rfl ?_ | refine SX_gsplitD rfl rfl (fun h => ?_) (fun h => ?_) | refine SX_gsplitN rfl rfl (fun h => ?_) (fun h => ?_) | refine SX_gsplit rfl rfl (fun h => ?_) (fun h => ?_) | refine SW_condT rfl ?_ | refine SW_condF rfl ?_ | refine SW_condD rfl (fun h => ?_) (fun h => ?_) | refine SW_condN rfl (fun h => ?_) (fun h => ?_) | refine SW_condB rfl (fun h => ?_) (fun h => ?_) | refine SW_cond rfl (fun h => ?_) (fun h => ?_) | refine SW_block ?_ | refine SW_skip ?_ | refine SW_exit ?_ | refine SN_bl0 ?_ | refine SN_blS rfl ?_ | refine SW_ret ?_ | refine SX_v (Val_len rfl) ?_ | refine SX_v (Val_fa rfl) ?_ | refine SX_v (Val_add rfl rfl (by omega) (by omega)) ?_ | refine SX_v (Val_sub rfl rfl (by omega) (by omega)) ?_ | refine SX_v (Val_mul rfl rfl (by omega) (by omega)) ?_ | refine SX_v (Val_quoN rfl rfl (by omega) (by omega) (by omega)) ?_ | refine SX_v (Val_remN rfl rfl (by omega) (by omega)) ?_ | refine SX_v (Val_min rfl rfl) ?_ | refine SX_v (Val_beq und_bool rfl rfl) ?_ | refine SX_v (Val_bne und_bool rfl rfl) ?_)
  refine SW_loop (fun k σ L => ∃ (i : Nat) (r : Sl Int), k = a.n - i ∧ i ≤ a.n ∧ L = [Own r] ∧ r.l = dueBy now (a.l.take i) ∧ ∃ τ, σ = ups τ [(6, .int .i64 i), (0, a.val), (1, .int .i64 now), (5, r.val)]) a.n (Imp.ofBlkF [] rfl rfl (by decide)) ⟨0, Sl.emp b, rfl, Nat.zero_le _, rfl, rfl, ups_ex ⟨rfl, rfl, rfl, rfl, trivial⟩⟩ ?_
  rintro k σ L ⟨i, r, rfl, hi, rfl, hr, τ, rfl⟩
  have hrl : r.n ≤ i := by rw [← r.hn, hr]; exact Nat.le_trans (dueBy_len _ _) (by rw [List.length_take]; exact Nat.min_le_left _ _)
  repeat' (first | refine SX_v (Val_ix (sa _) rfl rfl i rfl (by omega)) ?_ | refine SX_v (Val_ldS (sa _) rfl rfl rfl (by omega) rfl) ?_ | refine SX_w (SWl_bs (vs := [.int .i64 (a.nth i (by omega)).id]) rfl rfl (by simp [Value.cells]) rfl rfl (fun b => SWl_x ?_)) | refine SX_w (SWl_appB 1 (s := r) rfl rfl 0 rfl [(a.nth i (by omega)).id] rfl rfl (by unfold lim; simp; omega) (by rfl) (by rfl) (by rfl) (by rfl) (by rfl) (fun r' hr' hn' => SWl_x ?_)) | refine SX_run rfl rfl ?_ | refine SX_nil ?_ | refine SN_W ?_ | refine SW_seq ?_ | refine SW_regionX ?_ | refine SX_guardT rfl ?_ | refine SX_guardF rfl rfl ?_ | refine SX_guardU rfl ?_ | refine SX_gsplitD rfl rfl (fun h => ?_) (fun h => ?_) | refine SX_gsplitN rfl rfl (fun h => ?_) (fun h => ?_) | refine SX_gsplit rfl rfl (fun h => ?_) (fun h => ?_) | refine SW_condT rfl ?_ | refine SW_condF rfl ?_ | refine SW_condD rfl (fun h => ?_) (fun h => ?_) | refine SW_condN rfl (fun h => ?_) (fun h => ?_) | refine SW_condB rfl (fun h => ?_) (fun h => ?_) | refine SW_cond rfl (fun h => ?_) (fun h => ?_) | refine SW_block ?_ | refine SW_skip ?_ | refine SW_exit ?_ | refine SN_bl0 ?_ | refine SN_blS rfl ?_ | refine SW_ret ?_ | refine SX_v (Val_len rfl) ?_ | refine SX_v (Val_fa rfl) ?_ | refine SX_v (Val_add rfl rfl (by omega) (by omega)) ?_ | refine SX_v (Val_sub rfl rfl (by omega) (by omega)) ?_ | refine SX_v (Val_mul rfl rfl (by omega) (by omega)) ?_ | refine SX_v (Val_quoN rfl rfl (by omega) (by omega) (by omega)) ?_ | refine SX_v (Val_remN rfl rfl (by omega) (by omega)) ?_ | refine SX_v (Val_min rfl rfl) ?_ | refine SX_v (Val_beq und_bool rfl rfl) ?_ | refine SX_v (Val_bne und_bool rfl rfl) ?_)
  · refine SN_back (a.n - (i + 1)) (by omega) (Imp.one 0 rfl) ⟨i + 1, r', rfl, by omega, rfl, by rw [hr', hr, dueBy_step (by omega), if_pos h], ups_ex ⟨rfl, rfl, rfl, rfl, trivial⟩⟩
  · refine SN_back (a.n - (i + 1)) (by omega) Imp.refl ⟨i + 1, r, rfl, by omega, rfl, by rw [hr, dueBy_step (by omega), if_neg h, List.append_nil], ups_ex ⟨rfl, rfl, rfl, rfl, trivial⟩⟩
  · refine SN_ret1 rfl (RV.tmp rfl) Imp.refl ⟨r, rfl, rfl, ?_⟩
    show r.l = _
    rw [hr, List.take_of_length_le (by rw [a.hn]; omega)]
def tnums (k n : Nat) : List Timer := (List.range n).map fun i : Nat => ⟨(k : Int) + 2 * i, (k : Int) + 2 * i + 1⟩
theorem tnums_step {k i : Nat} {l : List Timer} (h : l.take i = tnums k i) (hi : i < l.length) {x : Timer} (e1 : x.id = (k : Int) + 2 * i) (e2 : x.due = (k : Int) + 2 * i + 1) : (l.set i x).take (i + 1) = tnums k (i + 1) := by
  rw [tnums, List.range_succ, List.map_append, List.take_succ_eq_append_getElem (by rw [List.length_set]; omega), List.take_set_of_le (Nat.le_refl _), h]
  obtain ⟨a, b⟩ := x
  simp only at e1 e2
  subst e1 e2
  simp [tnums]
theorem upd_nth {α : Type} (s : Sl α) (i : Nat) (x : α) (h : i < (s.upd i x).n) : (s.upd i x).nth i h = x := List.getElem_set_self _
theorem markTimerS (s : Sl Timer) (k : Nat) (R : List Atom) (w0 : World) (hk : k + 2 * s.n ≤ lim) (w : World) (hw : St w0 w (Own s :: R)) :
    C Try.prog 48 #[s.val, .int .i64 k] w fun v w' => ∃ M, (v = .int .i64 ((k : Int) + 2 * s.n) ∧ ∃ s' : Sl Timer, s'.val = s.val ∧ s'.n = s.n ∧ s'.l = tnums k s.n ∧ M = Own s' :: R) ∧ St w0 w' M := by
  have hk' := hk
  unfold lim at hk'
  refine FM_of Try.func48 rfl rfl ?_ w hw
  repeat' (first | refine SX_run rfl rfl ?_ | refine SX_nil ?_ | refine SN_W ?_ | refine SW_seq ?_ | refine SW_regionX ?_ | refine SX_guardT rfl ?_ | refine SX_guardF rfl rfl ?_ | refine SX_guardU rfl ?_ | refine SX_gsplitD rfl rfl (fun h => ?_) (fun h => ?_) | refine SX_gsplitN rfl rfl (fun h => ?_) (fun h => ?_) | refine SX_gsplit rfl rfl (fun h => ?_) (fun h => ?_) | refine SW_condT rfl ?_ | refine SW_condF rfl ?_ | refine SW_condD rfl (fun h => ?_) (fun h => ?_) | refine SW_condN rfl (fun h => ?_) (fun h => ?_) | refine SW_condB rfl (fun h => ?_) (fun h => ?_) | refine SW_cond rfl (fun h => ?_) (fun h => ?_) | refine SW_block ?_ | refine SW_skip ?_ | refine SW_exit ?_ | refine SN_bl0 ?_ | refine SN_blS rfl ?_ | refine SW_ret ?_ | refine SX_v (Val_len rfl) ?_ | refine SX_v (Val_fa rfl) ?_ | refine SX_v (Val_add rfl rfl (by omega) (by omega)) ?_ | refine SX_v (Val_sub rfl rfl (by omega) (by omega)) ?_ | refine SX_v (Val_mul rfl rfl (by omega) (by omega)) ?_ | refine SX_v (Val_quoN rfl rfl (by omega) (by omega) (by omega)) ?_ | refine SX_v (Val_remN rfl rfl (by omega) (by omega)) ?_ | refine SX_v (Val_min rfl rfl) ?_ | refine SX_v (Val_beq und_bool rfl rfl) ?_ | refine SX_v (Val_bne und_bool rfl rfl) ?_)
  refine SW_loop (fun m σ M => ∃ (i : Nat) (s' : Sl Timer), m = s.n - i ∧ i ≤ s.n ∧ s'.val = s.val ∧ s'.n = s.n ∧ M = Own s' :: R ∧ s'.l.take i = tnums k i ∧ ∃ τ, σ = ups τ [(5, .int .i64 i), (0, s'.val), (1, .int .i64 ((k : Int) + 2 * i))]) s.n Imp.refl ⟨0, s, rfl, Nat.zero_le _, rfl, rfl, rfl, List.take_zero, ups_ex ⟨rfl, rfl, ?_, trivial⟩⟩ ?_
  · show _ = Value.int .i64 ((k : Int) + 2 * (0 : Nat))
    simp; rfl
  rintro m σ M ⟨i, s', rfl, hi, hv, hsn, rfl, hpre, τ, rfl⟩
  repeat' (first | refine SX_v (Val_ix (Src.own 0 rfl : Src lim w0 _ s') rfl rfl i rfl (by omega)) ?_ | refine SX_w (SWl_stS 0 (s := s') rfl (i := i) (j := 0) rfl rfl rfl (by omega) rfl rfl rfl ⟨(k : Int) + 2 * i, (s'.nth i (by omega)).due⟩ rfl rfl (fun _ _ => trivial) (SWl_x ?_)) | refine SX_v (Val_ix (Src.own 0 rfl : Src lim w0 _ (s'.upd i ⟨(k : Int) + 2 * i, (s'.nth i (by omega)).due⟩)) rfl rfl i rfl (by show i < s'.n; omega)) ?_ | refine SX_w (SWl_stS 0 (s := s'.upd i ⟨(k : Int) + 2 * i, (s'.nth i (by omega)).due⟩) rfl (i := i) (j := 1) rfl rfl rfl (by show i < s'.n; omega) rfl rfl rfl ⟨(k : Int) + 2 * i, (k : Int) + 2 * i + 1⟩ (by rw [upd_nth]; rfl) rfl (fun _ _ => trivial) (SWl_x ?_)) | refine SX_run rfl rfl ?_ | refine SX_nil ?_ | refine SN_W ?_ | refine SW_seq ?_ | refine SW_regionX ?_ | refine SX_guardT rfl ?_ | refine SX_guardF rfl rfl ?_ | refine SX_guardU rfl ?_ | refine SX_gsplitD rfl rfl (fun h => ?_) (fun h => ?_) | refine SX_gsplitN rfl rfl (fun h => ?_) (fun h => ?_) | refine SX_gsplit rfl rfl (fun h => ?_) (fun h => ?_) | refine SW_condT rfl ?_ | refine SW_condF rfl ?_ | refine SW_condD rfl (fun h => ?_) (fun h => ?_) | refine SW_condN rfl (fun h => ?_) (fun h => ?_) | refine SW_condB rfl (fun h => ?_) (fun h => ?_) | refine SW_cond rfl (fun h => ?_) (fun h => ?_) | refine SW_block ?_ | refine SW_skip ?_ | refine SW_exit ?_ | refine SN_bl0 ?_ | refine SN_blS rfl ?_ | refine SW_ret ?_ | refine SX_v (Val_len rfl) ?_ | refine SX_v (Val_fa rfl) ?_ | refine SX_v (Val_add rfl rfl (by omega) (by omega)) ?_ | refine SX_v (Val_sub rfl rfl (by omega) (by omega)) ?_ | refine SX_v (Val_mul rfl rfl (by omega) (by omega)) ?_ | refine SX_v (Val_quoN rfl rfl (by omega) (by omega) (by omega)) ?_ | refine SX_v (Val_remN rfl rfl (by omega) (by omega)) ?_ | refine SX_v (Val_min rfl rfl) ?_ | refine SX_v (Val_beq und_bool rfl rfl) ?_ | refine SX_v (Val_bne und_bool rfl rfl) ?_)
  · refine SN_back (s.n - (i + 1)) (by omega) Imp.refl ⟨i + 1, (s'.upd i ⟨(k : Int) + 2 * i, (s'.nth i (by omega)).due⟩).upd i ⟨(k : Int) + 2 * i, (k : Int) + 2 * i + 1⟩, rfl, by omega, hv, hsn, rfl, ?_, ups_ex ⟨rfl, rfl, ?_, trivial⟩⟩
    · show (List.set (List.set _ _ _) _ _).take _ = _
      rw [List.set_set]
      exact tnums_step hpre (by have := s'.hn; omega) rfl rfl
    · show _ = Value.int .i64 ((k : Int) + 2 * (i + 1 : Nat))
      rw [show (k : Int) + 2 * (i + 1 : Nat) = (k : Int) + 2 * i + 1 + 1 by omega]; rfl
  · have : i = s.n := by omega
    subst this
    refine SN_ret1 rfl (RV.tmp rfl) Imp.refl ⟨rfl, s', hv, hsn, ?_, rfl⟩
    rw [← hpre, List.take_of_length_le (by have := s'.hn; omega)]
theorem nums_len (k n : Nat) : (nums k n).length = n := by simp [nums]
theorem Sl.eq_put {α : Type} {s s' : Sl α} {l : List α} (hl : l.length = s.n) (hv : s'.val = s.val) (h : s'.l = l) : s' = s.put l hl := by
  obtain ⟨a, n, c, l', hn⟩ := s
  obtain ⟨a', n', c', l'', hn'⟩ := s'
  simp only [Sl.val, Value.slice.injEq] at hv
  obtain ⟨rfl, rfl, rfl⟩ := hv
  simp only at h
  subst h
  rfl
theorem markInts (s : Sl Int) (k : Nat) (R : List Atom) (w0 : World) (hk : k + s.n ≤ lim) (w : World) (hw : St w0 w (Own s :: R)) :
    C Try.prog 60 #[s.val, .int .i64 k] w fun v w' => ∃ M, (v = .int .i64 ((k + s.n : Nat) : Int) ∧ M = Own (s.put (nums k s.n) (nums_len _ _)) :: R) ∧ St w0 w' M := by
  refine Calls.mono (markIntS s k R w0 hk w hw) ?_
  rintro e W1 ⟨v, rfl, M, ⟨rfl, s', e1, _, e3, rfl⟩, hst⟩
  have := Sl.eq_put (nums_len k s.n) e1 e3
  subst this
  exact ⟨_, rfl, _, ⟨rfl, rfl⟩, hst⟩
theorem heldPut {m : Nat} (s : Sl Int) (k : Nat) (w : World) (hs : Lod.rd m w (s.put (nums k s.n) (nums_len _ _))) (hk : k + s.n ≤ lim) : FI 61 [s.val, .int .i64 k] w ((k + s.n : Nat) : Int) := heldIntS (s.put (nums k s.n) (nums_len _ _)) k w hs rfl hk
end Go.Proofs.Ytldgapfdjpefkaa.E
