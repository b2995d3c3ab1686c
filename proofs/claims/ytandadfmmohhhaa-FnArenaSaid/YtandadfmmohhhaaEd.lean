/-
  What a thing of an arena leads to.
-/
import Derived.Test.YtandadfmmohhhaaAr
import Derived.Test.YtandadfmmohhhaaDue
namespace Go.Proofs.Ytandadfmmohhhaa.E
open Go Go.RowKit
set_option maxRecDepth 100000
set_option maxHeartbeats 4000000

theorem Imp.zero {α : Type} [Lod α] {w0 : World} {L : List Atom} : Imp w0 L [Own (Sl.zero : Sl α)] := by
  intro w st
  refine ⟨st.below, by simp [fps, Own, Lod.fp, Sl.fp, Sl.zero], fun b hb => ?_, fun A hA => ?_⟩
  · simp [fps, Own, Lod.fp, Sl.fp, Sl.zero] at hb
  · rw [List.mem_singleton] at hA; subst hA; exact Sl.zero_own w
theorem expired_nth (a : Sl ObjL) (i : Nat) (hi : i < a.n) (now : Int) : expired (a.nth i hi).pl now = expired (oat (a.l.map ObjL.pl) i) now := by rw [oat_nth a i hi]
def isEdge (l : List Obj) (i k : Nat) : Prop := (0 < k ∧ (oat l k).kind ≠ 0 ∧ (oat l k).inn = i ∧ (oat l i).kind = 1) ∨ (k : Int) ∈ (oat l i).links
instance (l : List Obj) (i k : Nat) : Decidable (isEdge l i k) := by unfold isEdge; infer_instance
/-- What leads on from place i, among the first n. -/
def edgesN (l : List Obj) (i n : Nat) : List Int := ((List.range n).filter fun k => decide (isEdge l i k)).map fun k : Nat => (k : Int)
theorem edgesN_step {l : List Obj} {i n : Nat} : edgesN l i (n + 1) = edgesN l i n ++ if isEdge l i n then [(n : Int)] else [] := by
  unfold edgesN
  rw [List.range_succ, List.filter_append, List.map_append]
  by_cases h : isEdge l i n <;> simp [h]
theorem edgesN_len (l : List Obj) (i n : Nat) : (edgesN l i n).length ≤ n := by
  unfold edgesN
  rw [List.length_map]
  exact Nat.le_trans (List.length_filter_le _ _) (by simp)
theorem edgesN_mem {l : List Obj} {i n : Nat} {x : Int} (h : x ∈ edgesN l i n) : ∃ k : Nat, x = k ∧ k < n ∧ isEdge l i k := by
  unfold edgesN at h
  obtain ⟨k, hk, rfl⟩ := List.mem_map.1 h
  rw [List.mem_filter, List.mem_range] at hk
  exact ⟨k, rfl, hk.1, of_decide_eq_true hk.2⟩
theorem mem_edgesN {l : List Obj} {i n k : Nat} (hk : k < n) (h : isEdge l i k) : (k : Int) ∈ edgesN l i n := List.mem_map.2 ⟨k, List.mem_filter.2 ⟨List.mem_range.2 hk, decide_eq_true h⟩, rfl⟩
/-- What leads on. -/
def edges (l : List Obj) (i : Int) : List Int := if ArenaOk l ∧ (0 ≤ i ∧ i ≤ 9) ∧ (oat l i.toNat).kind ≠ 0 then edgesN l i.toNat 10 else []
theorem edges_len (l : List Obj) (i : Int) : (edges l i).length ≤ 10 := by
  unfold edges
  split
  · exact edgesN_len _ _ _
  · simp
theorem arenaOk_n {a : Sl ObjL} (h : ArenaOk (a.l.map ObjL.pl)) : a.n = 10 := by
  have := h.1
  rw [List.length_map, a.hn] at this
  exact this
theorem edgesOf {m : Nat} (a : Sl ObjL) (i : Nat) (w : World) (ha : Lod.rd m w a) (hn : a.n = 10) (hi : i < 10) : F Try.prog 76 [a.val, .int .i64 i] w (rB Sl.val (fun r : Sl Int => r.l = edgesN (a.l.map ObjL.pl) i 10)) := by
  have sa : ∀ L, Src m w L a := fun L => Src.arg ha
  have hi' : i < a.n := by omega
  have hoi := oat_nth a i hi'
  refine F_of Try.func76 rfl rfl ?_
  repeat' (first | refine SX_w (SWl_bs (vs := []) rfl rfl (fun _ h => nomatch h) rfl rfl (fun b => SWl_x ?_)) | refine SX_run rfl rfl ?_ | refine SX_nil ?_ | refine SN_W ?_ | refine SW_seq ?_ | refine SW_regionX ?_ | refine SX_guardT rfl ?_ | refine SX_guardF rfl rfl ?_ | refine SX_guardU rfl ?_ | refine SX_gsplitD rfl rfl (fun h => ?_) (fun h => ?_) | refine SX_gsplitN rfl rfl (fun h => ?_) (fun h => ?_) | refine SX_gsplit rfl rfl (fun h => ?_) (fun h => ?_) | refine SW_condT rfl ?_ | refine SW_condF rfl ?_ | refine SW_condD rfl (fun h => ?_) (fun h => ?_) | refine SW_condN rfl (fun h => ?_) (fun h => ?_) | refine SW_condB rfl (fun h => ?_) (fun h => ?_) | refine SW_cond rfl (fun h => ?_) (fun h => ?_) | refine SW_block ?_ | refine SW_skip ?_ | refine SW_exit ?_ | refine SN_bl0 ?_ | refine SN_blS rfl ?_ | refine SW_ret ?_ | refine SX_v (Val_len rfl) ?_ | refine SX_v (Val_fa rfl) ?_ | refine SX_v (Val_add rfl rfl (by omega) (by omega)) ?_ | refine SX_v (Val_sub rfl rfl (by omega) (by omega)) ?_ | refine SX_v (Val_mul rfl rfl (by omega) (by omega)) ?_ | refine SX_v (Val_quoN rfl rfl (by omega) (by omega) (by omega)) ?_ | refine SX_v (Val_remN rfl rfl (by omega) (by omega)) ?_ | refine SX_v (Val_min rfl rfl) ?_ | refine SX_v (Val_beq und_bool rfl rfl) ?_ | refine SX_v (Val_bne und_bool rfl rfl) ?_)
  refine SW_loop (fun k σ L => ∃ (j : Nat) (r : Sl Int), k = a.n - j ∧ j ≤ a.n ∧ L = [Own r] ∧ r.l = edgesN (a.l.map ObjL.pl) i j ∧ ∃ τ, σ = ups τ [(12, .int .i64 j), (11, .int .i64 a.n), (10, a.val), (0, a.val), (1, .int .i64 i), (5, r.val)]) a.n (Imp.ofBlkF [] rfl rfl (by decide)) ⟨0, Sl.emp b, rfl, Nat.zero_le _, rfl, rfl, ups_ex ⟨rfl, rfl, rfl, rfl, rfl, rfl, trivial⟩⟩ ?_
  rintro k σ L ⟨j, r, rfl, hj, rfl, hr, τ, rfl⟩
  have hrl : r.n ≤ j := by rw [← r.hn, hr]; exact edgesN_len _ _ _
  by_cases hlt : j < a.n
  · have hE : isEdge (a.l.map ObjL.pl) i j ↔ (0 < j ∧ (a.nth j hlt).kind ≠ 0 ∧ (a.nth j hlt).inn = i ∧ (a.nth i hi').kind = 1) ∨ (j : Int) ∈ (a.nth i hi').links.l := by
      unfold isEdge; rw [hoi, oat_nth a j hlt]; exact Iff.rfl
    repeat' (first | refine SX_run rfl rfl ?_ | refine SX_nil ?_ | refine SN_W ?_ | refine SW_seq ?_ | refine SW_regionX ?_ | refine SX_v (Val_fa rfl) ?_ | refine SX_v (Val_ldB 0 rfl rfl rfl) ?_ | refine SX_v (Val_ldB 1 rfl rfl rfl) ?_ | refine SX_v (Val_ldB 2 rfl rfl rfl) ?_ | refine SX_v (Val_ldB 3 rfl rfl rfl) ?_ | refine SX_v (Val_ldB 4 rfl rfl rfl) ?_ | refine SX_v (Val_ldB 5 rfl rfl rfl) ?_ | refine SX_v (Val_ldB 6 rfl rfl rfl) ?_ | refine SX_v (Val_ldB 7 rfl rfl rfl) ?_ | refine SX_v (Val_ix (sa _) rfl rfl j rfl hlt) ?_ | refine SX_v (Val_ldAE (sa _) rfl rfl hlt) ?_ | refine SX_v (Val_ix (sa _) rfl rfl i rfl hi') ?_ | refine SX_v (Val_ldS (sa _) rfl rfl rfl hi' rfl) ?_ | (refine SX_at 83 ?_; refine SX_callA rfl (fun w hw => slHas (a.nth i hi').links j w (Src.links (Src.elem (sa _) i hi') w hw)) ?_) | refine SX_w (SWl_bs (vs := [.int .i64 j]) rfl rfl (by simp [Value.cells]) rfl rfl (fun b => SWl_x ?_)) | refine SX_w (SWl_appB 2 (s := r) rfl rfl 0 rfl [(j : Int)] rfl rfl (by unfold lim; simp; omega) (by rfl) (by rfl) (by rfl) (by rfl) (by rfl) (fun r' hr' hn' => SWl_x ?_)) | refine SX_guardT rfl ?_ | refine SX_guardF rfl rfl ?_ | refine SX_guardU rfl ?_ | refine SX_gsplitD rfl rfl (fun h => ?_) (fun h => ?_) | refine SX_gsplitN rfl rfl (fun h => ?_) (fun h => ?_) | refine SX_gsplit rfl rfl (fun h => ?_) (fun h => ?_) | refine SW_condT rfl ?_ | refine SW_condF rfl ?_ | refine SW_condD rfl (fun h => ?_) (fun h => ?_) | refine SW_condN rfl (fun h => ?_) (fun h => ?_) | refine SW_condB rfl (fun h => ?_) (fun h => ?_) | refine SW_cond rfl (fun h => ?_) (fun h => ?_) | refine SW_block ?_ | refine SW_skip ?_ | refine SW_exit ?_ | refine SN_bl0 ?_ | refine SN_blS rfl ?_ | refine SW_ret ?_ | refine SX_v (Val_len rfl) ?_ | refine SX_v (Val_fa rfl) ?_ | refine SX_v (Val_add rfl rfl (by omega) (by omega)) ?_ | refine SX_v (Val_sub rfl rfl (by omega) (by omega)) ?_ | refine SX_v (Val_mul rfl rfl (by omega) (by omega)) ?_ | refine SX_v (Val_quoN rfl rfl (by omega) (by omega) (by omega)) ?_ | refine SX_v (Val_remN rfl rfl (by omega) (by omega)) ?_ | refine SX_v (Val_min rfl rfl) ?_ | refine SX_v (Val_beq und_bool rfl rfl) ?_ | refine SX_v (Val_bne und_bool rfl rfl) ?_ | refine SX_w (SWl_box rfl rfl (fun b => SWl_x ?_)) | refine SX_w (SWl_alloc (fun b => SWl_x ?_)) | refine SX_w (SWl_stBn 0 rfl rfl rfl rfl rfl rfl (SWl_x ?_)) | refine SX_w (SWl_stBn 1 rfl rfl rfl rfl rfl rfl (SWl_x ?_)) | refine SX_w (SWl_stBn 2 rfl rfl rfl rfl rfl rfl (SWl_x ?_)) | refine SX_w (SWl_stBn 3 rfl rfl rfl rfl rfl rfl (SWl_x ?_)) | refine SX_w (SWl_stBn 4 rfl rfl rfl rfl rfl rfl (SWl_x ?_)) | refine SX_w (SWl_stBn 5 rfl rfl rfl rfl rfl rfl (SWl_x ?_)) | refine SX_w (SWl_stBn 6 rfl rfl rfl rfl rfl rfl (SWl_x ?_)) | refine SX_w (SWl_stBn 7 rfl rfl rfl rfl rfl rfl (SWl_x ?_)) | refine SX_v (Val_ldAB 0 rfl rfl rfl rfl) ?_ | refine SX_v (Val_ldAB 1 rfl rfl rfl rfl) ?_ | refine SX_v (Val_ldAB 2 rfl rfl rfl rfl) ?_ | refine SX_v (Val_ldAB 3 rfl rfl rfl rfl) ?_ | refine SX_v (Val_ldAB 4 rfl rfl rfl rfl) ?_ | refine SX_v (Val_ldAB 5 rfl rfl rfl rfl) ?_ | refine SX_v (Val_ldAB 6 rfl rfl rfl rfl) ?_ | refine SX_v (Val_ldAB 7 rfl rfl rfl rfl) ?_ | refine SX_w (SWl_stAB 0 rfl rfl rfl rfl (Lod.one _) rfl rfl (SWl_x ?_)) | refine SX_w (SWl_stAB 1 rfl rfl rfl rfl (Lod.one _) rfl rfl (SWl_x ?_)) | refine SX_w (SWl_stAB 2 rfl rfl rfl rfl (Lod.one _) rfl rfl (SWl_x ?_)) | refine SX_w (SWl_stAB 3 rfl rfl rfl rfl (Lod.one _) rfl rfl (SWl_x ?_)) | refine SX_w (SWl_stAB 4 rfl rfl rfl rfl (Lod.one _) rfl rfl (SWl_x ?_)) | refine SX_w (SWl_stAB 5 rfl rfl rfl rfl (Lod.one _) rfl rfl (SWl_x ?_)) | refine SX_w (SWl_stAB 6 rfl rfl rfl rfl (Lod.one _) rfl rfl (SWl_x ?_)) | refine SX_w (SWl_stAB 7 rfl rfl rfl rfl (Lod.one _) rfl rfl (SWl_x ?_)))
    all_goals first
      | (exfalso; omega)
      | (refine SN_back (a.n - (j + 1)) (by omega) (Imp.one 0 rfl) ⟨j + 1, r', rfl, by omega, rfl, ?_, ups_ex ⟨rfl, rfl, rfl, rfl, rfl, rfl, trivial⟩⟩
         rw [hr', hr, edgesN_step, if_pos (hE.2 (by clear ha sa; first | (right; assumption) | (left; refine ⟨by omega, by assumption, by assumption, by assumption⟩)))])
      | (refine SN_back (a.n - (j + 1)) (by omega) (Imp.one 1 rfl) ⟨j + 1, r, rfl, by omega, rfl, ?_, ups_ex ⟨rfl, rfl, rfl, rfl, rfl, rfl, trivial⟩⟩
         rw [hr, edgesN_step, if_neg, List.append_nil]
         clear ha sa
         rw [hE]
         rintro (⟨e1, e2, e3, e4⟩ | e1) <;> first | (exfalso; omega) | contradiction)
  · repeat' (first | refine SX_run rfl rfl ?_ | refine SX_nil ?_ | refine SN_W ?_ | refine SW_seq ?_ | refine SW_regionX ?_ | refine SX_guardT rfl ?_ | refine SX_guardF rfl rfl ?_ | refine SX_guardU rfl ?_ | refine SX_gsplitD rfl rfl (fun h => ?_) (fun h => ?_) | refine SX_gsplitN rfl rfl (fun h => ?_) (fun h => ?_) | refine SX_gsplit rfl rfl (fun h => ?_) (fun h => ?_) | refine SW_condT rfl ?_ | refine SW_condF rfl ?_ | refine SW_condD rfl (fun h => ?_) (fun h => ?_) | refine SW_condN rfl (fun h => ?_) (fun h => ?_) | refine SW_condB rfl (fun h => ?_) (fun h => ?_) | refine SW_cond rfl (fun h => ?_) (fun h => ?_) | refine SW_block ?_ | refine SW_skip ?_ | refine SW_exit ?_ | refine SN_bl0 ?_ | refine SN_blS rfl ?_ | refine SW_ret ?_ | refine SX_v (Val_len rfl) ?_ | refine SX_v (Val_fa rfl) ?_ | refine SX_v (Val_add rfl rfl (by omega) (by omega)) ?_ | refine SX_v (Val_sub rfl rfl (by omega) (by omega)) ?_ | refine SX_v (Val_mul rfl rfl (by omega) (by omega)) ?_ | refine SX_v (Val_quoN rfl rfl (by omega) (by omega) (by omega)) ?_ | refine SX_v (Val_remN rfl rfl (by omega) (by omega)) ?_ | refine SX_v (Val_min rfl rfl) ?_ | refine SX_v (Val_beq und_bool rfl rfl) ?_ | refine SX_v (Val_bne und_bool rfl rfl) ?_)
    · exfalso; omega
    refine SN_ret1 rfl (RV.tmp rfl) Imp.refl ⟨r, rfl, rfl, ?_⟩
    show r.l = _
    rw [hr, show j = 10 by omega]
theorem edgesOfZ {m : Nat} (a : Sl ObjL) (i : Nat) {z : Int} (hz : z = i) (w : World) (ha : Lod.rd m w a) (hn : a.n = 10) (hi : i < 10) : F Try.prog 76 [a.val, .int .i64 z] w (rB Sl.val (fun r : Sl Int => r.l = edgesN (a.l.map ObjL.pl) i 10)) := by
  subst hz; exact edgesOf a i w ha hn hi
theorem iEdges {m : Nat} (a : Sl ObjL) (i : Int) (w : World) (ha : Lod.rd m w a) (hr : RgA (a.l.map ObjL.pl)) : F Try.prog 28 [a.val, .int .i64 i] w (rB Sl.val (fun r : Sl Int => r.l = edges (a.l.map ObjL.pl) i)) := by
  have sa : ∀ L, Src m w L a := fun L => Src.arg ha
  refine F_of Try.func28 rfl rfl ?_
  repeat' (first | (refine SX_at 22 ?_; refine SX_callA rfl (fun w hw => iArenaOk a w (Src.arg ha w hw) hr) ?_) | (refine SX_at 77 ?_; refine SX_callA rfl (fun w _ => isSlot _ w) ?_) | refine SX_run rfl rfl ?_ | refine SX_nil ?_ | refine SN_W ?_ | refine SW_seq ?_ | refine SW_regionX ?_ | refine SX_guardT rfl ?_ | refine SX_guardF rfl rfl ?_ | refine SX_guardU rfl ?_ | refine SX_gsplitD rfl rfl (fun h => ?_) (fun h => ?_) | refine SX_gsplitN rfl rfl (fun h => ?_) (fun h => ?_) | refine SX_gsplit rfl rfl (fun h => ?_) (fun h => ?_) | refine SW_condT rfl ?_ | refine SW_condF rfl ?_ | refine SW_condD rfl (fun h => ?_) (fun h => ?_) | refine SW_condN rfl (fun h => ?_) (fun h => ?_) | refine SW_condB rfl (fun h => ?_) (fun h => ?_) | refine SW_cond rfl (fun h => ?_) (fun h => ?_) | refine SW_block ?_ | refine SW_skip ?_ | refine SW_exit ?_ | refine SN_bl0 ?_ | refine SN_blS rfl ?_ | refine SW_ret ?_ | refine SX_v (Val_len rfl) ?_ | refine SX_v (Val_fa rfl) ?_ | refine SX_v (Val_add rfl rfl (by omega) (by omega)) ?_ | refine SX_v (Val_sub rfl rfl (by omega) (by omega)) ?_ | refine SX_v (Val_mul rfl rfl (by omega) (by omega)) ?_ | refine SX_v (Val_quoN rfl rfl (by omega) (by omega) (by omega)) ?_ | refine SX_v (Val_remN rfl rfl (by omega) (by omega)) ?_ | refine SX_v (Val_min rfl rfl) ?_ | refine SX_v (Val_beq und_bool rfl rfl) ?_ | refine SX_v (Val_bne und_bool rfl rfl) ?_)
  · refine SN_ret1 rfl (RV.tmp rfl) Imp.zero ⟨Sl.zero, rfl, rfl, ?_⟩
    exact (if_neg fun e => h e.1).symm
  · refine SN_ret1 rfl (RV.tmp rfl) Imp.zero ⟨Sl.zero, rfl, rfl, ?_⟩
    exact (if_neg fun e => h e.2.1).symm
  rename_i hA
  have hn := arenaOk_n hA
  have hi' : i.toNat < a.n := by omega
  have hii : i = (i.toNat : Int) := by omega
  have hoi := oat_nth a i.toNat hi'
  have hk0 : (oat (a.l.map ObjL.pl) i.toNat).kind = (a.nth i.toNat hi').kind := by rw [hoi]; rfl
  repeat' (first | refine SX_v (Val_ix (sa _) rfl rfl i.toNat hii hi') ?_ | refine SX_v (Val_ldS (sa _) rfl rfl rfl hi' rfl) ?_ | refine SX_run rfl rfl ?_ | refine SX_nil ?_ | refine SN_W ?_ | refine SW_seq ?_ | refine SW_regionX ?_ | refine SX_guardT rfl ?_ | refine SX_guardF rfl rfl ?_ | refine SX_guardU rfl ?_ | refine SX_gsplitD rfl rfl (fun h => ?_) (fun h => ?_) | refine SX_gsplitN rfl rfl (fun h => ?_) (fun h => ?_) | refine SX_gsplit rfl rfl (fun h => ?_) (fun h => ?_) | refine SW_condT rfl ?_ | refine SW_condF rfl ?_ | refine SW_condD rfl (fun h => ?_) (fun h => ?_) | refine SW_condN rfl (fun h => ?_) (fun h => ?_) | refine SW_condB rfl (fun h => ?_) (fun h => ?_) | refine SW_cond rfl (fun h => ?_) (fun h => ?_) | refine SW_block ?_ | refine SW_skip ?_ | refine SW_exit ?_ | refine SN_bl0 ?_ | refine SN_blS rfl ?_ | refine SW_ret ?_ | refine SX_v (Val_len rfl) ?_ | refine SX_v (Val_fa rfl) ?_ | refine SX_v (Val_add rfl rfl (by omega) (by omega)) ?_ | refine SX_v (Val_sub rfl rfl (by omega) (by omega)) ?_ | refine SX_v (Val_mul rfl rfl (by omega) (by omega)) ?_ | refine SX_v (Val_quoN rfl rfl (by omega) (by omega) (by omega)) ?_ | refine SX_v (Val_remN rfl rfl (by omega) (by omega)) ?_ | refine SX_v (Val_min rfl rfl) ?_ | refine SX_v (Val_beq und_bool rfl rfl) ?_ | refine SX_v (Val_bne und_bool rfl rfl) ?_)
  · refine SN_ret1 rfl (RV.tmp rfl) Imp.zero ⟨Sl.zero, rfl, rfl, ?_⟩
    exact (if_neg fun e => e.2.2 (hk0.trans h)).symm
  have hk : (oat (a.l.map ObjL.pl) i.toNat).kind ≠ 0 := by rw [hk0]; exact h
  have hi10 : 0 ≤ i ∧ i ≤ 9 := by omega
  (refine SWl_at 76 ?_; refine SWl_callB rfl (fun w hw => edgesOfZ a i.toNat hii w (Src.arg ha w hw) hn (by omega)) (fun r h1 => SWl_x ?_))
  repeat' (first | refine SX_run rfl rfl ?_ | refine SX_nil ?_ | refine SN_W ?_ | refine SW_seq ?_ | refine SW_regionX ?_ | refine SX_guardT rfl ?_ | refine SX_guardF rfl rfl ?_ | refine SX_guardU rfl ?_ | refine SX_gsplitD rfl rfl (fun h => ?_) (fun h => ?_) | refine SX_gsplitN rfl rfl (fun h => ?_) (fun h => ?_) | refine SX_gsplit rfl rfl (fun h => ?_) (fun h => ?_) | refine SW_condT rfl ?_ | refine SW_condF rfl ?_ | refine SW_condD rfl (fun h => ?_) (fun h => ?_) | refine SW_condN rfl (fun h => ?_) (fun h => ?_) | refine SW_condB rfl (fun h => ?_) (fun h => ?_) | refine SW_cond rfl (fun h => ?_) (fun h => ?_) | refine SW_block ?_ | refine SW_skip ?_ | refine SW_exit ?_ | refine SN_bl0 ?_ | refine SN_blS rfl ?_ | refine SW_ret ?_ | refine SX_v (Val_len rfl) ?_ | refine SX_v (Val_fa rfl) ?_ | refine SX_v (Val_add rfl rfl (by omega) (by omega)) ?_ | refine SX_v (Val_sub rfl rfl (by omega) (by omega)) ?_ | refine SX_v (Val_mul rfl rfl (by omega) (by omega)) ?_ | refine SX_v (Val_quoN rfl rfl (by omega) (by omega) (by omega)) ?_ | refine SX_v (Val_remN rfl rfl (by omega) (by omega)) ?_ | refine SX_v (Val_min rfl rfl) ?_ | refine SX_v (Val_beq und_bool rfl rfl) ?_ | refine SX_v (Val_bne und_bool rfl rfl) ?_)
  refine SN_ret1 rfl (RV.tmp rfl) Imp.refl ⟨r, rfl, rfl, ?_⟩
  refine h1.trans ?_
  exact (if_pos ⟨hA, hi10, hk⟩).symm
theorem sEdges {m : Nat} (a : Sl ObjL) (i : Int) (w : World) (ha : Lod.rd m w a) (hr : RgA (a.l.map ObjL.pl)) : F Try.prog 32 [a.val, .int .i64 i] w (rB Sl.val (fun r : Sl Int => r.l = edges (a.l.map ObjL.pl) i)) := by
  have sa : ∀ L, Src m w L a := fun L => Src.arg ha
  refine F_of Try.func32 rfl rfl ?_
  repeat' (first | refine SX_w (SWl_bs (vs := []) rfl rfl (fun _ h => nomatch h) rfl rfl (fun b => SWl_x ?_)) | (refine SX_at 20 ?_; refine SX_callA rfl (fun w hw => sArenaOk a w (Src.arg ha w hw) hr) ?_) | (refine SX_at 78 ?_; refine SX_callA rfl (fun w _ => l8Slot _ w) ?_) | refine SX_run rfl rfl ?_ | refine SX_nil ?_ | refine SN_W ?_ | refine SW_seq ?_ | refine SW_regionX ?_ | refine SX_guardT rfl ?_ | refine SX_guardF rfl rfl ?_ | refine SX_guardU rfl ?_ | refine SX_gsplitD rfl rfl (fun h => ?_) (fun h => ?_) | refine SX_gsplitN rfl rfl (fun h => ?_) (fun h => ?_) | refine SX_gsplit rfl rfl (fun h => ?_) (fun h => ?_) | refine SW_condT rfl ?_ | refine SW_condF rfl ?_ | refine SW_condD rfl (fun h => ?_) (fun h => ?_) | refine SW_condN rfl (fun h => ?_) (fun h => ?_) | refine SW_condB rfl (fun h => ?_) (fun h => ?_) | refine SW_cond rfl (fun h => ?_) (fun h => ?_) | refine SW_block ?_ | refine SW_skip ?_ | refine SW_exit ?_ | refine SN_bl0 ?_ | refine SN_blS rfl ?_ | refine SW_ret ?_ | refine SX_v (Val_len rfl) ?_ | refine SX_v (Val_fa rfl) ?_ | refine SX_v (Val_add rfl rfl (by omega) (by omega)) ?_ | refine SX_v (Val_sub rfl rfl (by omega) (by omega)) ?_ | refine SX_v (Val_mul rfl rfl (by omega) (by omega)) ?_ | refine SX_v (Val_quoN rfl rfl (by omega) (by omega) (by omega)) ?_ | refine SX_v (Val_remN rfl rfl (by omega) (by omega)) ?_ | refine SX_v (Val_min rfl rfl) ?_ | refine SX_v (Val_beq und_bool rfl rfl) ?_ | refine SX_v (Val_bne und_bool rfl rfl) ?_)
  · refine SN_ret1 rfl (RV.tmp rfl) (Imp.ofBlkF [] rfl rfl (by decide)) ⟨Sl.emp b, rfl, rfl, ?_⟩
    exact (if_neg fun e => h e.1).symm
  · refine SN_ret1 rfl (RV.tmp rfl) (Imp.ofBlkF [] rfl rfl (by decide)) ⟨Sl.emp b, rfl, rfl, ?_⟩
    exact (if_neg fun e => h e.2.1).symm
  rename_i hA
  have hn := arenaOk_n hA
  have hi' : i.toNat < a.n := by omega
  have hii : i = (i.toNat : Int) := by omega
  have hoi := oat_nth a i.toNat hi'
  have hk0 : (oat (a.l.map ObjL.pl) i.toNat).kind = (a.nth i.toNat hi').kind := by rw [hoi]; rfl
  repeat' (first | refine SX_v (Val_ix (sa _) rfl rfl i.toNat hii hi') ?_ | refine SX_v (Val_ldS (sa _) rfl rfl rfl hi' rfl) ?_ | refine SX_run rfl rfl ?_ | refine SX_nil ?_ | refine SN_W ?_ | refine SW_seq ?_ | refine SW_regionX ?_ | refine SX_guardT rfl ?_ | refine SX_guardF rfl rfl ?_ | refine SX_guardU rfl ?_ | refine SX_gsplitD rfl rfl (fun h => ?_) (fun h => ?_) | refine SX_gsplitN rfl rfl (fun h => ?_) (fun h => ?_) | refine SX_gsplit rfl rfl (fun h => ?_) (fun h => ?_) | refine SW_condT rfl ?_ | refine SW_condF rfl ?_ | refine SW_condD rfl (fun h => ?_) (fun h => ?_) | refine SW_condN rfl (fun h => ?_) (fun h => ?_) | refine SW_condB rfl (fun h => ?_) (fun h => ?_) | refine SW_cond rfl (fun h => ?_) (fun h => ?_) | refine SW_block ?_ | refine SW_skip ?_ | refine SW_exit ?_ | refine SN_bl0 ?_ | refine SN_blS rfl ?_ | refine SW_ret ?_ | refine SX_v (Val_len rfl) ?_ | refine SX_v (Val_fa rfl) ?_ | refine SX_v (Val_add rfl rfl (by omega) (by omega)) ?_ | refine SX_v (Val_sub rfl rfl (by omega) (by omega)) ?_ | refine SX_v (Val_mul rfl rfl (by omega) (by omega)) ?_ | refine SX_v (Val_quoN rfl rfl (by omega) (by omega) (by omega)) ?_ | refine SX_v (Val_remN rfl rfl (by omega) (by omega)) ?_ | refine SX_v (Val_min rfl rfl) ?_ | refine SX_v (Val_beq und_bool rfl rfl) ?_ | refine SX_v (Val_bne und_bool rfl rfl) ?_)
  · refine SN_ret1 rfl (RV.tmp rfl) (Imp.ofBlkF [] rfl rfl (by decide)) ⟨Sl.emp b, rfl, rfl, ?_⟩
    exact (if_neg fun e => e.2.2 (hk0.trans h)).symm
  have hk : (oat (a.l.map ObjL.pl) i.toNat).kind ≠ 0 := by rw [hk0]; exact h
  have hi10 : 0 ≤ i ∧ i ≤ 9 := by omega
  refine SW_loop (fun k σ L => ∃ (j : Nat) (r : Sl Int), k = a.n - j ∧ j ≤ a.n ∧ L = [Own r] ∧ r.l = edgesN (a.l.map ObjL.pl) i.toNat j ∧ ∃ τ, σ = ups τ [(6, .int .i64 j), (0, a.val), (1, .int .i64 i), (5, r.val)]) a.n (Imp.ofBlkF [] rfl rfl (by decide)) ⟨0, Sl.emp b, rfl, Nat.zero_le _, rfl, rfl, ups_ex ⟨rfl, rfl, rfl, rfl, trivial⟩⟩ ?_
  rintro k σ L ⟨j, r, rfl, hj, rfl, hr, τ, rfl⟩
  have hrl : r.n ≤ j := by rw [← r.hn, hr]; exact edgesN_len _ _ _
  by_cases hlt : j < a.n
  · have hE : isEdge (a.l.map ObjL.pl) i.toNat j ↔ (0 < j ∧ (a.nth j hlt).kind ≠ 0 ∧ (a.nth j hlt).inn = i ∧ (a.nth i.toNat hi').kind = 1) ∨ (j : Int) ∈ (a.nth i.toNat hi').links.l := by
      unfold isEdge; rw [hoi, oat_nth a j hlt, ← hii]; exact Iff.rfl
    repeat' (first | refine SX_v (Val_ix (sa _) rfl rfl j rfl hlt) ?_ | refine SX_v (Val_ldS (sa _) rfl rfl rfl hlt rfl) ?_ | refine SX_v (Val_ix (sa _) rfl rfl i.toNat hii hi') ?_ | refine SX_v (Val_ldS (sa _) rfl rfl rfl hi' rfl) ?_ | (refine SX_at 79 ?_; refine SX_callA rfl (fun w hw => l4Has_h (a.nth i.toNat hi').links j w (Src.links (Src.elem (sa _) i.toNat hi') w hw)) ?_) | refine SX_w (SWl_bs (vs := [.int .i64 j]) rfl rfl (by simp [Value.cells]) rfl rfl (fun b => SWl_x ?_)) | refine SX_w (SWl_appB 1 (s := r) rfl rfl 0 rfl [(j : Int)] rfl rfl (by unfold lim; simp; omega) (by rfl) (by rfl) (by rfl) (by rfl) (by rfl) (fun r' hr' hn' => SWl_x ?_)) | refine SX_run rfl rfl ?_ | refine SX_nil ?_ | refine SN_W ?_ | refine SW_seq ?_ | refine SW_regionX ?_ | refine SX_guardT rfl ?_ | refine SX_guardF rfl rfl ?_ | refine SX_guardU rfl ?_ | refine SX_gsplitD rfl rfl (fun h => ?_) (fun h => ?_) | refine SX_gsplitN rfl rfl (fun h => ?_) (fun h => ?_) | refine SX_gsplit rfl rfl (fun h => ?_) (fun h => ?_) | refine SW_condT rfl ?_ | refine SW_condF rfl ?_ | refine SW_condD rfl (fun h => ?_) (fun h => ?_) | refine SW_condN rfl (fun h => ?_) (fun h => ?_) | refine SW_condB rfl (fun h => ?_) (fun h => ?_) | refine SW_cond rfl (fun h => ?_) (fun h => ?_) | refine SW_block ?_ | refine SW_skip ?_ | refine SW_exit ?_ | refine SN_bl0 ?_ | refine SN_blS rfl ?_ | refine SW_ret ?_ | refine SX_v (Val_len rfl) ?_ | refine SX_v (Val_fa rfl) ?_ | refine SX_v (Val_add rfl rfl (by omega) (by omega)) ?_ | refine SX_v (Val_sub rfl rfl (by omega) (by omega)) ?_ | refine SX_v (Val_mul rfl rfl (by omega) (by omega)) ?_ | refine SX_v (Val_quoN rfl rfl (by omega) (by omega) (by omega)) ?_ | refine SX_v (Val_remN rfl rfl (by omega) (by omega)) ?_ | refine SX_v (Val_min rfl rfl) ?_ | refine SX_v (Val_beq und_bool rfl rfl) ?_ | refine SX_v (Val_bne und_bool rfl rfl) ?_)
    all_goals first
      | (exfalso; omega)
      | (refine SN_back (a.n - (j + 1)) (by omega) (Imp.one 0 rfl) ⟨j + 1, r', rfl, by omega, rfl, ?_, ups_ex ⟨rfl, rfl, rfl, rfl, trivial⟩⟩
         rw [hr', hr, edgesN_step, if_pos (hE.2 (by clear ha sa; first | (right; assumption) | (left; refine ⟨by omega, by assumption, by assumption, by assumption⟩)))])
      | (refine SN_back (a.n - (j + 1)) (by omega) Imp.refl ⟨j + 1, r, rfl, by omega, rfl, ?_, ups_ex ⟨rfl, rfl, rfl, rfl, trivial⟩⟩
         rw [hr, edgesN_step, if_neg, List.append_nil]
         clear ha sa
         rw [hE]
         rintro (⟨e1, e2, e3, e4⟩ | e1) <;> first | (exfalso; omega) | contradiction)
  · repeat' (first | refine SX_run rfl rfl ?_ | refine SX_nil ?_ | refine SN_W ?_ | refine SW_seq ?_ | refine SW_regionX ?_ | refine SX_guardT rfl ?_ | refine SX_guardF rfl rfl ?_ | refine SX_guardU rfl ?_ | refine SX_gsplitD rfl rfl (fun h => ?_) (fun h => ?_) | refine SX_gsplitN rfl rfl (fun h => ?_) (fun h => ?_) | refine SX_gsplit rfl rfl (fun h => ?_) (fun h => ?_) | refine SW_condT rfl ?_ | refine SW_condF rfl ?_ | refine SW_condD rfl (fun h => ?_) (fun h => ?_) | refine SW_condN rfl (fun h => ?_) (fun h => ?_) | refine SW_condB rfl (fun h => ?_) (fun h => ?_) | refine SW_cond rfl (fun h => ?_) (fun h => ?_) | refine SW_block ?_ | refine SW_skip ?_ | refine SW_exit ?_ | refine SN_bl0 ?_ | refine SN_blS rfl ?_ | refine SW_ret ?_ | refine SX_v (Val_len rfl) ?_ | refine SX_v (Val_fa rfl) ?_ | refine SX_v (Val_add rfl rfl (by omega) (by omega)) ?_ | refine SX_v (Val_sub rfl rfl (by omega) (by omega)) ?_ | refine SX_v (Val_mul rfl rfl (by omega) (by omega)) ?_ | refine SX_v (Val_quoN rfl rfl (by omega) (by omega) (by omega)) ?_ | refine SX_v (Val_remN rfl rfl (by omega) (by omega)) ?_ | refine SX_v (Val_min rfl rfl) ?_ | refine SX_v (Val_beq und_bool rfl rfl) ?_ | refine SX_v (Val_bne und_bool rfl rfl) ?_)
    all_goals try (exfalso; omega)
    refine SN_ret1 rfl (RV.tmp rfl) Imp.refl ⟨r, rfl, rfl, ?_⟩
    show r.l = _
    rw [hr, show j = 10 by omega]
    exact (if_pos ⟨hA, hi10, hk⟩).symm
end Go.Proofs.Ytandadfmmohhhaa.E
