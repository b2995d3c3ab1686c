/-
  The law: what goes through a tap is gone at one end and there at the other.
-/
import Derived.Test.YtldgapfdjpefkaaDp
import Derived.Test.YtldgapfdjpefkaaLaw
namespace Go.Proofs.Ytldgapfdjpefkaa.E
open Go Go.RowKit
set_option maxRecDepth 100000
set_option maxHeartbeats 2000000

section
variable {P : Program} {n : Nat} {w0 : World} {σ : Fr} {L : List Atom}
theorem Val_neF {t : TypeId} {x y : Operand} {yt : TypeId} {a c : Int} (hx : ev n σ x = .int .i64 a) (hy : ev n σ y = .int .i64 c) (e : a = c) : Val P n w0 σ L (.binOp .neq t x y yt) (.bool false) :=
  Val_pv (by subst e; simp [pv, hx, hy, icmp])
theorem Val_neT {t : TypeId} {x y : Operand} {yt : TypeId} {a c : Int} (hx : ev n σ x = .int .i64 a) (hy : ev n σ y = .int .i64 c) (e : ¬ a = c) : Val P n w0 σ L (.binOp .neq t x y yt) (.bool true) :=
  Val_pv (by simp [pv, hx, hy, icmp, e])
theorem Val_eqT {t : TypeId} {x y : Operand} {yt : TypeId} {a c : Int} (hx : ev n σ x = .int .i64 a) (hy : ev n σ y = .int .i64 c) (e : a = c) : Val P n w0 σ L (.binOp .eql t x y yt) (.bool true) :=
  Val_pv (by subst e; simp [pv, hx, hy, icmp])
theorem Val_leT {t : TypeId} {x y : Operand} {yt : TypeId} {a c : Int} (hx : ev n σ x = .int .i64 a) (hy : ev n σ y = .int .i64 c) (e : a ≤ c) : Val P n w0 σ L (.binOp .leq t x y yt) (.bool true) :=
  Val_pv (by simp [pv, hx, hy, icmp, e])
variable {α : Type} [Lod α] [DecidableEq α]
theorem Val_seqT {T : TypeId} [he : EqV P T α] {x y : Operand} {yt : TypeId} {a : α} (hx : ev n σ x = .agg (Lod.cells a).toArray) (hy : ev n σ y = .agg (Lod.cells a).toArray) : Val P n w0 σ L (.binOp .eql T x y yt) (.bool true) := by
  have := Val_seq (P := P) (n := n) (w0 := w0) (σ := σ) (L := L) (T := T) (yt := yt) hx hy
  rwa [decide_eq_true rfl] at this
end
theorem resNe {a c : Sl Res} {i : Nat} (ha : i < a.n) (hc : i < c.n) (h : ¬ a.nth i ha = c.nth i hc) : ¬ a.l = c.l := fun e => h (by unfold Sl.nth; exact List.getElem_of_eq e _)
theorem resStep {a c : Sl Res} {i : Nat} (ha : i < a.n) (hc : i < c.n) (h : a.l.take i = c.l.take i) (e : a.nth i ha = c.nth i hc) : a.l.take (i + 1) = c.l.take (i + 1) := by
  rw [List.take_succ_eq_append_getElem (by rw [a.hn]; exact ha), List.take_succ_eq_append_getElem (by rw [c.hn]; exact hc), h]
  exact congrArg (fun z => _ ++ [z]) e
theorem resFull {a c : Sl Res} {n : Nat} (ha : a.n = n) (hc : c.n = n) (h : a.l.take n = c.l.take n) : a.l = c.l := by
  rwa [List.take_of_length_le (by rw [a.hn, ha]; exact Nat.le_refl _), List.take_of_length_le (by rw [c.hn, hc]; exact Nat.le_refl _)] at h
theorem sameTree_h {m m' : Nat} (a c : Sl Res) (w : World) (ha : Lod.rd m w a) (hb : Lod.rd m' w c) : FB 65 [a.val, c.val] w (decide (a.l = c.l)) := by
  have sa : ∀ L, Src m w L a := fun L => Src.arg ha
  have sb : ∀ L, Src m' w L c := fun L => Src.arg hb
  have hcap := capOf' (sa [])
  refine F_of Try.func65 rfl rfl ?_
  repeat' (first | refine SX_run rfl rfl ?_ | refine SX_nil ?_ | refine SN_W ?_ | refine SW_seq ?_ | refine SW_regionX ?_ | refine SX_guardT rfl ?_ | refine SX_guardF rfl rfl ?_ | refine SX_guardU rfl ?_ | refine SX_gsplitD rfl rfl (fun h => ?_) (fun h => ?_) | refine SX_gsplitN rfl rfl (fun h => ?_) (fun h => ?_) | refine SX_gsplit rfl rfl (fun h => ?_) (fun h => ?_) | refine SW_condT rfl ?_ | refine SW_condF rfl ?_ | refine SW_condD rfl (fun h => ?_) (fun h => ?_) | refine SW_condN rfl (fun h => ?_) (fun h => ?_) | refine SW_condB rfl (fun h => ?_) (fun h => ?_) | refine SW_cond rfl (fun h => ?_) (fun h => ?_) | refine SW_block ?_ | refine SW_skip ?_ | refine SW_exit ?_ | refine SN_bl0 ?_ | refine SN_blS rfl ?_ | refine SW_ret ?_ | refine SX_v (Val_len rfl) ?_ | refine SX_v (Val_fa rfl) ?_ | refine SX_v (Val_add rfl rfl (by omega) (by omega)) ?_ | refine SX_v (Val_sub rfl rfl (by omega) (by omega)) ?_ | refine SX_v (Val_mul rfl rfl (by omega) (by omega)) ?_ | refine SX_v (Val_quoN rfl rfl (by omega) (by omega) (by omega)) ?_ | refine SX_v (Val_remN rfl rfl (by omega) (by omega)) ?_ | refine SX_v (Val_min rfl rfl) ?_ | refine SX_v (Val_beq und_bool rfl rfl) ?_ | refine SX_v (Val_bne und_bool rfl rfl) ?_)
  · exact SN_retB rfl rfl ⟨by rw [decide_eq_false (fun e : a.l = c.l => h (by rw [← a.hn, ← c.hn, e]))], rfl⟩
  have hab : a.n = c.n := by omega
  clear h
  refine SW_loop (fun k σ L => ∃ i : Nat, k = a.n - i ∧ i ≤ a.n ∧ L = [] ∧ a.l.take i = c.l.take i ∧ ∃ τ, σ = ups τ [(5, .int .i64 i), (0, a.val), (1, c.val)]) a.n Imp.nil ⟨0, rfl, Nat.zero_le _, rfl, rfl, ups_ex ⟨rfl, rfl, rfl, trivial⟩⟩ ?_
  rintro k σ L ⟨i, rfl, hi, rfl, hpre, τ, rfl⟩
  by_cases hlt : i < a.n
  · have hltb : i < c.n := by omega
    repeat' (first | refine SX_v (Val_ix (sa _) rfl rfl i rfl hlt) ?_ | refine SX_v (Val_ldAE (sa _) rfl rfl hlt) ?_ | refine SX_v (Val_ix (sb _) rfl rfl i rfl hltb) ?_ | refine SX_v (Val_ldAE (sb _) rfl rfl hltb) ?_ | refine SX_v (Val_sne (a := a.nth i hlt) (b := c.nth i hltb) rfl rfl) ?_ | refine SX_run rfl rfl ?_ | refine SX_nil ?_ | refine SN_W ?_ | refine SW_seq ?_ | refine SW_regionX ?_ | refine SX_guardT rfl ?_ | refine SX_guardF rfl rfl ?_ | refine SX_guardU rfl ?_ | refine SX_gsplitD rfl rfl (fun h => ?_) (fun h => ?_) | refine SX_gsplitN rfl rfl (fun h => ?_) (fun h => ?_) | refine SX_gsplit rfl rfl (fun h => ?_) (fun h => ?_) | refine SW_condT rfl ?_ | refine SW_condF rfl ?_ | refine SW_condD rfl (fun h => ?_) (fun h => ?_) | refine SW_condN rfl (fun h => ?_) (fun h => ?_) | refine SW_condB rfl (fun h => ?_) (fun h => ?_) | refine SW_cond rfl (fun h => ?_) (fun h => ?_) | refine SW_block ?_ | refine SW_skip ?_ | refine SW_exit ?_ | refine SN_bl0 ?_ | refine SN_blS rfl ?_ | refine SW_ret ?_ | refine SX_v (Val_len rfl) ?_ | refine SX_v (Val_fa rfl) ?_ | refine SX_v (Val_add rfl rfl (by omega) (by omega)) ?_ | refine SX_v (Val_sub rfl rfl (by omega) (by omega)) ?_ | refine SX_v (Val_mul rfl rfl (by omega) (by omega)) ?_ | refine SX_v (Val_quoN rfl rfl (by omega) (by omega) (by omega)) ?_ | refine SX_v (Val_remN rfl rfl (by omega) (by omega)) ?_ | refine SX_v (Val_min rfl rfl) ?_ | refine SX_v (Val_beq und_bool rfl rfl) ?_ | refine SX_v (Val_bne und_bool rfl rfl) ?_ | refine SW_regionD mixed (by kernel_rfl) ?_)
    · exact SN_retB rfl rfl ⟨by rw [decide_eq_false (resNe hlt hltb h)], rfl⟩
    · exact SN_back (a.n - (i + 1)) (by omega) Imp.nil ⟨i + 1, rfl, hlt, rfl, resStep hlt hltb hpre h, ups_ex ⟨rfl, rfl, rfl, trivial⟩⟩
    all_goals (exfalso; omega)
  · repeat' (first | refine SX_run rfl rfl ?_ | refine SX_nil ?_ | refine SN_W ?_ | refine SW_seq ?_ | refine SW_regionX ?_ | refine SX_guardT rfl ?_ | refine SX_guardF rfl rfl ?_ | refine SX_guardU rfl ?_ | refine SX_gsplitD rfl rfl (fun h => ?_) (fun h => ?_) | refine SX_gsplitN rfl rfl (fun h => ?_) (fun h => ?_) | refine SX_gsplit rfl rfl (fun h => ?_) (fun h => ?_) | refine SW_condT rfl ?_ | refine SW_condF rfl ?_ | refine SW_condD rfl (fun h => ?_) (fun h => ?_) | refine SW_condN rfl (fun h => ?_) (fun h => ?_) | refine SW_condB rfl (fun h => ?_) (fun h => ?_) | refine SW_cond rfl (fun h => ?_) (fun h => ?_) | refine SW_block ?_ | refine SW_skip ?_ | refine SW_exit ?_ | refine SN_bl0 ?_ | refine SN_blS rfl ?_ | refine SW_ret ?_ | refine SX_v (Val_len rfl) ?_ | refine SX_v (Val_fa rfl) ?_ | refine SX_v (Val_add rfl rfl (by omega) (by omega)) ?_ | refine SX_v (Val_sub rfl rfl (by omega) (by omega)) ?_ | refine SX_v (Val_mul rfl rfl (by omega) (by omega)) ?_ | refine SX_v (Val_quoN rfl rfl (by omega) (by omega) (by omega)) ?_ | refine SX_v (Val_remN rfl rfl (by omega) (by omega)) ?_ | refine SX_v (Val_min rfl rfl) ?_ | refine SX_v (Val_beq und_bool rfl rfl) ?_ | refine SX_v (Val_bne und_bool rfl rfl) ?_ | refine SW_regionD mixed (by kernel_rfl) ?_)
    · exfalso; omega
    exact SN_retB rfl rfl ⟨by rw [decide_eq_true (resFull (n := i) (by omega) (by omega) hpre)], rfl⟩
theorem sameTreeT {m m' : Nat} (a c : Sl Res) (w : World) (ha : Lod.rd m w a) (hb : Lod.rd m' w c) (e : a.l = c.l) : FB 65 [a.val, c.val] w true := by
  have := sameTree_h a c w ha hb
  rwa [decide_eq_true e] at this
theorem sTreeT {m : Nat} (a : Sl Res) (w : World) (ha : Lod.rd m w a) (h : TreeOk a.l) : FB 67 [a.val] w true := by
  have := sTreeOk a w ha
  rwa [decide_eq_true h] at this
theorem iSumV {m : Nat} (a : Sl TreeL) (s : Amt) (w : World) (ha : Lod.rd m w a) (h : treesSum (a.l.map TreeL.pl) = s) : F Try.prog 42 [a.val] w (rA (agg s)) := by
  subst h; exact iTreesSum a w ha
theorem wFnTaps (x0 : Sl UInt8) (w : World) (hx0 : Lod.rd maxLen w x0) : FB 13 [x0.val] w true := by
  refine F_of Try.func13 rfl rfl ?_
  repeat' (first | refine SX_run rfl rfl ?_ | refine SX_nil ?_ | refine SN_W ?_ | refine SW_seq ?_ | refine SW_regionX ?_ | refine SX_v (Val_fa rfl) ?_ | refine SX_v (Val_ldB 0 rfl rfl rfl) ?_ | refine SX_v (Val_ldB 1 rfl rfl rfl) ?_ | refine SX_v (Val_ldB 2 rfl rfl rfl) ?_ | refine SX_v (Val_ldB 3 rfl rfl rfl) ?_ | refine SX_v (Val_ldB 4 rfl rfl rfl) ?_ | refine SX_v (Val_ldB 5 rfl rfl rfl) ?_ | refine SX_v (Val_ldB 6 rfl rfl rfl) ?_ | refine SX_v (Val_ldB 7 rfl rfl rfl) ?_ | (refine SX_at 20 ?_; refine SX_callA rfl (fun w hw => big_h x0 w (Src.arg hx0 w hw)) ?_) | refine SX_guardT rfl ?_ | refine SX_guardF rfl rfl ?_ | refine SX_guardU rfl ?_ | refine SX_gsplitD rfl rfl (fun h => ?_) (fun h => ?_) | refine SX_gsplitN rfl rfl (fun h => ?_) (fun h => ?_) | refine SX_gsplit rfl rfl (fun h => ?_) (fun h => ?_) | refine SW_condT rfl ?_ | refine SW_condF rfl ?_ | refine SW_condD rfl (fun h => ?_) (fun h => ?_) | refine SW_condN rfl (fun h => ?_) (fun h => ?_) | refine SW_condB rfl (fun h => ?_) (fun h => ?_) | refine SW_cond rfl (fun h => ?_) (fun h => ?_) | refine SW_block ?_ | refine SW_skip ?_ | refine SW_exit ?_ | refine SN_bl0 ?_ | refine SN_blS rfl ?_ | refine SW_ret ?_ | refine SX_v (Val_len rfl) ?_ | refine SX_v (Val_fa rfl) ?_ | refine SX_v (Val_add rfl rfl (by omega) (by omega)) ?_ | refine SX_v (Val_sub rfl rfl (by omega) (by omega)) ?_ | refine SX_v (Val_mul rfl rfl (by omega) (by omega)) ?_ | refine SX_v (Val_quoN rfl rfl (by omega) (by omega) (by omega)) ?_ | refine SX_v (Val_remN rfl rfl (by omega) (by omega)) ?_ | refine SX_v (Val_min rfl rfl) ?_ | refine SX_v (Val_beq und_bool rfl rfl) ?_ | refine SX_v (Val_bne und_bool rfl rfl) ?_ | refine SX_w (SWl_box rfl rfl (fun b => SWl_x ?_)) | refine SX_w (SWl_alloc (fun b => SWl_x ?_)) | refine SX_w (SWl_stBn 0 rfl rfl rfl rfl rfl rfl (SWl_x ?_)) | refine SX_w (SWl_stBn 1 rfl rfl rfl rfl rfl rfl (SWl_x ?_)) | refine SX_w (SWl_stBn 2 rfl rfl rfl rfl rfl rfl (SWl_x ?_)) | refine SX_w (SWl_stBn 3 rfl rfl rfl rfl rfl rfl (SWl_x ?_)) | refine SX_w (SWl_stBn 4 rfl rfl rfl rfl rfl rfl (SWl_x ?_)) | refine SX_w (SWl_stBn 5 rfl rfl rfl rfl rfl rfl (SWl_x ?_)) | refine SX_w (SWl_stBn 6 rfl rfl rfl rfl rfl rfl (SWl_x ?_)) | refine SX_w (SWl_stBn 7 rfl rfl rfl rfl rfl rfl (SWl_x ?_)) | refine SX_v (Val_ldAB 0 rfl rfl rfl rfl) ?_ | refine SX_v (Val_ldAB 1 rfl rfl rfl rfl) ?_ | refine SX_v (Val_ldAB 2 rfl rfl rfl rfl) ?_ | refine SX_v (Val_ldAB 3 rfl rfl rfl rfl) ?_ | refine SX_v (Val_ldAB 4 rfl rfl rfl rfl) ?_ | refine SX_v (Val_ldAB 5 rfl rfl rfl rfl) ?_ | refine SX_v (Val_ldAB 6 rfl rfl rfl rfl) ?_ | refine SX_v (Val_ldAB 7 rfl rfl rfl rfl) ?_ | refine SX_w (SWl_stAB 0 rfl rfl rfl rfl (Lod.one _) rfl rfl (SWl_x ?_)) | refine SX_w (SWl_stAB 1 rfl rfl rfl rfl (Lod.one _) rfl rfl (SWl_x ?_)) | refine SX_w (SWl_stAB 2 rfl rfl rfl rfl (Lod.one _) rfl rfl (SWl_x ?_)) | refine SX_w (SWl_stAB 3 rfl rfl rfl rfl (Lod.one _) rfl rfl (SWl_x ?_)) | refine SX_w (SWl_stAB 4 rfl rfl rfl rfl (Lod.one _) rfl rfl (SWl_x ?_)) | refine SX_w (SWl_stAB 5 rfl rfl rfl rfl (Lod.one _) rfl rfl (SWl_x ?_)) | refine SX_w (SWl_stAB 6 rfl rfl rfl rfl (Lod.one _) rfl rfl (SWl_x ?_)) | refine SX_w (SWl_stAB 7 rfl rfl rfl rfl (Lod.one _) rfl rfl (SWl_x ?_)))
  · exact SN_retB rfl rfl ⟨rfl, rfl⟩
  have hcn : x0.n ≤ 1048576 := by omega
  refine SWl_at 62 ?_
  refine SWl_call rfl (fun w hw => drawTapMove x0 w (Src.arg hx0 w hw) hcn) ?_
  rintro v M ⟨a, p, t, rfl, han, rfl⟩
  refine SWl_x ?_
  clear h
  repeat' (first | refine SX_run rfl rfl ?_ | refine SX_nil ?_ | refine SN_W ?_ | refine SW_seq ?_ | refine SW_regionX ?_ | refine SX_v (Val_fa rfl) ?_ | refine SX_v (Val_ldB 0 rfl rfl rfl) ?_ | refine SX_v (Val_ldB 1 rfl rfl rfl) ?_ | refine SX_v (Val_ldB 2 rfl rfl rfl) ?_ | refine SX_v (Val_ldB 3 rfl rfl rfl) ?_ | refine SX_v (Val_ldB 4 rfl rfl rfl) ?_ | refine SX_v (Val_ldB 5 rfl rfl rfl) ?_ | refine SX_v (Val_ldB 6 rfl rfl rfl) ?_ | refine SX_v (Val_ldB 7 rfl rfl rfl) ?_ | refine SX_w (SWl_stAB 0 (cs' := Lod.cells t) rfl rfl rfl rfl (Lod.one t) rfl rfl (SWl_x ?_)) | refine SX_v (Val_ldAB 0 (vs := Lod.cells t) rfl rfl rfl rfl) ?_ | refine SX_guardT rfl ?_ | refine SX_guardF rfl rfl ?_ | refine SX_guardU rfl ?_ | refine SX_gsplitD rfl rfl (fun h => ?_) (fun h => ?_) | refine SX_gsplitN rfl rfl (fun h => ?_) (fun h => ?_) | refine SX_gsplit rfl rfl (fun h => ?_) (fun h => ?_) | refine SW_condT rfl ?_ | refine SW_condF rfl ?_ | refine SW_condD rfl (fun h => ?_) (fun h => ?_) | refine SW_condN rfl (fun h => ?_) (fun h => ?_) | refine SW_condB rfl (fun h => ?_) (fun h => ?_) | refine SW_cond rfl (fun h => ?_) (fun h => ?_) | refine SW_block ?_ | refine SW_skip ?_ | refine SW_exit ?_ | refine SN_bl0 ?_ | refine SN_blS rfl ?_ | refine SW_ret ?_ | refine SX_v (Val_len rfl) ?_ | refine SX_v (Val_fa rfl) ?_ | refine SX_v (Val_add rfl rfl (by omega) (by omega)) ?_ | refine SX_v (Val_sub rfl rfl (by omega) (by omega)) ?_ | refine SX_v (Val_mul rfl rfl (by omega) (by omega)) ?_ | refine SX_v (Val_quoN rfl rfl (by omega) (by omega) (by omega)) ?_ | refine SX_v (Val_remN rfl rfl (by omega) (by omega)) ?_ | refine SX_v (Val_min rfl rfl) ?_ | refine SX_v (Val_beq und_bool rfl rfl) ?_ | refine SX_v (Val_bne und_bool rfl rfl) ?_ | refine SX_w (SWl_box rfl rfl (fun b => SWl_x ?_)) | refine SX_w (SWl_alloc (fun b => SWl_x ?_)) | refine SX_w (SWl_stBn 0 rfl rfl rfl rfl rfl rfl (SWl_x ?_)) | refine SX_w (SWl_stBn 1 rfl rfl rfl rfl rfl rfl (SWl_x ?_)) | refine SX_w (SWl_stBn 2 rfl rfl rfl rfl rfl rfl (SWl_x ?_)) | refine SX_w (SWl_stBn 3 rfl rfl rfl rfl rfl rfl (SWl_x ?_)) | refine SX_w (SWl_stBn 4 rfl rfl rfl rfl rfl rfl (SWl_x ?_)) | refine SX_w (SWl_stBn 5 rfl rfl rfl rfl rfl rfl (SWl_x ?_)) | refine SX_w (SWl_stBn 6 rfl rfl rfl rfl rfl rfl (SWl_x ?_)) | refine SX_w (SWl_stBn 7 rfl rfl rfl rfl rfl rfl (SWl_x ?_)) | refine SX_v (Val_ldAB 0 rfl rfl rfl rfl) ?_ | refine SX_v (Val_ldAB 1 rfl rfl rfl rfl) ?_ | refine SX_v (Val_ldAB 2 rfl rfl rfl rfl) ?_ | refine SX_v (Val_ldAB 3 rfl rfl rfl rfl) ?_ | refine SX_v (Val_ldAB 4 rfl rfl rfl rfl) ?_ | refine SX_v (Val_ldAB 5 rfl rfl rfl rfl) ?_ | refine SX_v (Val_ldAB 6 rfl rfl rfl rfl) ?_ | refine SX_v (Val_ldAB 7 rfl rfl rfl rfl) ?_ | refine SX_w (SWl_stAB 0 rfl rfl rfl rfl (Lod.one _) rfl rfl (SWl_x ?_)) | refine SX_w (SWl_stAB 1 rfl rfl rfl rfl (Lod.one _) rfl rfl (SWl_x ?_)) | refine SX_w (SWl_stAB 2 rfl rfl rfl rfl (Lod.one _) rfl rfl (SWl_x ?_)) | refine SX_w (SWl_stAB 3 rfl rfl rfl rfl (Lod.one _) rfl rfl (SWl_x ?_)) | refine SX_w (SWl_stAB 4 rfl rfl rfl rfl (Lod.one _) rfl rfl (SWl_x ?_)) | refine SX_w (SWl_stAB 5 rfl rfl rfl rfl (Lod.one _) rfl rfl (SWl_x ?_)) | refine SX_w (SWl_stAB 6 rfl rfl rfl rfl (Lod.one _) rfl rfl (SWl_x ?_)) | refine SX_w (SWl_stAB 7 rfl rfl rfl rfl (Lod.one _) rfl rfl (SWl_x ?_)))
  obtain ⟨b5, rfl⟩ : ∃ q, q = b := ⟨b, rfl⟩
  refine SX_imp (L' := [Blk b5 (Lod.cells t) 89, Own a]) Imp.refl ?_
  (refine SWl_at 63 ?_; refine SWl_callP rfl (fun w hw => iTapMove a p t w (by exact Src.own 1 rfl w hw)) (fun x hx => SWl_x ?_))
  repeat' (first | refine SX_run rfl rfl ?_ | refine SX_nil ?_ | refine SN_W ?_ | refine SW_seq ?_ | refine SW_regionX ?_ | refine SX_v (Val_fa rfl) ?_ | refine SX_v (Val_ldB 0 rfl rfl rfl) ?_ | refine SX_v (Val_ldB 1 rfl rfl rfl) ?_ | refine SX_v (Val_ldB 2 rfl rfl rfl) ?_ | refine SX_v (Val_ldB 3 rfl rfl rfl) ?_ | refine SX_v (Val_ldB 4 rfl rfl rfl) ?_ | refine SX_v (Val_ldB 5 rfl rfl rfl) ?_ | refine SX_v (Val_ldB 6 rfl rfl rfl) ?_ | refine SX_v (Val_ldB 7 rfl rfl rfl) ?_ | refine SX_v (Val_ldAB 1 (vs := Lod.cells t) rfl rfl rfl rfl) ?_ | refine SX_guardT rfl ?_ | refine SX_guardF rfl rfl ?_ | refine SX_guardU rfl ?_ | refine SX_gsplitD rfl rfl (fun h => ?_) (fun h => ?_) | refine SX_gsplitN rfl rfl (fun h => ?_) (fun h => ?_) | refine SX_gsplit rfl rfl (fun h => ?_) (fun h => ?_) | refine SW_condT rfl ?_ | refine SW_condF rfl ?_ | refine SW_condD rfl (fun h => ?_) (fun h => ?_) | refine SW_condN rfl (fun h => ?_) (fun h => ?_) | refine SW_condB rfl (fun h => ?_) (fun h => ?_) | refine SW_cond rfl (fun h => ?_) (fun h => ?_) | refine SW_block ?_ | refine SW_skip ?_ | refine SW_exit ?_ | refine SN_bl0 ?_ | refine SN_blS rfl ?_ | refine SW_ret ?_ | refine SX_v (Val_len rfl) ?_ | refine SX_v (Val_fa rfl) ?_ | refine SX_v (Val_add rfl rfl (by omega) (by omega)) ?_ | refine SX_v (Val_sub rfl rfl (by omega) (by omega)) ?_ | refine SX_v (Val_mul rfl rfl (by omega) (by omega)) ?_ | refine SX_v (Val_quoN rfl rfl (by omega) (by omega) (by omega)) ?_ | refine SX_v (Val_remN rfl rfl (by omega) (by omega)) ?_ | refine SX_v (Val_min rfl rfl) ?_ | refine SX_v (Val_beq und_bool rfl rfl) ?_ | refine SX_v (Val_bne und_bool rfl rfl) ?_ | refine SX_w (SWl_box rfl rfl (fun b => SWl_x ?_)) | refine SX_w (SWl_alloc (fun b => SWl_x ?_)) | refine SX_w (SWl_stBn 0 rfl rfl rfl rfl rfl rfl (SWl_x ?_)) | refine SX_w (SWl_stBn 1 rfl rfl rfl rfl rfl rfl (SWl_x ?_)) | refine SX_w (SWl_stBn 2 rfl rfl rfl rfl rfl rfl (SWl_x ?_)) | refine SX_w (SWl_stBn 3 rfl rfl rfl rfl rfl rfl (SWl_x ?_)) | refine SX_w (SWl_stBn 4 rfl rfl rfl rfl rfl rfl (SWl_x ?_)) | refine SX_w (SWl_stBn 5 rfl rfl rfl rfl rfl rfl (SWl_x ?_)) | refine SX_w (SWl_stBn 6 rfl rfl rfl rfl rfl rfl (SWl_x ?_)) | refine SX_w (SWl_stBn 7 rfl rfl rfl rfl rfl rfl (SWl_x ?_)) | refine SX_v (Val_ldAB 0 rfl rfl rfl rfl) ?_ | refine SX_v (Val_ldAB 1 rfl rfl rfl rfl) ?_ | refine SX_v (Val_ldAB 2 rfl rfl rfl rfl) ?_ | refine SX_v (Val_ldAB 3 rfl rfl rfl rfl) ?_ | refine SX_v (Val_ldAB 4 rfl rfl rfl rfl) ?_ | refine SX_v (Val_ldAB 5 rfl rfl rfl rfl) ?_ | refine SX_v (Val_ldAB 6 rfl rfl rfl rfl) ?_ | refine SX_v (Val_ldAB 7 rfl rfl rfl rfl) ?_ | refine SX_w (SWl_stAB 0 rfl rfl rfl rfl (Lod.one _) rfl rfl (SWl_x ?_)) | refine SX_w (SWl_stAB 1 rfl rfl rfl rfl (Lod.one _) rfl rfl (SWl_x ?_)) | refine SX_w (SWl_stAB 2 rfl rfl rfl rfl (Lod.one _) rfl rfl (SWl_x ?_)) | refine SX_w (SWl_stAB 3 rfl rfl rfl rfl (Lod.one _) rfl rfl (SWl_x ?_)) | refine SX_w (SWl_stAB 4 rfl rfl rfl rfl (Lod.one _) rfl rfl (SWl_x ?_)) | refine SX_w (SWl_stAB 5 rfl rfl rfl rfl (Lod.one _) rfl rfl (SWl_x ?_)) | refine SX_w (SWl_stAB 6 rfl rfl rfl rfl (Lod.one _) rfl rfl (SWl_x ?_)) | refine SX_w (SWl_stAB 7 rfl rfl rfl rfl (Lod.one _) rfl rfl (SWl_x ?_)))
  (refine SWl_at 64 ?_; refine SWl_callP rfl (fun w hw => sTapMove a p t w (by exact Src.own 2 rfl w hw)) (fun y hy => SWl_x ?_))
  repeat' (first | refine SX_run rfl rfl ?_ | refine SX_nil ?_ | refine SN_W ?_ | refine SW_seq ?_ | refine SW_regionX ?_ | refine SX_v (Val_fa rfl) ?_ | refine SX_v (Val_ldB 0 rfl rfl rfl) ?_ | refine SX_v (Val_ldB 1 rfl rfl rfl) ?_ | refine SX_v (Val_ldB 2 rfl rfl rfl) ?_ | refine SX_v (Val_ldB 3 rfl rfl rfl) ?_ | refine SX_v (Val_ldB 4 rfl rfl rfl) ?_ | refine SX_v (Val_ldB 5 rfl rfl rfl) ?_ | refine SX_v (Val_ldB 6 rfl rfl rfl) ?_ | refine SX_v (Val_ldB 7 rfl rfl rfl) ?_ | refine SX_guardT rfl ?_ | refine SX_guardF rfl rfl ?_ | refine SX_guardU rfl ?_ | refine SX_gsplitD rfl rfl (fun h => ?_) (fun h => ?_) | refine SX_gsplitN rfl rfl (fun h => ?_) (fun h => ?_) | refine SX_gsplit rfl rfl (fun h => ?_) (fun h => ?_) | refine SW_condT rfl ?_ | refine SW_condF rfl ?_ | refine SW_condD rfl (fun h => ?_) (fun h => ?_) | refine SW_condN rfl (fun h => ?_) (fun h => ?_) | refine SW_condB rfl (fun h => ?_) (fun h => ?_) | refine SW_cond rfl (fun h => ?_) (fun h => ?_) | refine SW_block ?_ | refine SW_skip ?_ | refine SW_exit ?_ | refine SN_bl0 ?_ | refine SN_blS rfl ?_ | refine SW_ret ?_ | refine SX_v (Val_len rfl) ?_ | refine SX_v (Val_fa rfl) ?_ | refine SX_v (Val_add rfl rfl (by omega) (by omega)) ?_ | refine SX_v (Val_sub rfl rfl (by omega) (by omega)) ?_ | refine SX_v (Val_mul rfl rfl (by omega) (by omega)) ?_ | refine SX_v (Val_quoN rfl rfl (by omega) (by omega) (by omega)) ?_ | refine SX_v (Val_remN rfl rfl (by omega) (by omega)) ?_ | refine SX_v (Val_min rfl rfl) ?_ | refine SX_v (Val_beq und_bool rfl rfl) ?_ | refine SX_v (Val_bne und_bool rfl rfl) ?_ | refine SX_w (SWl_box rfl rfl (fun b => SWl_x ?_)) | refine SX_w (SWl_alloc (fun b => SWl_x ?_)) | refine SX_w (SWl_stBn 0 rfl rfl rfl rfl rfl rfl (SWl_x ?_)) | refine SX_w (SWl_stBn 1 rfl rfl rfl rfl rfl rfl (SWl_x ?_)) | refine SX_w (SWl_stBn 2 rfl rfl rfl rfl rfl rfl (SWl_x ?_)) | refine SX_w (SWl_stBn 3 rfl rfl rfl rfl rfl rfl (SWl_x ?_)) | refine SX_w (SWl_stBn 4 rfl rfl rfl rfl rfl rfl (SWl_x ?_)) | refine SX_w (SWl_stBn 5 rfl rfl rfl rfl rfl rfl (SWl_x ?_)) | refine SX_w (SWl_stBn 6 rfl rfl rfl rfl rfl rfl (SWl_x ?_)) | refine SX_w (SWl_stBn 7 rfl rfl rfl rfl rfl rfl (SWl_x ?_)) | refine SX_v (Val_ldAB 0 rfl rfl rfl rfl) ?_ | refine SX_v (Val_ldAB 1 rfl rfl rfl rfl) ?_ | refine SX_v (Val_ldAB 2 rfl rfl rfl rfl) ?_ | refine SX_v (Val_ldAB 3 rfl rfl rfl rfl) ?_ | refine SX_v (Val_ldAB 4 rfl rfl rfl rfl) ?_ | refine SX_v (Val_ldAB 5 rfl rfl rfl rfl) ?_ | refine SX_v (Val_ldAB 6 rfl rfl rfl rfl) ?_ | refine SX_v (Val_ldAB 7 rfl rfl rfl rfl) ?_ | refine SX_w (SWl_stAB 0 rfl rfl rfl rfl (Lod.one _) rfl rfl (SWl_x ?_)) | refine SX_w (SWl_stAB 1 rfl rfl rfl rfl (Lod.one _) rfl rfl (SWl_x ?_)) | refine SX_w (SWl_stAB 2 rfl rfl rfl rfl (Lod.one _) rfl rfl (SWl_x ?_)) | refine SX_w (SWl_stAB 3 rfl rfl rfl rfl (Lod.one _) rfl rfl (SWl_x ?_)) | refine SX_w (SWl_stAB 4 rfl rfl rfl rfl (Lod.one _) rfl rfl (SWl_x ?_)) | refine SX_w (SWl_stAB 5 rfl rfl rfl rfl (Lod.one _) rfl rfl (SWl_x ?_)) | refine SX_w (SWl_stAB 6 rfl rfl rfl rfl (Lod.one _) rfl rfl (SWl_x ?_)) | refine SX_w (SWl_stAB 7 rfl rfl rfl rfl (Lod.one _) rfl rfl (SWl_x ?_)))
  · exact absurd rfl h
  · exfalso
    have e := congrArg List.length hx
    rw [tapMove_len, List.length_map, List.length_map, x.hn, a.hn] at e
    omega
  · have := tapTold_ge (a.l.map TreeL.pl) p t
    exfalso; omega
  · have hsame : x.l.map TreeL.pl = a.l.map TreeL.pl := hx.trans (tapMove_zero h)
    have hxn := len_of hsame
    refine SW_loop (fun q σ L => ∃ i : Nat, q = a.n - i ∧ i ≤ a.n ∧ L = [Own x, Own a] ∧ ∃ τ, σ = ups τ [(10, .int .i64 i), (6, x.val), (3, a.val)]) a.n (Imp.two 1 2 rfl rfl) ⟨0, rfl, by omega, rfl, ups_ex ⟨rfl, rfl, rfl, trivial⟩⟩ ?_
    rintro q σ L ⟨i, rfl, hi, rfl, τ, rfl⟩
    by_cases hlt : i < a.n
    · have hix : i < x.n := by omega
      have he : (x.nth i hix).list.l = (a.nth i hlt).list.l := by rw [← tat_nth x i hix, hsame, tat_nth a i hlt]
      repeat' (first | refine SX_run rfl rfl ?_ | refine SX_nil ?_ | refine SN_W ?_ | refine SW_seq ?_ | refine SW_regionX ?_ | refine SX_guardT rfl ?_ | refine SX_guardF rfl rfl ?_ | refine SX_guardU rfl ?_ | refine SX_gsplitD rfl rfl (fun h => ?_) (fun h => ?_) | refine SX_gsplitN rfl rfl (fun h => ?_) (fun h => ?_) | refine SX_gsplit rfl rfl (fun h => ?_) (fun h => ?_) | refine SW_condT rfl ?_ | refine SW_condF rfl ?_ | refine SW_condD rfl (fun h => ?_) (fun h => ?_) | refine SW_condN rfl (fun h => ?_) (fun h => ?_) | refine SW_condB rfl (fun h => ?_) (fun h => ?_) | refine SW_cond rfl (fun h => ?_) (fun h => ?_) | refine SW_block ?_ | refine SW_skip ?_ | refine SW_exit ?_ | refine SN_bl0 ?_ | refine SN_blS rfl ?_ | refine SW_ret ?_ | refine SX_v (Val_len rfl) ?_ | refine SX_v (Val_fa rfl) ?_ | refine SX_v (Val_add rfl rfl (by omega) (by omega)) ?_ | refine SX_v (Val_sub rfl rfl (by omega) (by omega)) ?_ | refine SX_v (Val_mul rfl rfl (by omega) (by omega)) ?_ | refine SX_v (Val_quoN rfl rfl (by omega) (by omega) (by omega)) ?_ | refine SX_v (Val_remN rfl rfl (by omega) (by omega)) ?_ | refine SX_v (Val_min rfl rfl) ?_ | refine SX_v (Val_beq und_bool rfl rfl) ?_ | refine SX_v (Val_bne und_bool rfl rfl) ?_)
      · refine SW_regionA mixed ?_
        refine SA_pv 0 (by kernel_rfl) rfl (fun _ => Val_pv rfl) rfl ?_; refine SA_pv 1 (by kernel_rfl) rfl (fun _ => Val_pv rfl) rfl ?_
        refine SA_ld 2 (by kernel_rfl) rfl (Val_ix (s := x) (Src.own 0 rfl) rfl rfl i rfl hix) rfl ?_
        refine SA_pv 3 (by kernel_rfl) rfl (fun _ => Val_fa rfl) rfl ?_
        refine SA_ld 4 (by kernel_rfl) rfl (Val_ldS (s := x) (Src.own 0 rfl) (j := 0) rfl rfl rfl hix (v := (x.nth i hix).list.val) rfl) rfl ?_
        refine SA_pv 5 (by kernel_rfl) rfl (fun _ => Val_pv rfl) rfl ?_; refine SA_pv 6 (by kernel_rfl) rfl (fun _ => Val_pv rfl) rfl ?_
        refine SA_ld 7 (by kernel_rfl) rfl (Val_ix (s := a) (Src.own 1 rfl) rfl rfl i rfl hlt) rfl ?_
        refine SA_pv 8 (by kernel_rfl) rfl (fun _ => Val_fa rfl) rfl ?_
        refine SA_ld 9 (by kernel_rfl) rfl (Val_ldS (s := a) (Src.own 1 rfl) (j := 0) rfl rfl rfl hlt (v := (a.nth i hlt).list.val) rfl) rfl ?_
        refine SA_only 10 (by kernel_rfl) rfl ?_
        (refine SX_at 65 ?_; refine SX_callA rfl (fun w hw => sameTreeT (x.nth i hix).list (a.nth i hlt).list w (Src.treeList (Src.elem (Src.own 0 rfl) i hix) w hw) (Src.treeList (Src.elem (Src.own 1 rfl) i hlt) w hw) he) ?_)
        refine SX_nil ?_
        refine SN_AN [] Imp.refl ?_
        refine SA_pv 11 (by kernel_rfl) rfl (fun _ => Val_pv rfl) rfl ?_
        refine SA_done (by kernel_rfl) ?_
        repeat' (first | refine SX_run rfl rfl ?_ | refine SX_nil ?_ | refine SN_W ?_ | refine SW_seq ?_ | refine SW_regionX ?_ | refine SX_guardT rfl ?_ | refine SX_guardF rfl rfl ?_ | refine SX_guardU rfl ?_ | refine SX_gsplitD rfl rfl (fun h => ?_) (fun h => ?_) | refine SX_gsplitN rfl rfl (fun h => ?_) (fun h => ?_) | refine SX_gsplit rfl rfl (fun h => ?_) (fun h => ?_) | refine SW_condT rfl ?_ | refine SW_condF rfl ?_ | refine SW_condD rfl (fun h => ?_) (fun h => ?_) | refine SW_condN rfl (fun h => ?_) (fun h => ?_) | refine SW_condB rfl (fun h => ?_) (fun h => ?_) | refine SW_cond rfl (fun h => ?_) (fun h => ?_) | refine SW_block ?_ | refine SW_skip ?_ | refine SW_exit ?_ | refine SN_bl0 ?_ | refine SN_blS rfl ?_ | refine SW_ret ?_ | refine SX_v (Val_len rfl) ?_ | refine SX_v (Val_fa rfl) ?_ | refine SX_v (Val_add rfl rfl (by omega) (by omega)) ?_ | refine SX_v (Val_sub rfl rfl (by omega) (by omega)) ?_ | refine SX_v (Val_mul rfl rfl (by omega) (by omega)) ?_ | refine SX_v (Val_quoN rfl rfl (by omega) (by omega) (by omega)) ?_ | refine SX_v (Val_remN rfl rfl (by omega) (by omega)) ?_ | refine SX_v (Val_min rfl rfl) ?_ | refine SX_v (Val_beq und_bool rfl rfl) ?_ | refine SX_v (Val_bne und_bool rfl rfl) ?_)
        exact SN_back (a.n - (i + 1)) (by omega) Imp.refl ⟨i + 1, rfl, by omega, rfl, ups_ex ⟨rfl, rfl, rfl, trivial⟩⟩
      · exfalso; omega
    · repeat' (first | refine SX_run rfl rfl ?_ | refine SX_nil ?_ | refine SN_W ?_ | refine SW_seq ?_ | refine SW_regionX ?_ | refine SX_guardT rfl ?_ | refine SX_guardF rfl rfl ?_ | refine SX_guardU rfl ?_ | refine SX_gsplitD rfl rfl (fun h => ?_) (fun h => ?_) | refine SX_gsplitN rfl rfl (fun h => ?_) (fun h => ?_) | refine SX_gsplit rfl rfl (fun h => ?_) (fun h => ?_) | refine SW_condT rfl ?_ | refine SW_condF rfl ?_ | refine SW_condD rfl (fun h => ?_) (fun h => ?_) | refine SW_condN rfl (fun h => ?_) (fun h => ?_) | refine SW_condB rfl (fun h => ?_) (fun h => ?_) | refine SW_cond rfl (fun h => ?_) (fun h => ?_) | refine SW_block ?_ | refine SW_skip ?_ | refine SW_exit ?_ | refine SN_bl0 ?_ | refine SN_blS rfl ?_ | refine SW_ret ?_ | refine SX_v (Val_len rfl) ?_ | refine SX_v (Val_fa rfl) ?_ | refine SX_v (Val_add rfl rfl (by omega) (by omega)) ?_ | refine SX_v (Val_sub rfl rfl (by omega) (by omega)) ?_ | refine SX_v (Val_mul rfl rfl (by omega) (by omega)) ?_ | refine SX_v (Val_quoN rfl rfl (by omega) (by omega) (by omega)) ?_ | refine SX_v (Val_remN rfl rfl (by omega) (by omega)) ?_ | refine SX_v (Val_min rfl rfl) ?_ | refine SX_v (Val_beq und_bool rfl rfl) ?_ | refine SX_v (Val_bne und_bool rfl rfl) ?_)
      · exfalso; omega
      exact SN_retB rfl rfl ⟨rfl, rfl⟩
  have hM : Moves (a.l.map TreeL.pl) p t := Classical.byContradiction fun e => h (not_moves e).2
  have hxn : x.n = a.n := by omega
  obtain ⟨hTx, hSum, hOth⟩ := hM.trees
  rw [← hx] at hTx hSum hOth
  have hmn := (do_moves hM).2
  have hpay := hM.1.pays
  obtain ⟨c1, c2, c3, c4, c5, c6⟩ := hM.1
  rw [List.length_map, a.hn] at c2 c4 c5
  have hp' : p.toNat < a.n := by omega
  have hpz : p = (p.toNat : Int) := by omega
  have hx0' := tat_nth a p.toNat hp'
  have hT : TreeOk (a.nth p.toNat hp').list.l := by rw [← hx0']; exact c1 _ (tat_mem (by rw [List.length_map, a.hn]; exact hp'))
  have hn5 : (a.nth p.toNat hp').list.n = 5 := by rw [← (a.nth p.toNat hp').list.hn]; exact hT.1
  have hli := c6.1
  have hres : t.res.toNat < (a.nth p.toNat hp').list.n := by omega
  have hrz : t.res = (t.res.toNat : Int) := by omega
  have hbo := hpay.1.bal t.res.toNat (by omega)
  unfold moveN at hmn
  rw [hx0', rat_nth _ _ hres] at hmn
  rw [hx0', rat_nth _ _ hres] at hbo
  obtain ⟨bal, hbal⟩ : ∃ bal, ((a.nth p.toNat hp').list.nth t.res.toNat hres).bal = bal := ⟨_, rfl⟩
  rw [hbal] at hmn hbo
  have hle : tapTold (a.l.map TreeL.pl) p t ≤ amtPart bal t.which := by rw [hmn]; exact (tapFlow_le t hbo).2
  have hrate : t.kind = 1 → tapTold (a.l.map TreeL.pl) p t ≤ t.rate := fun hk => by
    rw [hmn]
    unfold tapFlow
    rw [if_pos ⟨c3, hbo⟩, if_pos hk]
    exact Int.min_le_left _ _
  generalize tapTold (a.l.map TreeL.pl) p t = z0 at *
  refine SW_re (l := [(3, a.val), (4, .int .i64 p), (5, .pointer (some ⟨b5, 0, none⟩)), (6, x.val), (7, .int .i64 z0)]) (L' := [Own x, Blk b5 (Lod.cells t) 89, Own a]) (Imp.drop Imp.refl) ⟨rfl, rfl, rfl, rfl, rfl, trivial⟩ (fun τ => ?_)
  refine SW_regionA mixed ?_
  refine SA_pv 0 (by kernel_rfl) rfl (fun _ => Val_pv rfl) rfl ?_; refine SA_pv 1 (by kernel_rfl) rfl (fun _ => Val_pv rfl) rfl ?_
  refine SA_ld 2 (by kernel_rfl) rfl (Val_ix (s := a) (Src.own 2 rfl) rfl rfl p.toNat hpz hp') rfl ?_
  refine SA_pv 3 (by kernel_rfl) rfl (fun _ => Val_fa rfl) rfl ?_
  refine SA_ld 4 (by kernel_rfl) rfl (Val_ldS (s := a) (Src.own 2 rfl) (j := 0) rfl rfl rfl hp' (v := (a.nth p.toNat hp').list.val) rfl) rfl ?_
  refine SA_pv 5 (by kernel_rfl) rfl (fun _ => Val_fa rfl) rfl ?_
  refine SA_ld 6 (by kernel_rfl) rfl (Val_ldB 1 (v := .int .i64 t.res) rfl rfl rfl) rfl ?_
  refine SA_ld 7 (by kernel_rfl) rfl (Val_ix (s := (a.nth p.toNat hp').list) (Src.treeList (Src.elem (Src.own 2 rfl) p.toNat hp')) rfl rfl t.res.toNat hrz hres) rfl ?_
  refine SA_pv 8 (by kernel_rfl) rfl (fun _ => Val_fa rfl) rfl ?_
  refine SA_ld 9 (by kernel_rfl) rfl (Val_ldAS (s := (a.nth p.toNat hp').list) (Src.treeList (Src.elem (Src.own 2 rfl) p.toNat hp')) (j := 2) (vs := Lod.cells bal) rfl rfl rfl hres (by rw [← hbal]; rfl)) rfl ?_
  refine SA_pv 10 (by kernel_rfl) rfl (fun _ => Val_fa rfl) rfl ?_
  refine SA_ld 11 (by kernel_rfl) rfl (Val_ldB 1 (v := .int .i64 t.which) rfl rfl rfl) rfl ?_
  refine SA_only 12 (by kernel_rfl) rfl ?_
  (refine SX_at 66 ?_; refine SX_callA rfl (fun w _ => sAmtPart bal t.which w) ?_)
  refine SX_nil ?_
  refine SN_AN [] Imp.refl ?_
  refine SA_pv 13 (by kernel_rfl) rfl (fun _ => Val_pv rfl) rfl ?_
  refine SA_done (by kernel_rfl) ?_
  repeat' (first | refine SX_run rfl rfl ?_ | refine SX_nil ?_ | refine SN_W ?_ | refine SW_seq ?_ | refine SW_regionX ?_ | refine SX_guardT rfl ?_ | refine SX_guardF rfl rfl ?_ | refine SX_guardU rfl ?_ | refine SX_gsplitD rfl rfl (fun h => ?_) (fun h => ?_) | refine SX_gsplitN rfl rfl (fun h => ?_) (fun h => ?_) | refine SX_gsplit rfl rfl (fun h => ?_) (fun h => ?_) | refine SW_condT rfl ?_ | refine SW_condF rfl ?_ | refine SW_condD rfl (fun h => ?_) (fun h => ?_) | refine SW_condN rfl (fun h => ?_) (fun h => ?_) | refine SW_condB rfl (fun h => ?_) (fun h => ?_) | refine SW_cond rfl (fun h => ?_) (fun h => ?_) | refine SW_block ?_ | refine SW_skip ?_ | refine SW_exit ?_ | refine SN_bl0 ?_ | refine SN_blS rfl ?_ | refine SW_ret ?_ | refine SX_v (Val_len rfl) ?_ | refine SX_v (Val_fa rfl) ?_ | refine SX_v (Val_add rfl rfl (by omega) (by omega)) ?_ | refine SX_v (Val_sub rfl rfl (by omega) (by omega)) ?_ | refine SX_v (Val_mul rfl rfl (by omega) (by omega)) ?_ | refine SX_v (Val_quoN rfl rfl (by omega) (by omega) (by omega)) ?_ | refine SX_v (Val_remN rfl rfl (by omega) (by omega)) ?_ | refine SX_v (Val_min rfl rfl) ?_ | refine SX_v (Val_beq und_bool rfl rfl) ?_ | refine SX_v (Val_bne und_bool rfl rfl) ?_)
  refine SW_loop (fun q σ L => ∃ i : Nat, q = a.n - i ∧ i ≤ a.n ∧ L = [Own x, Blk b5 (Lod.cells t) 89, Own a] ∧ ∃ τ, σ = ups τ [(12, .int .i64 i), (11, .int .i64 (amtPart bal t.which)), (7, .int .i64 z0), (6, x.val), (5, .pointer (some ⟨b5, 0, none⟩)), (4, .int .i64 p), (3, a.val)]) a.n Imp.refl ⟨0, rfl, by omega, rfl, ups_ex ⟨rfl, rfl, rfl, rfl, rfl, rfl, rfl, trivial⟩⟩ ?_
  rintro q σ L ⟨i, rfl, hi, rfl, τ, rfl⟩
  by_cases hlt : i < a.n
  · have hix : i < x.n := by omega
    have hok : TreeOk (x.nth i hix).list.l := by rw [← tat_nth x i hix]; exact hTx _ (tat_mem (by rw [List.length_map, x.hn]; exact hix))
    repeat' (first | refine SX_run rfl rfl ?_ | refine SX_nil ?_ | refine SN_W ?_ | refine SW_seq ?_ | refine SW_regionX ?_ | refine SX_guardT rfl ?_ | refine SX_guardF rfl rfl ?_ | refine SX_guardU rfl ?_ | refine SX_gsplitD rfl rfl (fun h => ?_) (fun h => ?_) | refine SX_gsplitN rfl rfl (fun h => ?_) (fun h => ?_) | refine SX_gsplit rfl rfl (fun h => ?_) (fun h => ?_) | refine SW_condT rfl ?_ | refine SW_condF rfl ?_ | refine SW_condD rfl (fun h => ?_) (fun h => ?_) | refine SW_condN rfl (fun h => ?_) (fun h => ?_) | refine SW_condB rfl (fun h => ?_) (fun h => ?_) | refine SW_cond rfl (fun h => ?_) (fun h => ?_) | refine SW_block ?_ | refine SW_skip ?_ | refine SW_exit ?_ | refine SN_bl0 ?_ | refine SN_blS rfl ?_ | refine SW_ret ?_ | refine SX_v (Val_len rfl) ?_ | refine SX_v (Val_fa rfl) ?_ | refine SX_v (Val_add rfl rfl (by omega) (by omega)) ?_ | refine SX_v (Val_sub rfl rfl (by omega) (by omega)) ?_ | refine SX_v (Val_mul rfl rfl (by omega) (by omega)) ?_ | refine SX_v (Val_quoN rfl rfl (by omega) (by omega) (by omega)) ?_ | refine SX_v (Val_remN rfl rfl (by omega) (by omega)) ?_ | refine SX_v (Val_min rfl rfl) ?_ | refine SX_v (Val_beq und_bool rfl rfl) ?_ | refine SX_v (Val_bne und_bool rfl rfl) ?_)
    · refine SW_regionA mixed ?_
      by_cases h1 : (i : Int) = p
      · refine SA_pv 0 (by kernel_rfl) rfl (fun _ => Val_pv rfl) rfl ?_; refine SA_pv 1 (by kernel_rfl) rfl (fun _ => Val_pv rfl) rfl ?_
        refine SA_pv 2 (by kernel_rfl) rfl (fun _ => Val_neF rfl rfl h1) rfl ?_
        refine SA_pv 3 (by kernel_rfl) rfl (fun _ => Val_pv rfl) rfl ?_
        (first | refine SA_off 4 (by kernel_rfl) rfl rfl rfl ?_ | refine SA_offU 4 (by kernel_rfl) rfl rfl ?_); (first | refine SA_off 5 (by kernel_rfl) rfl rfl rfl ?_ | refine SA_offU 5 (by kernel_rfl) rfl rfl ?_); (first | refine SA_off 6 (by kernel_rfl) rfl rfl rfl ?_ | refine SA_offU 6 (by kernel_rfl) rfl rfl ?_); (first | refine SA_off 7 (by kernel_rfl) rfl rfl rfl ?_ | refine SA_offU 7 (by kernel_rfl) rfl rfl ?_)
        refine SA_pv 8 (by kernel_rfl) rfl (fun _ => Val_pv rfl) rfl ?_; refine SA_pv 9 (by kernel_rfl) rfl (fun _ => Val_pv rfl) rfl ?_
        (first | refine SA_off 10 (by kernel_rfl) rfl rfl rfl ?_ | refine SA_offU 10 (by kernel_rfl) rfl rfl ?_); (first | refine SA_off 11 (by kernel_rfl) rfl rfl rfl ?_ | refine SA_offU 11 (by kernel_rfl) rfl rfl ?_); (first | refine SA_off 12 (by kernel_rfl) rfl rfl rfl ?_ | refine SA_offU 12 (by kernel_rfl) rfl rfl ?_); (first | refine SA_off 13 (by kernel_rfl) rfl rfl rfl ?_ | refine SA_offU 13 (by kernel_rfl) rfl rfl ?_); (first | refine SA_off 14 (by kernel_rfl) rfl rfl rfl ?_ | refine SA_offU 14 (by kernel_rfl) rfl rfl ?_); (first | refine SA_off 15 (by kernel_rfl) rfl rfl rfl ?_ | refine SA_offU 15 (by kernel_rfl) rfl rfl ?_); (first | refine SA_off 16 (by kernel_rfl) rfl rfl rfl ?_ | refine SA_offU 16 (by kernel_rfl) rfl rfl ?_); (first | refine SA_off 17 (by kernel_rfl) rfl rfl rfl ?_ | refine SA_offU 17 (by kernel_rfl) rfl rfl ?_); (first | refine SA_off 18 (by kernel_rfl) rfl rfl rfl ?_ | refine SA_offU 18 (by kernel_rfl) rfl rfl ?_); (first | refine SA_off 19 (by kernel_rfl) rfl rfl rfl ?_ | refine SA_offU 19 (by kernel_rfl) rfl rfl ?_); (first | refine SA_off 20 (by kernel_rfl) rfl rfl rfl ?_ | refine SA_offU 20 (by kernel_rfl) rfl rfl ?_); (first | refine SA_off 21 (by kernel_rfl) rfl rfl rfl ?_ | refine SA_offU 21 (by kernel_rfl) rfl rfl ?_)
        refine SA_pv 22 (by kernel_rfl) rfl (fun _ => Val_pv rfl) rfl ?_; refine SA_pv 23 (by kernel_rfl) rfl (fun _ => Val_pv rfl) rfl ?_
        refine SA_pvg 24 (by kernel_rfl) rfl rfl (fun _ => Val_pv rfl) ?_; refine SA_pvg 25 (by kernel_rfl) rfl rfl (fun _ => Val_pv rfl) ?_
        refine SA_ldg 26 (by kernel_rfl) rfl rfl (Val_ix (s := x) (Src.own 0 rfl) rfl rfl i rfl hix) rfl ?_
        refine SA_pvg 27 (by kernel_rfl) rfl rfl (fun _ => Val_fa rfl) ?_
        refine SA_ldg 28 (by kernel_rfl) rfl rfl (Val_ldS (s := x) (Src.own 0 rfl) (j := 0) rfl rfl rfl hix (v := (x.nth i hix).list.val) rfl) rfl ?_
        refine SA_only 29 (by kernel_rfl) rfl ?_
        refine SX_guardT rfl ?_
        (refine SX_at 67 ?_; refine SX_callA rfl (fun w hw => sTreeT (x.nth i hix).list w (Src.treeList (Src.elem (Src.own 0 rfl) i hix) w hw) hok) ?_)
        refine SX_nil ?_
        refine SN_AN [] Imp.refl ?_
        refine SA_pvg 30 (by kernel_rfl) rfl rfl (fun _ => Val_pv rfl) ?_
        refine SA_pv 31 (by kernel_rfl) rfl (fun _ => Val_pv rfl) rfl ?_
        refine SA_done (by kernel_rfl) ?_
        repeat' (first | refine SX_run rfl rfl ?_ | refine SX_nil ?_ | refine SN_W ?_ | refine SW_seq ?_ | refine SW_regionX ?_ | refine SX_guardT rfl ?_ | refine SX_guardF rfl rfl ?_ | refine SX_guardU rfl ?_ | refine SX_gsplitD rfl rfl (fun h => ?_) (fun h => ?_) | refine SX_gsplitN rfl rfl (fun h => ?_) (fun h => ?_) | refine SX_gsplit rfl rfl (fun h => ?_) (fun h => ?_) | refine SW_condT rfl ?_ | refine SW_condF rfl ?_ | refine SW_condD rfl (fun h => ?_) (fun h => ?_) | refine SW_condN rfl (fun h => ?_) (fun h => ?_) | refine SW_condB rfl (fun h => ?_) (fun h => ?_) | refine SW_cond rfl (fun h => ?_) (fun h => ?_) | refine SW_block ?_ | refine SW_skip ?_ | refine SW_exit ?_ | refine SN_bl0 ?_ | refine SN_blS rfl ?_ | refine SW_ret ?_ | refine SX_v (Val_len rfl) ?_ | refine SX_v (Val_fa rfl) ?_ | refine SX_v (Val_add rfl rfl (by omega) (by omega)) ?_ | refine SX_v (Val_sub rfl rfl (by omega) (by omega)) ?_ | refine SX_v (Val_mul rfl rfl (by omega) (by omega)) ?_ | refine SX_v (Val_quoN rfl rfl (by omega) (by omega) (by omega)) ?_ | refine SX_v (Val_remN rfl rfl (by omega) (by omega)) ?_ | refine SX_v (Val_min rfl rfl) ?_ | refine SX_v (Val_beq und_bool rfl rfl) ?_ | refine SX_v (Val_bne und_bool rfl rfl) ?_)
        exact SN_back (a.n - (i + 1)) (by omega) Imp.refl ⟨i + 1, rfl, by omega, rfl, ups_ex ⟨rfl, rfl, rfl, rfl, rfl, rfl, rfl, trivial⟩⟩
      by_cases h2 : (i : Int) = t.toPart
      · refine SA_pv 0 (by kernel_rfl) rfl (fun _ => Val_pv rfl) rfl ?_; refine SA_pv 1 (by kernel_rfl) rfl (fun _ => Val_pv rfl) rfl ?_
        refine SA_pv 2 (by kernel_rfl) rfl (fun _ => Val_neT rfl rfl h1) rfl ?_
        refine SA_pv 3 (by kernel_rfl) rfl (fun _ => Val_pv rfl) rfl ?_
        refine SA_pvg 4 (by kernel_rfl) rfl rfl (fun _ => Val_pv rfl) ?_
        refine SA_pvg 5 (by kernel_rfl) rfl rfl (fun _ => Val_fa rfl) ?_
        refine SA_ldg 6 (by kernel_rfl) rfl rfl (Val_ldB 1 (v := .int .i64 t.toPart) rfl rfl rfl) rfl ?_
        refine SA_pvg 7 (by kernel_rfl) rfl rfl (fun _ => Val_neF rfl rfl h2) ?_
        refine SA_pv 8 (by kernel_rfl) rfl (fun _ => Val_pv rfl) rfl ?_; refine SA_pv 9 (by kernel_rfl) rfl (fun _ => Val_pv rfl) rfl ?_
        (first | refine SA_off 10 (by kernel_rfl) rfl rfl rfl ?_ | refine SA_offU 10 (by kernel_rfl) rfl rfl ?_); (first | refine SA_off 11 (by kernel_rfl) rfl rfl rfl ?_ | refine SA_offU 11 (by kernel_rfl) rfl rfl ?_); (first | refine SA_off 12 (by kernel_rfl) rfl rfl rfl ?_ | refine SA_offU 12 (by kernel_rfl) rfl rfl ?_); (first | refine SA_off 13 (by kernel_rfl) rfl rfl rfl ?_ | refine SA_offU 13 (by kernel_rfl) rfl rfl ?_); (first | refine SA_off 14 (by kernel_rfl) rfl rfl rfl ?_ | refine SA_offU 14 (by kernel_rfl) rfl rfl ?_); (first | refine SA_off 15 (by kernel_rfl) rfl rfl rfl ?_ | refine SA_offU 15 (by kernel_rfl) rfl rfl ?_); (first | refine SA_off 16 (by kernel_rfl) rfl rfl rfl ?_ | refine SA_offU 16 (by kernel_rfl) rfl rfl ?_); (first | refine SA_off 17 (by kernel_rfl) rfl rfl rfl ?_ | refine SA_offU 17 (by kernel_rfl) rfl rfl ?_); (first | refine SA_off 18 (by kernel_rfl) rfl rfl rfl ?_ | refine SA_offU 18 (by kernel_rfl) rfl rfl ?_); (first | refine SA_off 19 (by kernel_rfl) rfl rfl rfl ?_ | refine SA_offU 19 (by kernel_rfl) rfl rfl ?_); (first | refine SA_off 20 (by kernel_rfl) rfl rfl rfl ?_ | refine SA_offU 20 (by kernel_rfl) rfl rfl ?_); (first | refine SA_off 21 (by kernel_rfl) rfl rfl rfl ?_ | refine SA_offU 21 (by kernel_rfl) rfl rfl ?_)
        refine SA_pv 22 (by kernel_rfl) rfl (fun _ => Val_pv rfl) rfl ?_; refine SA_pv 23 (by kernel_rfl) rfl (fun _ => Val_pv rfl) rfl ?_
        refine SA_pvg 24 (by kernel_rfl) rfl rfl (fun _ => Val_pv rfl) ?_; refine SA_pvg 25 (by kernel_rfl) rfl rfl (fun _ => Val_pv rfl) ?_
        refine SA_ldg 26 (by kernel_rfl) rfl rfl (Val_ix (s := x) (Src.own 0 rfl) rfl rfl i rfl hix) rfl ?_
        refine SA_pvg 27 (by kernel_rfl) rfl rfl (fun _ => Val_fa rfl) ?_
        refine SA_ldg 28 (by kernel_rfl) rfl rfl (Val_ldS (s := x) (Src.own 0 rfl) (j := 0) rfl rfl rfl hix (v := (x.nth i hix).list.val) rfl) rfl ?_
        refine SA_only 29 (by kernel_rfl) rfl ?_
        refine SX_guardT rfl ?_
        (refine SX_at 67 ?_; refine SX_callA rfl (fun w hw => sTreeT (x.nth i hix).list w (Src.treeList (Src.elem (Src.own 0 rfl) i hix) w hw) hok) ?_)
        refine SX_nil ?_
        refine SN_AN [] Imp.refl ?_
        refine SA_pvg 30 (by kernel_rfl) rfl rfl (fun _ => Val_pv rfl) ?_
        refine SA_pv 31 (by kernel_rfl) rfl (fun _ => Val_pv rfl) rfl ?_
        refine SA_done (by kernel_rfl) ?_
        repeat' (first | refine SX_run rfl rfl ?_ | refine SX_nil ?_ | refine SN_W ?_ | refine SW_seq ?_ | refine SW_regionX ?_ | refine SX_guardT rfl ?_ | refine SX_guardF rfl rfl ?_ | refine SX_guardU rfl ?_ | refine SX_gsplitD rfl rfl (fun h => ?_) (fun h => ?_) | refine SX_gsplitN rfl rfl (fun h => ?_) (fun h => ?_) | refine SX_gsplit rfl rfl (fun h => ?_) (fun h => ?_) | refine SW_condT rfl ?_ | refine SW_condF rfl ?_ | refine SW_condD rfl (fun h => ?_) (fun h => ?_) | refine SW_condN rfl (fun h => ?_) (fun h => ?_) | refine SW_condB rfl (fun h => ?_) (fun h => ?_) | refine SW_cond rfl (fun h => ?_) (fun h => ?_) | refine SW_block ?_ | refine SW_skip ?_ | refine SW_exit ?_ | refine SN_bl0 ?_ | refine SN_blS rfl ?_ | refine SW_ret ?_ | refine SX_v (Val_len rfl) ?_ | refine SX_v (Val_fa rfl) ?_ | refine SX_v (Val_add rfl rfl (by omega) (by omega)) ?_ | refine SX_v (Val_sub rfl rfl (by omega) (by omega)) ?_ | refine SX_v (Val_mul rfl rfl (by omega) (by omega)) ?_ | refine SX_v (Val_quoN rfl rfl (by omega) (by omega) (by omega)) ?_ | refine SX_v (Val_remN rfl rfl (by omega) (by omega)) ?_ | refine SX_v (Val_min rfl rfl) ?_ | refine SX_v (Val_beq und_bool rfl rfl) ?_ | refine SX_v (Val_bne und_bool rfl rfl) ?_)
        exact SN_back (a.n - (i + 1)) (by omega) Imp.refl ⟨i + 1, rfl, by omega, rfl, ups_ex ⟨rfl, rfl, rfl, rfl, rfl, rfl, rfl, trivial⟩⟩
      · have he : (x.nth i hix).list.l = (a.nth i hlt).list.l := by rw [← tat_nth x i hix, hOth i h1 h2, tat_nth a i hlt]
        refine SA_pv 0 (by kernel_rfl) rfl (fun _ => Val_pv rfl) rfl ?_; refine SA_pv 1 (by kernel_rfl) rfl (fun _ => Val_pv rfl) rfl ?_
        refine SA_pv 2 (by kernel_rfl) rfl (fun _ => Val_neT rfl rfl h1) rfl ?_
        refine SA_pv 3 (by kernel_rfl) rfl (fun _ => Val_pv rfl) rfl ?_
        refine SA_pvg 4 (by kernel_rfl) rfl rfl (fun _ => Val_pv rfl) ?_
        refine SA_pvg 5 (by kernel_rfl) rfl rfl (fun _ => Val_fa rfl) ?_
        refine SA_ldg 6 (by kernel_rfl) rfl rfl (Val_ldB 1 (v := .int .i64 t.toPart) rfl rfl rfl) rfl ?_
        refine SA_pvg 7 (by kernel_rfl) rfl rfl (fun _ => Val_neT rfl rfl h2) ?_
        refine SA_pv 8 (by kernel_rfl) rfl (fun _ => Val_pv rfl) rfl ?_; refine SA_pv 9 (by kernel_rfl) rfl (fun _ => Val_pv rfl) rfl ?_
        refine SA_pvg 10 (by kernel_rfl) rfl rfl (fun _ => Val_pv rfl) ?_; refine SA_pvg 11 (by kernel_rfl) rfl rfl (fun _ => Val_pv rfl) ?_
        refine SA_ldg 12 (by kernel_rfl) rfl rfl (Val_ix (s := x) (Src.own 0 rfl) rfl rfl i rfl hix) rfl ?_
        refine SA_pvg 13 (by kernel_rfl) rfl rfl (fun _ => Val_fa rfl) ?_
        refine SA_ldg 14 (by kernel_rfl) rfl rfl (Val_ldS (s := x) (Src.own 0 rfl) (j := 0) rfl rfl rfl hix (v := (x.nth i hix).list.val) rfl) rfl ?_
        refine SA_pvg 15 (by kernel_rfl) rfl rfl (fun _ => Val_pv rfl) ?_; refine SA_pvg 16 (by kernel_rfl) rfl rfl (fun _ => Val_pv rfl) ?_
        refine SA_ldg 17 (by kernel_rfl) rfl rfl (Val_ix (s := a) (Src.own 2 rfl) rfl rfl i rfl hlt) rfl ?_
        refine SA_pvg 18 (by kernel_rfl) rfl rfl (fun _ => Val_fa rfl) ?_
        refine SA_ldg 19 (by kernel_rfl) rfl rfl (Val_ldS (s := a) (Src.own 2 rfl) (j := 0) rfl rfl rfl hlt (v := (a.nth i hlt).list.val) rfl) rfl ?_
        refine SA_only 20 (by kernel_rfl) rfl ?_
        refine SX_guardT rfl ?_
        (refine SX_at 65 ?_; refine SX_callA rfl (fun w hw => sameTreeT (x.nth i hix).list (a.nth i hlt).list w (Src.treeList (Src.elem (Src.own 0 rfl) i hix) w hw) (Src.treeList (Src.elem (Src.own 2 rfl) i hlt) w hw) he) ?_)
        refine SX_nil ?_
        refine SN_AN [] Imp.refl ?_
        refine SA_pvg 21 (by kernel_rfl) rfl rfl (fun _ => Val_pv rfl) ?_
        refine SA_pv 22 (by kernel_rfl) rfl (fun _ => Val_pv rfl) rfl ?_; refine SA_pv 23 (by kernel_rfl) rfl (fun _ => Val_pv rfl) rfl ?_
        refine SA_pvg 24 (by kernel_rfl) rfl rfl (fun _ => Val_pv rfl) ?_; refine SA_pvg 25 (by kernel_rfl) rfl rfl (fun _ => Val_pv rfl) ?_
        refine SA_ldg 26 (by kernel_rfl) rfl rfl (Val_ix (s := x) (Src.own 0 rfl) rfl rfl i rfl hix) rfl ?_
        refine SA_pvg 27 (by kernel_rfl) rfl rfl (fun _ => Val_fa rfl) ?_
        refine SA_ldg 28 (by kernel_rfl) rfl rfl (Val_ldS (s := x) (Src.own 0 rfl) (j := 0) rfl rfl rfl hix (v := (x.nth i hix).list.val) rfl) rfl ?_
        refine SA_only 29 (by kernel_rfl) rfl ?_
        refine SX_guardT rfl ?_
        (refine SX_at 67 ?_; refine SX_callA rfl (fun w hw => sTreeT (x.nth i hix).list w (Src.treeList (Src.elem (Src.own 0 rfl) i hix) w hw) hok) ?_)
        refine SX_nil ?_
        refine SN_AN [] Imp.refl ?_
        refine SA_pvg 30 (by kernel_rfl) rfl rfl (fun _ => Val_pv rfl) ?_
        refine SA_pv 31 (by kernel_rfl) rfl (fun _ => Val_pv rfl) rfl ?_
        refine SA_done (by kernel_rfl) ?_
        repeat' (first | refine SX_run rfl rfl ?_ | refine SX_nil ?_ | refine SN_W ?_ | refine SW_seq ?_ | refine SW_regionX ?_ | refine SX_guardT rfl ?_ | refine SX_guardF rfl rfl ?_ | refine SX_guardU rfl ?_ | refine SX_gsplitD rfl rfl (fun h => ?_) (fun h => ?_) | refine SX_gsplitN rfl rfl (fun h => ?_) (fun h => ?_) | refine SX_gsplit rfl rfl (fun h => ?_) (fun h => ?_) | refine SW_condT rfl ?_ | refine SW_condF rfl ?_ | refine SW_condD rfl (fun h => ?_) (fun h => ?_) | refine SW_condN rfl (fun h => ?_) (fun h => ?_) | refine SW_condB rfl (fun h => ?_) (fun h => ?_) | refine SW_cond rfl (fun h => ?_) (fun h => ?_) | refine SW_block ?_ | refine SW_skip ?_ | refine SW_exit ?_ | refine SN_bl0 ?_ | refine SN_blS rfl ?_ | refine SW_ret ?_ | refine SX_v (Val_len rfl) ?_ | refine SX_v (Val_fa rfl) ?_ | refine SX_v (Val_add rfl rfl (by omega) (by omega)) ?_ | refine SX_v (Val_sub rfl rfl (by omega) (by omega)) ?_ | refine SX_v (Val_mul rfl rfl (by omega) (by omega)) ?_ | refine SX_v (Val_quoN rfl rfl (by omega) (by omega) (by omega)) ?_ | refine SX_v (Val_remN rfl rfl (by omega) (by omega)) ?_ | refine SX_v (Val_min rfl rfl) ?_ | refine SX_v (Val_beq und_bool rfl rfl) ?_ | refine SX_v (Val_bne und_bool rfl rfl) ?_)
        exact SN_back (a.n - (i + 1)) (by omega) Imp.refl ⟨i + 1, rfl, by omega, rfl, ups_ex ⟨rfl, rfl, rfl, rfl, rfl, rfl, rfl, trivial⟩⟩
    · exfalso; omega
  · repeat' (first | refine SX_run rfl rfl ?_ | refine SX_nil ?_ | refine SN_W ?_ | refine SW_seq ?_ | refine SW_regionX ?_ | refine SX_guardT rfl ?_ | refine SX_guardF rfl rfl ?_ | refine SX_guardU rfl ?_ | refine SX_gsplitD rfl rfl (fun h => ?_) (fun h => ?_) | refine SX_gsplitN rfl rfl (fun h => ?_) (fun h => ?_) | refine SX_gsplit rfl rfl (fun h => ?_) (fun h => ?_) | refine SW_condT rfl ?_ | refine SW_condF rfl ?_ | refine SW_condD rfl (fun h => ?_) (fun h => ?_) | refine SW_condN rfl (fun h => ?_) (fun h => ?_) | refine SW_condB rfl (fun h => ?_) (fun h => ?_) | refine SW_cond rfl (fun h => ?_) (fun h => ?_) | refine SW_block ?_ | refine SW_skip ?_ | refine SW_exit ?_ | refine SN_bl0 ?_ | refine SN_blS rfl ?_ | refine SW_ret ?_ | refine SX_v (Val_len rfl) ?_ | refine SX_v (Val_fa rfl) ?_ | refine SX_v (Val_add rfl rfl (by omega) (by omega)) ?_ | refine SX_v (Val_sub rfl rfl (by omega) (by omega)) ?_ | refine SX_v (Val_mul rfl rfl (by omega) (by omega)) ?_ | refine SX_v (Val_quoN rfl rfl (by omega) (by omega) (by omega)) ?_ | refine SX_v (Val_remN rfl rfl (by omega) (by omega)) ?_ | refine SX_v (Val_min rfl rfl) ?_ | refine SX_v (Val_beq und_bool rfl rfl) ?_ | refine SX_v (Val_bne und_bool rfl rfl) ?_)
    · exfalso; omega
    refine SW_regionA mixed ?_
    refine SA_pv 0 (by kernel_rfl) rfl (fun _ => Val_pv rfl) rfl ?_; refine SA_pv 2 (by kernel_rfl) rfl (fun _ => Val_pv rfl) rfl ?_
    refine SA_only 1 (by kernel_rfl) rfl ?_
    (refine SX_at 42 ?_; refine SX_callA rfl (fun w hw => iSumV x (treesSum (a.l.map TreeL.pl)) w (by exact Src.own 0 rfl w hw) hSum) ?_)
    refine SX_nil ?_
    refine SN_AN [] Imp.refl ?_
    refine SA_only 3 (by kernel_rfl) rfl ?_
    (refine SX_at 40 ?_; refine SX_callA rfl (fun w hw => sTreesSum a w (by exact Src.own 2 rfl w hw)) ?_)
    refine SX_nil ?_
    refine SN_AN [] Imp.refl ?_
    by_cases hk : t.kind = 1
    · refine SA_pv 4 (by kernel_rfl) rfl (fun _ => Val_seqT (a := treesSum (a.l.map TreeL.pl)) rfl rfl) rfl ?_
      refine SA_pv 5 (by kernel_rfl) rfl (fun _ => Val_pv rfl) rfl ?_
      refine SA_pvg 6 (by kernel_rfl) rfl rfl (fun _ => Val_pv rfl) ?_; refine SA_pvg 7 (by kernel_rfl) rfl rfl (fun _ => Val_pv rfl) ?_
      refine SA_pvg 8 (by kernel_rfl) rfl rfl (fun _ => Val_leT rfl rfl hle) ?_
      refine SA_pv 9 (by kernel_rfl) rfl (fun _ => Val_pv rfl) rfl ?_; refine SA_pv 10 (by kernel_rfl) rfl (fun _ => Val_pv rfl) rfl ?_
      refine SA_pvg 11 (by kernel_rfl) rfl rfl (fun _ => Val_fa rfl) ?_
      refine SA_ldg 12 (by kernel_rfl) rfl rfl (Val_ldB 1 (v := .int .i64 t.kind) rfl rfl rfl) rfl ?_
      refine SA_pvg 13 (by kernel_rfl) rfl rfl (fun _ => Val_neF rfl rfl hk) ?_
      refine SA_pvg 14 (by kernel_rfl) rfl rfl (fun _ => Val_pv rfl) ?_; refine SA_pvg 15 (by kernel_rfl) rfl rfl (fun _ => Val_pv rfl) ?_
      refine SA_pvg 16 (by kernel_rfl) rfl rfl (fun _ => Val_fa rfl) ?_
      refine SA_ldg 17 (by kernel_rfl) rfl rfl (Val_ldB 1 (v := .int .i64 t.rate) rfl rfl rfl) rfl ?_
      refine SA_pvg 18 (by kernel_rfl) rfl rfl (fun _ => Val_leT rfl rfl (hrate hk)) ?_
      refine SA_pvg 19 (by kernel_rfl) rfl rfl (fun _ => Val_pv rfl) ?_
      refine SA_pv 20 (by kernel_rfl) rfl (fun _ => Val_pv rfl) rfl ?_; refine SA_pv 21 (by kernel_rfl) rfl (fun _ => Val_pv rfl) rfl ?_
      refine SA_pvg 22 (by kernel_rfl) rfl rfl (fun _ => Val_pv rfl) ?_
      refine SA_ldg 23 (by kernel_rfl) rfl rfl (Val_ldAB 1 (vs := Lod.cells t) rfl rfl rfl rfl) rfl ?_
      refine SA_pvg 24 (by kernel_rfl) rfl rfl (fun _ => Val_pv rfl) ?_; refine SA_pvg 25 (by kernel_rfl) rfl rfl (fun _ => Val_pv rfl) ?_
      refine SA_ldg 26 (by kernel_rfl) rfl rfl (Val_ix (s := a) (Src.own 2 rfl) rfl rfl p.toNat hpz hp') rfl ?_
      refine SA_pvg 27 (by kernel_rfl) rfl rfl (fun _ => Val_fa rfl) ?_
      refine SA_ldg 28 (by kernel_rfl) rfl rfl (Val_ldS (s := a) (Src.own 2 rfl) (j := 0) rfl rfl rfl hp' (v := (a.nth p.toNat hp').list.val) rfl) rfl ?_
      refine SA_pvg 29 (by kernel_rfl) rfl rfl (fun _ => Val_fa rfl) ?_
      refine SA_ldg 30 (by kernel_rfl) rfl rfl (Val_ldB 1 (v := .int .i64 t.res) rfl rfl rfl) rfl ?_
      refine SA_ldg 31 (by kernel_rfl) rfl rfl (Val_ix (s := (a.nth p.toNat hp').list) (Src.treeList (Src.elem (Src.own 2 rfl) p.toNat hp')) rfl rfl t.res.toNat hrz hres) rfl ?_
      refine SA_pvg 32 (by kernel_rfl) rfl rfl (fun _ => Val_fa rfl) ?_
      refine SA_ldg 33 (by kernel_rfl) rfl rfl (Val_ldAS (s := (a.nth p.toNat hp').list) (Src.treeList (Src.elem (Src.own 2 rfl) p.toNat hp')) (j := 2) (vs := Lod.cells bal) rfl rfl rfl hres (by rw [← hbal]; rfl)) rfl ?_
      refine SA_only 34 (by kernel_rfl) rfl ?_
      refine SX_guardT rfl ?_
      (refine SX_at 68 ?_; refine SX_callA rfl (fun w _ => iTapFlow t bal w) ?_)
      refine SX_nil ?_
      refine SN_AN [] Imp.refl ?_
      refine SA_pvg 35 (by kernel_rfl) rfl rfl (fun _ => Val_eqT rfl rfl hmn) ?_
      refine SA_pv 36 (by kernel_rfl) rfl (fun _ => Val_pv rfl) rfl ?_; refine SA_pv 37 (by kernel_rfl) rfl (fun _ => Val_pv rfl) rfl ?_
      refine SA_done (by kernel_rfl) ?_
      repeat' (first | refine SX_run rfl rfl ?_ | refine SX_nil ?_ | refine SN_W ?_ | refine SW_seq ?_ | refine SW_regionX ?_ | refine SX_guardT rfl ?_ | refine SX_guardF rfl rfl ?_ | refine SX_guardU rfl ?_ | refine SX_gsplitD rfl rfl (fun h => ?_) (fun h => ?_) | refine SX_gsplitN rfl rfl (fun h => ?_) (fun h => ?_) | refine SX_gsplit rfl rfl (fun h => ?_) (fun h => ?_) | refine SW_condT rfl ?_ | refine SW_condF rfl ?_ | refine SW_condD rfl (fun h => ?_) (fun h => ?_) | refine SW_condN rfl (fun h => ?_) (fun h => ?_) | refine SW_condB rfl (fun h => ?_) (fun h => ?_) | refine SW_cond rfl (fun h => ?_) (fun h => ?_) | refine SW_block ?_ | refine SW_skip ?_ | refine SW_exit ?_ | refine SN_bl0 ?_ | refine SN_blS rfl ?_ | refine SW_ret ?_ | refine SX_v (Val_len rfl) ?_ | refine SX_v (Val_fa rfl) ?_ | refine SX_v (Val_add rfl rfl (by omega) (by omega)) ?_ | refine SX_v (Val_sub rfl rfl (by omega) (by omega)) ?_ | refine SX_v (Val_mul rfl rfl (by omega) (by omega)) ?_ | refine SX_v (Val_quoN rfl rfl (by omega) (by omega) (by omega)) ?_ | refine SX_v (Val_remN rfl rfl (by omega) (by omega)) ?_ | refine SX_v (Val_min rfl rfl) ?_ | refine SX_v (Val_beq und_bool rfl rfl) ?_ | refine SX_v (Val_bne und_bool rfl rfl) ?_)
      exact SN_retB rfl rfl ⟨rfl, rfl⟩
    · refine SA_pv 4 (by kernel_rfl) rfl (fun _ => Val_seqT (a := treesSum (a.l.map TreeL.pl)) rfl rfl) rfl ?_
      refine SA_pv 5 (by kernel_rfl) rfl (fun _ => Val_pv rfl) rfl ?_
      refine SA_pvg 6 (by kernel_rfl) rfl rfl (fun _ => Val_pv rfl) ?_; refine SA_pvg 7 (by kernel_rfl) rfl rfl (fun _ => Val_pv rfl) ?_
      refine SA_pvg 8 (by kernel_rfl) rfl rfl (fun _ => Val_leT rfl rfl hle) ?_
      refine SA_pv 9 (by kernel_rfl) rfl (fun _ => Val_pv rfl) rfl ?_; refine SA_pv 10 (by kernel_rfl) rfl (fun _ => Val_pv rfl) rfl ?_
      refine SA_pvg 11 (by kernel_rfl) rfl rfl (fun _ => Val_fa rfl) ?_
      refine SA_ldg 12 (by kernel_rfl) rfl rfl (Val_ldB 1 (v := .int .i64 t.kind) rfl rfl rfl) rfl ?_
      refine SA_pvg 13 (by kernel_rfl) rfl rfl (fun _ => Val_neT rfl rfl hk) ?_
      refine SA_pvg 14 (by kernel_rfl) rfl rfl (fun _ => Val_pv rfl) ?_
      (first | refine SA_off 15 (by kernel_rfl) rfl rfl rfl ?_ | refine SA_offU 15 (by kernel_rfl) rfl rfl ?_); (first | refine SA_off 16 (by kernel_rfl) rfl rfl rfl ?_ | refine SA_offU 16 (by kernel_rfl) rfl rfl ?_); (first | refine SA_off 17 (by kernel_rfl) rfl rfl rfl ?_ | refine SA_offU 17 (by kernel_rfl) rfl rfl ?_); (first | refine SA_off 18 (by kernel_rfl) rfl rfl rfl ?_ | refine SA_offU 18 (by kernel_rfl) rfl rfl ?_)
      refine SA_pvg 19 (by kernel_rfl) rfl rfl (fun _ => Val_pv rfl) ?_
      refine SA_pv 20 (by kernel_rfl) rfl (fun _ => Val_pv rfl) rfl ?_; refine SA_pv 21 (by kernel_rfl) rfl (fun _ => Val_pv rfl) rfl ?_
      refine SA_pvg 22 (by kernel_rfl) rfl rfl (fun _ => Val_pv rfl) ?_
      refine SA_ldg 23 (by kernel_rfl) rfl rfl (Val_ldAB 1 (vs := Lod.cells t) rfl rfl rfl rfl) rfl ?_
      refine SA_pvg 24 (by kernel_rfl) rfl rfl (fun _ => Val_pv rfl) ?_; refine SA_pvg 25 (by kernel_rfl) rfl rfl (fun _ => Val_pv rfl) ?_
      refine SA_ldg 26 (by kernel_rfl) rfl rfl (Val_ix (s := a) (Src.own 2 rfl) rfl rfl p.toNat hpz hp') rfl ?_
      refine SA_pvg 27 (by kernel_rfl) rfl rfl (fun _ => Val_fa rfl) ?_
      refine SA_ldg 28 (by kernel_rfl) rfl rfl (Val_ldS (s := a) (Src.own 2 rfl) (j := 0) rfl rfl rfl hp' (v := (a.nth p.toNat hp').list.val) rfl) rfl ?_
      refine SA_pvg 29 (by kernel_rfl) rfl rfl (fun _ => Val_fa rfl) ?_
      refine SA_ldg 30 (by kernel_rfl) rfl rfl (Val_ldB 1 (v := .int .i64 t.res) rfl rfl rfl) rfl ?_
      refine SA_ldg 31 (by kernel_rfl) rfl rfl (Val_ix (s := (a.nth p.toNat hp').list) (Src.treeList (Src.elem (Src.own 2 rfl) p.toNat hp')) rfl rfl t.res.toNat hrz hres) rfl ?_
      refine SA_pvg 32 (by kernel_rfl) rfl rfl (fun _ => Val_fa rfl) ?_
      refine SA_ldg 33 (by kernel_rfl) rfl rfl (Val_ldAS (s := (a.nth p.toNat hp').list) (Src.treeList (Src.elem (Src.own 2 rfl) p.toNat hp')) (j := 2) (vs := Lod.cells bal) rfl rfl rfl hres (by rw [← hbal]; rfl)) rfl ?_
      refine SA_only 34 (by kernel_rfl) rfl ?_
      refine SX_guardT rfl ?_
      (refine SX_at 68 ?_; refine SX_callA rfl (fun w _ => iTapFlow t bal w) ?_)
      refine SX_nil ?_
      refine SN_AN [] Imp.refl ?_
      refine SA_pvg 35 (by kernel_rfl) rfl rfl (fun _ => Val_eqT rfl rfl hmn) ?_
      refine SA_pv 36 (by kernel_rfl) rfl (fun _ => Val_pv rfl) rfl ?_; refine SA_pv 37 (by kernel_rfl) rfl (fun _ => Val_pv rfl) rfl ?_
      refine SA_done (by kernel_rfl) ?_
      repeat' (first | refine SX_run rfl rfl ?_ | refine SX_nil ?_ | refine SN_W ?_ | refine SW_seq ?_ | refine SW_regionX ?_ | refine SX_guardT rfl ?_ | refine SX_guardF rfl rfl ?_ | refine SX_guardU rfl ?_ | refine SX_gsplitD rfl rfl (fun h => ?_) (fun h => ?_) | refine SX_gsplitN rfl rfl (fun h => ?_) (fun h => ?_) | refine SX_gsplit rfl rfl (fun h => ?_) (fun h => ?_) | refine SW_condT rfl ?_ | refine SW_condF rfl ?_ | refine SW_condD rfl (fun h => ?_) (fun h => ?_) | refine SW_condN rfl (fun h => ?_) (fun h => ?_) | refine SW_condB rfl (fun h => ?_) (fun h => ?_) | refine SW_cond rfl (fun h => ?_) (fun h => ?_) | refine SW_block ?_ | refine SW_skip ?_ | refine SW_exit ?_ | refine SN_bl0 ?_ | refine SN_blS rfl ?_ | refine SW_ret ?_ | refine SX_v (Val_len rfl) ?_ | refine SX_v (Val_fa rfl) ?_ | refine SX_v (Val_add rfl rfl (by omega) (by omega)) ?_ | refine SX_v (Val_sub rfl rfl (by omega) (by omega)) ?_ | refine SX_v (Val_mul rfl rfl (by omega) (by omega)) ?_ | refine SX_v (Val_quoN rfl rfl (by omega) (by omega) (by omega)) ?_ | refine SX_v (Val_remN rfl rfl (by omega) (by omega)) ?_ | refine SX_v (Val_min rfl rfl) ?_ | refine SX_v (Val_beq und_bool rfl rfl) ?_ | refine SX_v (Val_bne und_bool rfl rfl) ?_)
      exact SN_retB rfl rfl ⟨rfl, rfl⟩
end Go.Proofs.Ytldgapfdjpefkaa.E
