/-
  Right things: the model's look and the program's against one plain look.
-/
import Derived.Test.YtldgapfdjpefkaaIm
import Derived.Test.YtldgapfdjpefkaaSl
namespace Go.Proofs.Ytldgapfdjpefkaa.E
open Go Go.RowKit
set_option maxRecDepth 100000
set_option maxHeartbeats 4000000

def okLinks (l : List Int) : Prop := ∀ x ∈ l, -1 ≤ x ∧ x ≤ 9
def okData (l : List Int) : Prop := ∀ x ∈ l, 0 ≤ x ∧ x ≤ 999
def okQueue (l : List Msg) : Prop := ∀ x ∈ l, (x.src = -1 ∨ 0 ≤ x.src ∧ x.src ≤ 29999) ∧ 0 ≤ x.num ∧ x.num ≤ 999
instance (l : List Int) : Decidable (okLinks l) := by unfold okLinks; infer_instance
instance (l : List Int) : Decidable (okData l) := by unfold okData; infer_instance
instance (l : List Msg) : Decidable (okQueue l) := by unfold okQueue; infer_instance
def ListsOk (o : Obj) : Prop := okLinks o.links ∧ okData o.data ∧ okQueue o.queue ∧ o.links.length = 2 ∧ (o.data.length : Int) = (if o.kind = 2 then o.pages else 0) ∧ o.queue.length ≤ (if o.kind = 3 then 2 else 0)
instance (o : Obj) : Decidable (ListsOk o) := by unfold ListsOk; infer_instance

/-- A right thing. -/
def ObjOk (o : Obj) : Prop := (0 ≤ o.gen ∧ o.gen ≤ 999) ∧
  if o.kind = 0 then o = ⟨o.gen, 0, 0, 0, 0, 0, 0, 0, 0, false, [], [], []⟩
  else (1 ≤ o.kind ∧ o.kind ≤ 4) ∧ (-1 ≤ o.inn ∧ o.inn ≤ 9) ∧ (0 ≤ o.res ∧ o.res ≤ 4) ∧ (0 ≤ o.til ∧ o.til ≤ 1000000) ∧ (0 ≤ o.pages ∧ o.pages ≤ 8) ∧ ListsOk o ∧
    if o.kind = 4 then (o.wait = 0 ∨ 0 ≤ o.wait - 1 ∧ o.wait - 1 ≤ 29999) ∧ (-1 ≤ o.got ∧ o.got ≤ 999) ∧ (0 ≤ o.ran ∧ o.ran ≤ 1000000) else o.wait = 0 ∧ o.got = 0 ∧ o.ran = 0
instance (o : Obj) : Decidable (ObjOk o) := by unfold ObjOk; infer_instance
/-- What an int may be. -/
abbrev InR (z : Int) : Prop := -9223372036854775808 ≤ z ∧ z ≤ 9223372036854775807
theorem wrap_sub1 {z : Int} (h : InR z) : (0 ≤ IntKind.i64.wrap (z - 1) ∧ IntKind.i64.wrap (z - 1) ≤ 29999) ↔ (0 ≤ z - 1 ∧ z - 1 ≤ 29999) := by
  rw [IntKind.wrap_i64]; omega

def ObjL.bare (g : Int) : ObjL := ⟨g, 0, 0, 0, 0, 0, 0, 0, 0, false, Sl.zero, Sl.zero, Sl.zero⟩
theorem ObjL.bare_own (g : Int) (w : World) : Lod.own w (ObjL.bare g) := ObjL.zero_own w

theorem pl_eqs (x : ObjL) : x.pl.gen = x.gen ∧ x.pl.kind = x.kind ∧ x.pl.inn = x.inn ∧ x.pl.res = x.res ∧ x.pl.til = x.til ∧ x.pl.pages = x.pages ∧ x.pl.wait = x.wait ∧ x.pl.got = x.got ∧ x.pl.ran = x.ran ∧ x.pl.mark = x.mark := ⟨rfl, rfl, rfl, rfl, rfl, rfl, rfl, rfl, rfl, rfl⟩
theorem bare_pl (x : ObjL) : (ObjL.bare x.gen).pl = ⟨x.pl.gen, 0, 0, 0, 0, 0, 0, 0, 0, false, [], [], []⟩ := rfl

theorem capOf {α : Type} [Lod α] {m : Nat} {w : World} {s : Sl α} (h : Src m w [] s) : s.n ≤ 9223372036854775807 := by
  have := h w (St.start w)
  exact Nat.le_trans this.2.1 this.2.2.1
section
variable {α : Type} (p : α → Prop)
theorem all_step {s : Sl α} {i : Nat} (hi : i < s.n) (h : ∀ x ∈ s.l.take i, p x) (e : p (s.nth i hi)) : ∀ x ∈ s.l.take (i + 1), p x := by
  rw [List.take_succ_eq_append_getElem (by rw [s.hn]; exact hi)]
  intro x hx
  rcases List.mem_append.1 hx with hx | hx
  · exact h x hx
  · rw [List.mem_singleton] at hx; subst hx; exact e
theorem all_full {s : Sl α} (h : ∀ x ∈ s.l.take s.n, p x) : ∀ x ∈ s.l, p x := by
  rwa [List.take_of_length_le (by rw [s.hn]; exact Nat.le_refl _)] at h
theorem not_all {s : Sl α} {i : Nat} (hi : i < s.n) (e : ¬ p (s.nth i hi)) : ¬ ∀ x ∈ s.l, p x := fun h => e (h _ (List.getElem_mem (by rw [s.hn]; exact hi)))
end

theorem sameObj {m m' : Nat} (x y : ObjL) (w : World) (hx : Lod.rd m w x) (hy : Lod.rd m' w y) : FB 97 [agg x, agg y] w (decide (x.pl = y.pl)) := by
  have hx1 := Lod.rd_le (Nat.le_max_left m m') hx
  have hy1 := Lod.rd_le (Nat.le_max_right m m') hy
  refine F_of Try.func97 rfl rfl ?_
  repeat' (first | refine SX_run rfl rfl ?_ | refine SX_nil ?_ | refine SN_W ?_ | refine SW_seq ?_ | refine SW_regionX ?_ | refine SX_v (Val_fa rfl) ?_ | refine SX_v (Val_ldB 0 rfl rfl rfl) ?_ | refine SX_v (Val_ldB 1 rfl rfl rfl) ?_ | refine SX_v (Val_ldB 2 rfl rfl rfl) ?_ | refine SX_v (Val_ldB 3 rfl rfl rfl) ?_ | refine SX_v (Val_ldB 4 rfl rfl rfl) ?_ | refine SX_v (Val_ldB 5 rfl rfl rfl) ?_ | refine SX_v (Val_ldB 6 rfl rfl rfl) ?_ | refine SX_v (Val_ldB 7 rfl rfl rfl) ?_ | (refine SX_at 134 ?_; refine SX_callA rfl (fun w hw => slEqInt _ _ w (by first | exact Src.links (Src.arg hx1) w hw | exact Src.data (Src.arg hx1) w hw) (by first | exact Src.links (Src.arg hy1) w hw | exact Src.data (Src.arg hy1) w hw)) ?_) | (refine SX_at 135 ?_; refine SX_callA rfl (fun w hw => slEqMsg x.queue y.queue w (Src.queue (Src.arg hx1) w hw) (Src.queue (Src.arg hy1) w hw)) ?_) | refine SX_guardT rfl ?_ | refine SX_guardF rfl rfl ?_ | refine SX_guardU rfl ?_ | refine SX_gsplitD rfl rfl (fun h => ?_) (fun h => ?_) | refine SX_gsplitN rfl rfl (fun h => ?_) (fun h => ?_) | refine SX_gsplit rfl rfl (fun h => ?_) (fun h => ?_) | refine SW_condT rfl ?_ | refine SW_condF rfl ?_ | refine SW_condD rfl (fun h => ?_) (fun h => ?_) | refine SW_condN rfl (fun h => ?_) (fun h => ?_) | refine SW_condB rfl (fun h => ?_) (fun h => ?_) | refine SW_cond rfl (fun h => ?_) (fun h => ?_) | refine SW_block ?_ | refine SW_skip ?_ | refine SW_exit ?_ | refine SN_bl0 ?_ | refine SN_blS rfl ?_ | refine SW_ret ?_ | refine SX_v (Val_len rfl) ?_ | refine SX_v (Val_fa rfl) ?_ | refine SX_v (Val_add rfl rfl (by omega) (by omega)) ?_ | refine SX_v (Val_sub rfl rfl (by omega) (by omega)) ?_ | refine SX_v (Val_mul rfl rfl (by omega) (by omega)) ?_ | refine SX_v (Val_quoN rfl rfl (by omega) (by omega) (by omega)) ?_ | refine SX_v (Val_remN rfl rfl (by omega) (by omega)) ?_ | refine SX_v (Val_min rfl rfl) ?_ | refine SX_v (Val_beq und_bool rfl rfl) ?_ | refine SX_v (Val_bne und_bool rfl rfl) ?_ | refine SX_w (SWl_box rfl rfl (fun b => SWl_x ?_)) | refine SX_w (SWl_alloc (fun b => SWl_x ?_)) | refine SX_w (SWl_stBn 0 rfl rfl rfl rfl rfl rfl (SWl_x ?_)) | refine SX_w (SWl_stBn 1 rfl rfl rfl rfl rfl rfl (SWl_x ?_)) | refine SX_w (SWl_stBn 2 rfl rfl rfl rfl rfl rfl (SWl_x ?_)) | refine SX_w (SWl_stBn 3 rfl rfl rfl rfl rfl rfl (SWl_x ?_)) | refine SX_w (SWl_stBn 4 rfl rfl rfl rfl rfl rfl (SWl_x ?_)) | refine SX_w (SWl_stBn 5 rfl rfl rfl rfl rfl rfl (SWl_x ?_)) | refine SX_w (SWl_stBn 6 rfl rfl rfl rfl rfl rfl (SWl_x ?_)) | refine SX_w (SWl_stBn 7 rfl rfl rfl rfl rfl rfl (SWl_x ?_)) | refine SX_v (Val_ldAB 0 rfl rfl rfl rfl) ?_ | refine SX_v (Val_ldAB 1 rfl rfl rfl rfl) ?_ | refine SX_v (Val_ldAB 2 rfl rfl rfl rfl) ?_ | refine SX_v (Val_ldAB 3 rfl rfl rfl rfl) ?_ | refine SX_v (Val_ldAB 4 rfl rfl rfl rfl) ?_ | refine SX_v (Val_ldAB 5 rfl rfl rfl rfl) ?_ | refine SX_v (Val_ldAB 6 rfl rfl rfl rfl) ?_ | refine SX_v (Val_ldAB 7 rfl rfl rfl rfl) ?_ | refine SX_w (SWl_stAB 0 rfl rfl rfl rfl (Lod.one _) rfl rfl (SWl_x ?_)) | refine SX_w (SWl_stAB 1 rfl rfl rfl rfl (Lod.one _) rfl rfl (SWl_x ?_)) | refine SX_w (SWl_stAB 2 rfl rfl rfl rfl (Lod.one _) rfl rfl (SWl_x ?_)) | refine SX_w (SWl_stAB 3 rfl rfl rfl rfl (Lod.one _) rfl rfl (SWl_x ?_)) | refine SX_w (SWl_stAB 4 rfl rfl rfl rfl (Lod.one _) rfl rfl (SWl_x ?_)) | refine SX_w (SWl_stAB 5 rfl rfl rfl rfl (Lod.one _) rfl rfl (SWl_x ?_)) | refine SX_w (SWl_stAB 6 rfl rfl rfl rfl (Lod.one _) rfl rfl (SWl_x ?_)) | refine SX_w (SWl_stAB 7 rfl rfl rfl rfl (Lod.one _) rfl rfl (SWl_x ?_)))
  all_goals
    refine SN_retB rfl rfl ⟨?_, rfl⟩
    congr 1
    cases x; cases y; simp_all [ObjL.pl]
theorem objOk_iff (x : ObjL) : ObjOk x.pl ↔ (0 ≤ x.gen ∧ x.gen ≤ 999) ∧
  if x.kind = 0 then x.inn = 0 ∧ x.res = 0 ∧ x.til = 0 ∧ x.pages = 0 ∧ x.wait = 0 ∧ x.got = 0 ∧ x.ran = 0 ∧ x.mark = false ∧ x.links.n = 0 ∧ x.data.n = 0 ∧ x.queue.n = 0
  else (1 ≤ x.kind ∧ x.kind ≤ 4) ∧ (-1 ≤ x.inn ∧ x.inn ≤ 9) ∧ (0 ≤ x.res ∧ x.res ≤ 4) ∧ (0 ≤ x.til ∧ x.til ≤ 1000000) ∧ (0 ≤ x.pages ∧ x.pages ≤ 8) ∧
    (okLinks x.links.l ∧ okData x.data.l ∧ okQueue x.queue.l ∧ x.links.n = 2 ∧ (x.data.n : Int) = (if x.kind = 2 then x.pages else 0) ∧ x.queue.n ≤ (if x.kind = 3 then 2 else 0)) ∧
    if x.kind = 4 then (x.wait = 0 ∨ 0 ≤ x.wait - 1 ∧ x.wait - 1 ≤ 29999) ∧ (-1 ≤ x.got ∧ x.got ≤ 999) ∧ (0 ≤ x.ran ∧ x.ran ≤ 1000000) else x.wait = 0 ∧ x.got = 0 ∧ x.ran = 0 := by
  have n1 : x.links.l.length = x.links.n := x.links.hn
  have n2 : x.data.l.length = x.data.n := x.data.hn
  have n3 : x.queue.l.length = x.queue.n := x.queue.hn
  have z1 := List.length_eq_zero_iff (l := x.links.l)
  have z2 := List.length_eq_zero_iff (l := x.data.l)
  have z3 := List.length_eq_zero_iff (l := x.queue.l)
  unfold ObjOk ListsOk
  simp only [ObjL.pl, Obj.mk.injEq, true_and, n1, n2, n3]
  grind
end Go.Proofs.Ytldgapfdjpefkaa.E
