/-
  Right arenas.
-/
import Derived.Test.YtandadfmmohhhaaOb
import Derived.Test.YtandadfmmohhhaaLaw
namespace Go.Proofs.Ytandadfmmohhhaa.E
open Go Go.RowKit
set_option maxRecDepth 100000
set_option maxHeartbeats 4000000

def obj0 : Obj := ⟨0, 0, 0, 0, 0, 0, 0, 0, 0, false, [], [], []⟩
/-- The thing at a place. -/
def oat (l : List Obj) (i : Nat) : Obj := l.getD i obj0
def SlotOk (l : List Obj) (i : Nat) : Prop := ObjOk (oat l i) ∧ (0 < i → (oat l i).kind ≠ 0 → 0 ≤ (oat l i).inn → (oat l (oat l i).inn.toNat).kind ≠ 0) ∧ ∀ k ∈ (oat l i).links, 0 ≤ k → (oat l k.toNat).kind ≠ 0
instance (l : List Obj) (i : Nat) : Decidable (SlotOk l i) := by unfold SlotOk; infer_instance
/-- A right arena. -/
def ArenaOk (l : List Obj) : Prop := l.length = 10 ∧ (oat l 0).kind = 1 ∧ (oat l 0).inn = -1 ∧ (oat l 0).til = 1000000 ∧ ∀ i, i < l.length → SlotOk l i
instance (l : List Obj) : Decidable (ArenaOk l) := by unfold ArenaOk; infer_instance
theorem oat_nth (a : Sl ObjL) (i : Nat) (hi : i < a.n) : oat (a.l.map ObjL.pl) i = (a.nth i hi).pl := by
  unfold oat Sl.nth
  rw [List.getD_eq_getElem?_getD, List.getElem?_map, List.getElem?_eq_getElem (by rw [a.hn]; exact hi)]
  rfl
theorem ObjOk.inn {o : Obj} (h : ObjOk o) : -1 ≤ o.inn ∧ o.inn ≤ 9 := by
  unfold ObjOk at h
  obtain ⟨_, h⟩ := h
  split at h
  · rw [h]; exact ⟨by show (-1 : Int) ≤ 0; omega, by show (0 : Int) ≤ 9; omega⟩
  · exact h.2.1
theorem ObjOk.links {o : Obj} (h : ObjOk o) : ∀ k ∈ o.links, -1 ≤ k ∧ k ≤ 9 := by
  unfold ObjOk at h
  obtain ⟨_, h⟩ := h
  split at h
  · rw [h]; intro k hk; cases hk
  · exact h.2.2.2.2.2.1.1
abbrev RgA (l : List Obj) : Prop := ∀ o ∈ l, InR o.wait
theorem rgA_nth {a : Sl ObjL} (h : RgA (a.l.map ObjL.pl)) (i : Nat) (hi : i < a.n) : InR (a.nth i hi).wait := h (a.nth i hi).pl (List.mem_map.2 ⟨_, List.getElem_mem (by rw [a.hn]; exact hi), rfl⟩)
theorem rgA_of {a : Sl ObjL} (h : Rg.rg a) : RgA (a.l.map ObjL.pl) := by
  intro o ho
  obtain ⟨x, hx, rfl⟩ := List.mem_map.1 ho
  exact h x hx
theorem rgO_of {x y : ObjL} (h : y.pl = x.pl) (g : Rg.rg x) : InR y.wait := by
  have e : y.wait = x.wait := congrArg Obj.wait h
  rw [e]; exact g
theorem rgA_of2 {x y : Sl ObjL} (h : y.l.map ObjL.pl = x.l.map ObjL.pl) (g : Rg.rg x) : RgA (y.l.map ObjL.pl) := h ▸ rgA_of g
/-- What was looked at so far is right. -/
theorem slots_step {l : List Obj} {i : Nat} (h : ∀ j, j < i → SlotOk l j) (e : SlotOk l i) : ∀ j, j < i + 1 → SlotOk l j := fun j hj => by
  rcases Nat.lt_succ_iff_lt_or_eq.1 hj with h1 | rfl
  · exact h j h1
  · exact e

theorem iArenaOk {m : Nat} (a : Sl ObjL) (w : World) (ha : Lod.rd m w a) (hr : RgA (a.l.map ObjL.pl)) : FB 22 [a.val] w (decide (ArenaOk (a.l.map ObjL.pl))) := by
  have hcap : a.n ≤ maxLen := Nat.le_trans ha.2.1 ha.2.2.1
  unfold maxLen at hcap
  have sa : ∀ L, Src m w L a := fun L => Src.arg ha
  have hlen : (a.l.map ObjL.pl).length = a.n := by rw [List.length_map, a.hn]
  have ho : ∀ i (hi : i < a.n), oat (a.l.map ObjL.pl) i = (a.nth i hi).pl := oat_nth a
  refine F_of Try.func22 rfl rfl ?_
  repeat' (first | refine SX_v (Val_ix (sa _) rfl rfl 0 rfl (by omega)) ?_ | refine SX_v (Val_ldS (sa _) rfl rfl rfl (by omega) rfl) ?_ | refine SX_run rfl rfl ?_ | refine SX_nil ?_ | refine SN_W ?_ | refine SW_seq ?_ | refine SW_regionX ?_ | refine SX_guardT rfl ?_ | refine SX_guardF rfl rfl ?_ | refine SX_guardU rfl ?_ | refine SX_gsplitD rfl rfl (fun h => ?_) (fun h => ?_) | refine SX_gsplitN rfl rfl (fun h => ?_) (fun h => ?_) | refine SX_gsplit rfl rfl (fun h => ?_) (fun h => ?_) | refine SW_condT rfl ?_ | refine SW_condF rfl ?_ | refine SW_condD rfl (fun h => ?_) (fun h => ?_) | refine SW_condN rfl (fun h => ?_) (fun h => ?_) | refine SW_condB rfl (fun h => ?_) (fun h => ?_) | refine SW_cond rfl (fun h => ?_) (fun h => ?_) | refine SW_block ?_ | refine SW_skip ?_ | refine SW_exit ?_ | refine SN_bl0 ?_ | refine SN_blS rfl ?_ | refine SW_ret ?_ | refine SX_v (Val_len rfl) ?_ | refine SX_v (Val_fa rfl) ?_ | refine SX_v (Val_add rfl rfl (by omega) (by omega)) ?_ | refine SX_v (Val_sub rfl rfl (by omega) (by omega)) ?_ | refine SX_v (Val_mul rfl rfl (by omega) (by omega)) ?_ | refine SX_v (Val_quoN rfl rfl (by omega) (by omega) (by omega)) ?_ | refine SX_v (Val_remN rfl rfl (by omega) (by omega)) ?_ | refine SX_v (Val_min rfl rfl) ?_ | refine SX_v (Val_beq und_bool rfl rfl) ?_ | refine SX_v (Val_bne und_bool rfl rfl) ?_)
  all_goals try (
    refine SN_retB rfl rfl ⟨?_, rfl⟩
    congr 1
    refine (decide_eq_false fun e => ?_).symm
    unfold ArenaOk at e
    have h0 := fun h => ho 0 h
    simp only [ObjL.pl] at h0
    grind)
  have hn : a.n = 10 := by omega
  have h0 := ho 0 (by omega)
  have hroot : (a.nth 0 (by omega)).kind = 1 ∧ (a.nth 0 (by omega)).inn = -1 ∧ (a.nth 0 (by omega)).til = 1000000 := by refine ⟨?_, ?_, ?_⟩ <;> omega
  have hO : ArenaOk (a.l.map ObjL.pl) ↔ ∀ i, i < a.n → SlotOk (a.l.map ObjL.pl) i := by
    unfold ArenaOk
    rw [hlen, h0]
    exact ⟨fun h => h.2.2.2.2, fun h => ⟨hn, hroot.1, hroot.2.1, hroot.2.2, h⟩⟩
  refine SW_loop (fun k σ L => ∃ i : Nat, k = a.n - i ∧ i ≤ a.n ∧ L = [] ∧ (∀ j, j < i → SlotOk (a.l.map ObjL.pl) j) ∧ ∃ τ, σ = ups τ [(33, .int .i64 i), (32, .int .i64 a.n), (31, a.val), (0, a.val)]) a.n Imp.refl ⟨0, rfl, Nat.zero_le _, rfl, fun j hj => absurd hj (Nat.not_lt_zero j), ups_ex ⟨rfl, rfl, rfl, rfl, trivial⟩⟩ ?_
  rintro k σ L ⟨i, rfl, hi, rfl, hpre, τ, rfl⟩
  by_cases hlt : i < a.n
  · have hoi := ho i hlt
    have hlk : (a.nth i hlt).pl.links = (a.nth i hlt).links.l := rfl
    have s1 := fun L => Src.links (Src.elem (sa L) i hlt)
    have c1 := capOf (s1 [])
    have hobj : ObjOk (a.nth i hlt).pl → (-1 ≤ (a.nth i hlt).inn ∧ (a.nth i hlt).inn ≤ 9) := ObjOk.inn
    repeat' (first | refine SW_cutR 6 (fun σ L => L = [Blk b (Lod.cells (a.nth i hlt)) 30] ∧ (ObjOk (a.nth i hlt).pl ∧ (0 < i → (a.nth i hlt).pl.kind ≠ 0 → 0 ≤ (a.nth i hlt).pl.inn → (oat (a.l.map ObjL.pl) (a.nth i hlt).pl.inn.toNat).kind ≠ 0)) ∧ ∃ τ, σ = ups τ [(4, .pointer (some ⟨b, 0, none⟩)), (33, .int .i64 i), (32, .int .i64 a.n), (31, a.val), (0, a.val)]) ?_ ?_ | refine SX_run rfl rfl ?_ | refine SX_nil ?_ | refine SN_W ?_ | refine SW_seq ?_ | refine SW_regionX ?_ | refine SX_v (Val_fa rfl) ?_ | refine SX_v (Val_ldB 0 rfl rfl rfl) ?_ | refine SX_v (Val_ldB 1 rfl rfl rfl) ?_ | refine SX_v (Val_ldB 2 rfl rfl rfl) ?_ | refine SX_v (Val_ldB 3 rfl rfl rfl) ?_ | refine SX_v (Val_ldB 4 rfl rfl rfl) ?_ | refine SX_v (Val_ldB 5 rfl rfl rfl) ?_ | refine SX_v (Val_ldB 6 rfl rfl rfl) ?_ | refine SX_v (Val_ldB 7 rfl rfl rfl) ?_ | refine SW_cutR 6 (fun σ L => L = [Blk b (Lod.cells (a.nth i hlt)) 30] ∧ (ObjOk (a.nth i hlt).pl ∧ (0 < i → (a.nth i hlt).pl.kind ≠ 0 → 0 ≤ (a.nth i hlt).pl.inn → (oat (a.l.map ObjL.pl) (a.nth i hlt).pl.inn.toNat).kind ≠ 0)) ∧ ∃ τ, σ = ups τ [(4, .pointer (some ⟨b, 0, none⟩)), (33, .int .i64 i), (32, .int .i64 a.n), (31, a.val), (0, a.val)]) ?_ ?_ | refine SX_v (Val_ix (sa _) rfl rfl i rfl hlt) ?_ | refine SX_v (Val_ldAE (sa _) rfl rfl hlt) ?_ | (refine SX_at 17 ?_; refine SX_callA rfl (fun w hw => iObjOk (a.nth i hlt) w (Src.elem (sa _) i hlt w hw) (rgA_nth hr i hlt)) ?_) | refine SX_v (Val_ix (sa _) rfl rfl (a.nth i hlt).inn.toNat (by have := ObjOk.inn ‹ObjOk (a.nth i hlt).pl›; simp only [ObjL.pl] at this; omega) (by have := ObjOk.inn ‹ObjOk (a.nth i hlt).pl›; simp only [ObjL.pl] at this; omega)) ?_ | refine SX_v (Val_ldS (sa _) rfl rfl rfl (by have := ObjOk.inn ‹ObjOk (a.nth i hlt).pl›; simp only [ObjL.pl] at this; omega) rfl) ?_ | refine SX_guardT rfl ?_ | refine SX_guardF rfl rfl ?_ | refine SX_guardU rfl ?_ | refine SX_gsplitD rfl rfl (fun h => ?_) (fun h => ?_) | refine SX_gsplitN rfl rfl (fun h => ?_) (fun h => ?_) | refine SX_gsplit rfl rfl (fun h => ?_) (fun h => ?_) | refine SW_condT rfl ?_ | refine SW_condF rfl ?_ | refine SW_condD rfl (fun h => ?_) (fun h => ?_) | refine SW_condN rfl (fun h => ?_) (fun h => ?_) | refine SW_condB rfl (fun h => ?_) (fun h => ?_) | refine SW_cond rfl (fun h => ?_) (fun h => ?_) | refine SW_block ?_ | refine SW_skip ?_ | refine SW_exit ?_ | refine SN_bl0 ?_ | refine SN_blS rfl ?_ | refine SW_ret ?_ | refine SX_v (Val_len rfl) ?_ | refine SX_v (Val_fa rfl) ?_ | refine SX_v (Val_add rfl rfl (by omega) (by omega)) ?_ | refine SX_v (Val_sub rfl rfl (by omega) (by omega)) ?_ | refine SX_v (Val_mul rfl rfl (by omega) (by omega)) ?_ | refine SX_v (Val_quoN rfl rfl (by omega) (by omega) (by omega)) ?_ | refine SX_v (Val_remN rfl rfl (by omega) (by omega)) ?_ | refine SX_v (Val_min rfl rfl) ?_ | refine SX_v (Val_beq und_bool rfl rfl) ?_ | refine SX_v (Val_bne und_bool rfl rfl) ?_ | refine SX_w (SWl_box rfl rfl (fun b => SWl_x ?_)) | refine SX_w (SWl_alloc (fun b => SWl_x ?_)) | refine SX_w (SWl_stBn 0 rfl rfl rfl rfl rfl rfl (SWl_x ?_)) | refine SX_w (SWl_stBn 1 rfl rfl rfl rfl rfl rfl (SWl_x ?_)) | refine SX_w (SWl_stBn 2 rfl rfl rfl rfl rfl rfl (SWl_x ?_)) | refine SX_w (SWl_stBn 3 rfl rfl rfl rfl rfl rfl (SWl_x ?_)) | refine SX_w (SWl_stBn 4 rfl rfl rfl rfl rfl rfl (SWl_x ?_)) | refine SX_w (SWl_stBn 5 rfl rfl rfl rfl rfl rfl (SWl_x ?_)) | refine SX_w (SWl_stBn 6 rfl rfl rfl rfl rfl rfl (SWl_x ?_)) | refine SX_w (SWl_stBn 7 rfl rfl rfl rfl rfl rfl (SWl_x ?_)) | refine SX_v (Val_ldAB 0 rfl rfl rfl rfl) ?_ | refine SX_v (Val_ldAB 1 rfl rfl rfl rfl) ?_ | refine SX_v (Val_ldAB 2 rfl rfl rfl rfl) ?_ | refine SX_v (Val_ldAB 3 rfl rfl rfl rfl) ?_ | refine SX_v (Val_ldAB 4 rfl rfl rfl rfl) ?_ | refine SX_v (Val_ldAB 5 rfl rfl rfl rfl) ?_ | refine SX_v (Val_ldAB 6 rfl rfl rfl rfl) ?_ | refine SX_v (Val_ldAB 7 rfl rfl rfl rfl) ?_ | refine SX_w (SWl_stAB 0 rfl rfl rfl rfl (Lod.one _) rfl rfl (SWl_x ?_)) | refine SX_w (SWl_stAB 1 rfl rfl rfl rfl (Lod.one _) rfl rfl (SWl_x ?_)) | refine SX_w (SWl_stAB 2 rfl rfl rfl rfl (Lod.one _) rfl rfl (SWl_x ?_)) | refine SX_w (SWl_stAB 3 rfl rfl rfl rfl (Lod.one _) rfl rfl (SWl_x ?_)) | refine SX_w (SWl_stAB 4 rfl rfl rfl rfl (Lod.one _) rfl rfl (SWl_x ?_)) | refine SX_w (SWl_stAB 5 rfl rfl rfl rfl (Lod.one _) rfl rfl (SWl_x ?_)) | refine SX_w (SWl_stAB 6 rfl rfl rfl rfl (Lod.one _) rfl rfl (SWl_x ?_)) | refine SX_w (SWl_stAB 7 rfl rfl rfl rfl (Lod.one _) rfl rfl (SWl_x ?_)))
    all_goals try (
      refine SN_retB rfl rfl ⟨?_, rfl⟩
      congr 1
      refine (decide_eq_false fun e => ?_).symm
      have e1 := hO.1 e i hlt
      unfold SlotOk at e1
      rw [hoi] at e1
      first
        | exact ‹¬ObjOk _› e1.1
        | (have hkk := ho (a.nth i hlt).inn.toNat (by have := ObjOk.inn e1.1; simp only [ObjL.pl] at this; omega)
           exact e1.2.1 (by omega) ‹_› ‹_› ((congrArg Obj.kind hkk).trans ‹(a.nth (a.nth i hlt).inn.toNat _).kind = 0›)))
    all_goals try (
      refine SN_mid Imp.refl ⟨rfl, ⟨‹_›, ?_⟩, ups_ex ⟨rfl, rfl, rfl, rfl, rfl, trivial⟩⟩
      intro q1 q2 q3
      first
        | (exfalso; omega)
        | exact absurd ‹(a.nth i hlt).kind = 0› q2
        | exact absurd q3 ‹_›
        | (have hkk := ho (a.nth i hlt).inn.toNat (by have := ObjOk.inn ‹ObjOk (a.nth i hlt).pl›; simp only [ObjL.pl] at this; omega)
           exact fun q => ‹¬(a.nth (a.nth i hlt).inn.toNat _).kind = 0› ((congrArg Obj.kind hkk).symm.trans q)))
    · refine Later.go ?_
      rintro σ L ⟨rfl, ⟨hok, hin⟩, τ, rfl⟩
      repeat' (first | refine SX_run rfl rfl ?_ | refine SX_nil ?_ | refine SN_W ?_ | refine SW_seq ?_ | refine SW_regionX ?_ | refine SX_v (Val_fa rfl) ?_ | refine SX_v (Val_ldB 0 rfl rfl rfl) ?_ | refine SX_v (Val_ldB 1 rfl rfl rfl) ?_ | refine SX_v (Val_ldB 2 rfl rfl rfl) ?_ | refine SX_v (Val_ldB 3 rfl rfl rfl) ?_ | refine SX_v (Val_ldB 4 rfl rfl rfl) ?_ | refine SX_v (Val_ldB 5 rfl rfl rfl) ?_ | refine SX_v (Val_ldB 6 rfl rfl rfl) ?_ | refine SX_v (Val_ldB 7 rfl rfl rfl) ?_ | refine SX_guardT rfl ?_ | refine SX_guardF rfl rfl ?_ | refine SX_guardU rfl ?_ | refine SX_gsplitD rfl rfl (fun h => ?_) (fun h => ?_) | refine SX_gsplitN rfl rfl (fun h => ?_) (fun h => ?_) | refine SX_gsplit rfl rfl (fun h => ?_) (fun h => ?_) | refine SW_condT rfl ?_ | refine SW_condF rfl ?_ | refine SW_condD rfl (fun h => ?_) (fun h => ?_) | refine SW_condN rfl (fun h => ?_) (fun h => ?_) | refine SW_condB rfl (fun h => ?_) (fun h => ?_) | refine SW_cond rfl (fun h => ?_) (fun h => ?_) | refine SW_block ?_ | refine SW_skip ?_ | refine SW_exit ?_ | refine SN_bl0 ?_ | refine SN_blS rfl ?_ | refine SW_ret ?_ | refine SX_v (Val_len rfl) ?_ | refine SX_v (Val_fa rfl) ?_ | refine SX_v (Val_add rfl rfl (by omega) (by omega)) ?_ | refine SX_v (Val_sub rfl rfl (by omega) (by omega)) ?_ | refine SX_v (Val_mul rfl rfl (by omega) (by omega)) ?_ | refine SX_v (Val_quoN rfl rfl (by omega) (by omega) (by omega)) ?_ | refine SX_v (Val_remN rfl rfl (by omega) (by omega)) ?_ | refine SX_v (Val_min rfl rfl) ?_ | refine SX_v (Val_beq und_bool rfl rfl) ?_ | refine SX_v (Val_bne und_bool rfl rfl) ?_ | refine SX_w (SWl_box rfl rfl (fun b => SWl_x ?_)) | refine SX_w (SWl_alloc (fun b => SWl_x ?_)) | refine SX_w (SWl_stBn 0 rfl rfl rfl rfl rfl rfl (SWl_x ?_)) | refine SX_w (SWl_stBn 1 rfl rfl rfl rfl rfl rfl (SWl_x ?_)) | refine SX_w (SWl_stBn 2 rfl rfl rfl rfl rfl rfl (SWl_x ?_)) | refine SX_w (SWl_stBn 3 rfl rfl rfl rfl rfl rfl (SWl_x ?_)) | refine SX_w (SWl_stBn 4 rfl rfl rfl rfl rfl rfl (SWl_x ?_)) | refine SX_w (SWl_stBn 5 rfl rfl rfl rfl rfl rfl (SWl_x ?_)) | refine SX_w (SWl_stBn 6 rfl rfl rfl rfl rfl rfl (SWl_x ?_)) | refine SX_w (SWl_stBn 7 rfl rfl rfl rfl rfl rfl (SWl_x ?_)) | refine SX_v (Val_ldAB 0 rfl rfl rfl rfl) ?_ | refine SX_v (Val_ldAB 1 rfl rfl rfl rfl) ?_ | refine SX_v (Val_ldAB 2 rfl rfl rfl rfl) ?_ | refine SX_v (Val_ldAB 3 rfl rfl rfl rfl) ?_ | refine SX_v (Val_ldAB 4 rfl rfl rfl rfl) ?_ | refine SX_v (Val_ldAB 5 rfl rfl rfl rfl) ?_ | refine SX_v (Val_ldAB 6 rfl rfl rfl rfl) ?_ | refine SX_v (Val_ldAB 7 rfl rfl rfl rfl) ?_ | refine SX_w (SWl_stAB 0 rfl rfl rfl rfl (Lod.one _) rfl rfl (SWl_x ?_)) | refine SX_w (SWl_stAB 1 rfl rfl rfl rfl (Lod.one _) rfl rfl (SWl_x ?_)) | refine SX_w (SWl_stAB 2 rfl rfl rfl rfl (Lod.one _) rfl rfl (SWl_x ?_)) | refine SX_w (SWl_stAB 3 rfl rfl rfl rfl (Lod.one _) rfl rfl (SWl_x ?_)) | refine SX_w (SWl_stAB 4 rfl rfl rfl rfl (Lod.one _) rfl rfl (SWl_x ?_)) | refine SX_w (SWl_stAB 5 rfl rfl rfl rfl (Lod.one _) rfl rfl (SWl_x ?_)) | refine SX_w (SWl_stAB 6 rfl rfl rfl rfl (Lod.one _) rfl rfl (SWl_x ?_)) | refine SX_w (SWl_stAB 7 rfl rfl rfl rfl (Lod.one _) rfl rfl (SWl_x ?_)))
      refine SW_loop (fun k σ L => ∃ j : Nat, k = (a.nth i hlt).links.n - j ∧ j ≤ (a.nth i hlt).links.n ∧ L = [] ∧ (∀ x ∈ (a.nth i hlt).links.l.take j, 0 ≤ x → (oat (a.l.map ObjL.pl) x.toNat).kind ≠ 0) ∧ ∃ τ, σ = ups τ [(67, .int .i64 j), (66, .int .i64 (a.nth i hlt).links.n), (65, (a.nth i hlt).links.val), (33, .int .i64 i), (32, .int .i64 a.n), (31, a.val), (0, a.val)]) (a.nth i hlt).links.n Imp.nil ⟨0, rfl, Nat.zero_le _, rfl, by simp, ups_ex ⟨rfl, rfl, rfl, rfl, rfl, rfl, rfl, trivial⟩⟩ ?_
      rintro k σ L ⟨j, rfl, hj, rfl, hpl, τ, rfl⟩
      by_cases hjl : j < (a.nth i hlt).links.n
      · have hb := ObjOk.links hok ((a.nth i hlt).links.nth j hjl) (mem_hit hjl)
        repeat' (first | refine SX_v (Val_ix (s1 _) rfl rfl j rfl hjl) ?_ | refine SX_v (Val_ldE (s1 _) rfl rfl hjl rfl) ?_ | refine SX_v (Val_ix (sa _) rfl rfl ((a.nth i hlt).links.nth j hjl).toNat (by omega) (by omega)) ?_ | refine SX_v (Val_ldS (sa _) rfl rfl rfl (by omega) rfl) ?_ | refine SX_run rfl rfl ?_ | refine SX_nil ?_ | refine SN_W ?_ | refine SW_seq ?_ | refine SW_regionX ?_ | refine SX_guardT rfl ?_ | refine SX_guardF rfl rfl ?_ | refine SX_guardU rfl ?_ | refine SX_gsplitD rfl rfl (fun h => ?_) (fun h => ?_) | refine SX_gsplitN rfl rfl (fun h => ?_) (fun h => ?_) | refine SX_gsplit rfl rfl (fun h => ?_) (fun h => ?_) | refine SW_condT rfl ?_ | refine SW_condF rfl ?_ | refine SW_condD rfl (fun h => ?_) (fun h => ?_) | refine SW_condN rfl (fun h => ?_) (fun h => ?_) | refine SW_condB rfl (fun h => ?_) (fun h => ?_) | refine SW_cond rfl (fun h => ?_) (fun h => ?_) | refine SW_block ?_ | refine SW_skip ?_ | refine SW_exit ?_ | refine SN_bl0 ?_ | refine SN_blS rfl ?_ | refine SW_ret ?_ | refine SX_v (Val_len rfl) ?_ | refine SX_v (Val_fa rfl) ?_ | refine SX_v (Val_add rfl rfl (by omega) (by omega)) ?_ | refine SX_v (Val_sub rfl rfl (by omega) (by omega)) ?_ | refine SX_v (Val_mul rfl rfl (by omega) (by omega)) ?_ | refine SX_v (Val_quoN rfl rfl (by omega) (by omega) (by omega)) ?_ | refine SX_v (Val_remN rfl rfl (by omega) (by omega)) ?_ | refine SX_v (Val_min rfl rfl) ?_ | refine SX_v (Val_beq und_bool rfl rfl) ?_ | refine SX_v (Val_bne und_bool rfl rfl) ?_)
        all_goals first
          | (exfalso; omega)
          | (refine SN_retB rfl rfl ⟨?_, rfl⟩
             congr 1
             refine (decide_eq_false fun e => ?_).symm
             have e1 := hO.1 e i hlt
             unfold SlotOk at e1
             rw [hoi] at e1
             have hkk := ho ((a.nth i hlt).links.nth j hjl).toNat (by omega)
             exact e1.2.2 _ (mem_hit hjl) (by omega) ((congrArg Obj.kind hkk).trans ‹(a.nth ((a.nth i hlt).links.nth j hjl).toNat _).kind = 0›))
          | (refine SN_back ((a.nth i hlt).links.n - (j + 1)) (by omega) Imp.refl ⟨j + 1, rfl, hjl, rfl, all_step (fun x : Int => 0 ≤ x → (oat (a.l.map ObjL.pl) x.toNat).kind ≠ 0) hjl hpl ?_, ups_ex ⟨rfl, rfl, rfl, rfl, rfl, rfl, rfl, trivial⟩⟩
             intro q
             first
               | (exfalso; omega)
               | (have hkk := ho ((a.nth i hlt).links.nth j hjl).toNat (by omega)
                  exact fun q1 => ‹¬(a.nth ((a.nth i hlt).links.nth j hjl).toNat _).kind = 0› ((congrArg Obj.kind hkk).symm.trans q1)))
      · repeat' (first | refine SX_run rfl rfl ?_ | refine SX_nil ?_ | refine SN_W ?_ | refine SW_seq ?_ | refine SW_regionX ?_ | refine SX_guardT rfl ?_ | refine SX_guardF rfl rfl ?_ | refine SX_guardU rfl ?_ | refine SX_gsplitD rfl rfl (fun h => ?_) (fun h => ?_) | refine SX_gsplitN rfl rfl (fun h => ?_) (fun h => ?_) | refine SX_gsplit rfl rfl (fun h => ?_) (fun h => ?_) | refine SW_condT rfl ?_ | refine SW_condF rfl ?_ | refine SW_condD rfl (fun h => ?_) (fun h => ?_) | refine SW_condN rfl (fun h => ?_) (fun h => ?_) | refine SW_condB rfl (fun h => ?_) (fun h => ?_) | refine SW_cond rfl (fun h => ?_) (fun h => ?_) | refine SW_block ?_ | refine SW_skip ?_ | refine SW_exit ?_ | refine SN_bl0 ?_ | refine SN_blS rfl ?_ | refine SW_ret ?_ | refine SX_v (Val_len rfl) ?_ | refine SX_v (Val_fa rfl) ?_ | refine SX_v (Val_add rfl rfl (by omega) (by omega)) ?_ | refine SX_v (Val_sub rfl rfl (by omega) (by omega)) ?_ | refine SX_v (Val_mul rfl rfl (by omega) (by omega)) ?_ | refine SX_v (Val_quoN rfl rfl (by omega) (by omega) (by omega)) ?_ | refine SX_v (Val_remN rfl rfl (by omega) (by omega)) ?_ | refine SX_v (Val_min rfl rfl) ?_ | refine SX_v (Val_beq und_bool rfl rfl) ?_ | refine SX_v (Val_bne und_bool rfl rfl) ?_)
        · exfalso; omega
        refine SN_back (a.n - (i + 1)) (by omega) Imp.refl ⟨i + 1, rfl, by omega, rfl, slots_step hpre ?_, ups_ex ⟨rfl, rfl, rfl, rfl, trivial⟩⟩
        have hj' : j = (a.nth i hlt).links.n := by omega
        rw [hj'] at hpl
        unfold SlotOk
        rw [hoi]
        exact ⟨hok, hin, all_full (fun x : Int => 0 ≤ x → (oat (a.l.map ObjL.pl) x.toNat).kind ≠ 0) hpl⟩
    all_goals (exfalso; omega)
  · repeat' (first | refine SX_run rfl rfl ?_ | refine SX_nil ?_ | refine SN_W ?_ | refine SW_seq ?_ | refine SW_regionX ?_ | refine SX_guardT rfl ?_ | refine SX_guardF rfl rfl ?_ | refine SX_guardU rfl ?_ | refine SX_gsplitD rfl rfl (fun h => ?_) (fun h => ?_) | refine SX_gsplitN rfl rfl (fun h => ?_) (fun h => ?_) | refine SX_gsplit rfl rfl (fun h => ?_) (fun h => ?_) | refine SW_condT rfl ?_ | refine SW_condF rfl ?_ | refine SW_condD rfl (fun h => ?_) (fun h => ?_) | refine SW_condN rfl (fun h => ?_) (fun h => ?_) | refine SW_condB rfl (fun h => ?_) (fun h => ?_) | refine SW_cond rfl (fun h => ?_) (fun h => ?_) | refine SW_block ?_ | refine SW_skip ?_ | refine SW_exit ?_ | refine SN_bl0 ?_ | refine SN_blS rfl ?_ | refine SW_ret ?_ | refine SX_v (Val_len rfl) ?_ | refine SX_v (Val_fa rfl) ?_ | refine SX_v (Val_add rfl rfl (by omega) (by omega)) ?_ | refine SX_v (Val_sub rfl rfl (by omega) (by omega)) ?_ | refine SX_v (Val_mul rfl rfl (by omega) (by omega)) ?_ | refine SX_v (Val_quoN rfl rfl (by omega) (by omega) (by omega)) ?_ | refine SX_v (Val_remN rfl rfl (by omega) (by omega)) ?_ | refine SX_v (Val_min rfl rfl) ?_ | refine SX_v (Val_beq und_bool rfl rfl) ?_ | refine SX_v (Val_bne und_bool rfl rfl) ?_)
    · exfalso; omega
    refine SN_retB rfl rfl ⟨?_, rfl⟩
    congr 1
    refine (decide_eq_true (hO.2 fun j hj => hpre j (by omega))).symm
theorem sArenaOk {m : Nat} (a : Sl ObjL) (w : World) (ha : Lod.rd m w a) (hr : RgA (a.l.map ObjL.pl)) : FB 20 [a.val] w (decide (ArenaOk (a.l.map ObjL.pl))) := by
  have hcap : a.n ≤ maxLen := Nat.le_trans ha.2.1 ha.2.2.1
  unfold maxLen at hcap
  have sa : ∀ L, Src m w L a := fun L => Src.arg ha
  have hlen : (a.l.map ObjL.pl).length = a.n := by rw [List.length_map, a.hn]
  have ho : ∀ i (hi : i < a.n), oat (a.l.map ObjL.pl) i = (a.nth i hi).pl := oat_nth a
  refine F_of Try.func20 rfl rfl ?_
  repeat' (first | refine SX_v (Val_ix (sa _) rfl rfl 0 rfl (by omega)) ?_ | refine SX_v (Val_ldS (sa _) rfl rfl rfl (by omega) rfl) ?_ | refine SX_run rfl rfl ?_ | refine SX_nil ?_ | refine SN_W ?_ | refine SW_seq ?_ | refine SW_regionX ?_ | refine SX_guardT rfl ?_ | refine SX_guardF rfl rfl ?_ | refine SX_guardU rfl ?_ | refine SX_gsplitD rfl rfl (fun h => ?_) (fun h => ?_) | refine SX_gsplitN rfl rfl (fun h => ?_) (fun h => ?_) | refine SX_gsplit rfl rfl (fun h => ?_) (fun h => ?_) | refine SW_condT rfl ?_ | refine SW_condF rfl ?_ | refine SW_condD rfl (fun h => ?_) (fun h => ?_) | refine SW_condN rfl (fun h => ?_) (fun h => ?_) | refine SW_condB rfl (fun h => ?_) (fun h => ?_) | refine SW_cond rfl (fun h => ?_) (fun h => ?_) | refine SW_block ?_ | refine SW_skip ?_ | refine SW_exit ?_ | refine SN_bl0 ?_ | refine SN_blS rfl ?_ | refine SW_ret ?_ | refine SX_v (Val_len rfl) ?_ | refine SX_v (Val_fa rfl) ?_ | refine SX_v (Val_add rfl rfl (by omega) (by omega)) ?_ | refine SX_v (Val_sub rfl rfl (by omega) (by omega)) ?_ | refine SX_v (Val_mul rfl rfl (by omega) (by omega)) ?_ | refine SX_v (Val_quoN rfl rfl (by omega) (by omega) (by omega)) ?_ | refine SX_v (Val_remN rfl rfl (by omega) (by omega)) ?_ | refine SX_v (Val_min rfl rfl) ?_ | refine SX_v (Val_beq und_bool rfl rfl) ?_ | refine SX_v (Val_bne und_bool rfl rfl) ?_)
  all_goals try (
    refine SN_retB rfl rfl ⟨?_, rfl⟩
    congr 1
    refine (decide_eq_false fun e => ?_).symm
    unfold ArenaOk at e
    have h0 := fun h => ho 0 h
    simp only [ObjL.pl] at h0
    grind)
  have hn : a.n = 10 := by omega
  have h0 := ho 0 (by omega)
  have hroot : (a.nth 0 (by omega)).kind = 1 ∧ (a.nth 0 (by omega)).inn = -1 ∧ (a.nth 0 (by omega)).til = 1000000 := by refine ⟨?_, ?_, ?_⟩ <;> omega
  have hO : ArenaOk (a.l.map ObjL.pl) ↔ ∀ i, i < a.n → SlotOk (a.l.map ObjL.pl) i := by
    unfold ArenaOk
    rw [hlen, h0]
    exact ⟨fun h => h.2.2.2.2, fun h => ⟨hn, hroot.1, hroot.2.1, hroot.2.2, h⟩⟩
  refine SW_loop (fun k σ L => ∃ i : Nat, k = a.n - i ∧ i ≤ a.n ∧ L = [] ∧ (∀ j, j < i → SlotOk (a.l.map ObjL.pl) j) ∧ ∃ τ, σ = ups τ [(3, .int .i64 i), (0, a.val)]) a.n Imp.refl ⟨0, rfl, Nat.zero_le _, rfl, fun j hj => absurd hj (Nat.not_lt_zero j), ups_ex ⟨rfl, rfl, trivial⟩⟩ ?_
  rintro k σ L ⟨i, rfl, hi, rfl, hpre, τ, rfl⟩
  by_cases hlt : i < a.n
  · have hoi := ho i hlt
    have hlk : (a.nth i hlt).pl.links = (a.nth i hlt).links.l := rfl
    have s1 := fun L => Src.links (Src.elem (sa L) i hlt)
    have c1 := capOf (s1 [])
    have hobj : ObjOk (a.nth i hlt).pl → (-1 ≤ (a.nth i hlt).inn ∧ (a.nth i hlt).inn ≤ 9) := ObjOk.inn
    repeat' (first | refine SW_cutR 6 (fun σ L => L = [] ∧ (ObjOk (a.nth i hlt).pl ∧ (0 < i → (a.nth i hlt).pl.kind ≠ 0 → 0 ≤ (a.nth i hlt).pl.inn → (oat (a.l.map ObjL.pl) (a.nth i hlt).pl.inn.toNat).kind ≠ 0)) ∧ ∃ τ, σ = ups τ [(3, .int .i64 i), (0, a.val)]) ?_ ?_ | refine SW_cutR 6 (fun σ L => L = [] ∧ (ObjOk (a.nth i hlt).pl ∧ (0 < i → (a.nth i hlt).pl.kind ≠ 0 → 0 ≤ (a.nth i hlt).pl.inn → (oat (a.l.map ObjL.pl) (a.nth i hlt).pl.inn.toNat).kind ≠ 0)) ∧ ∃ τ, σ = ups τ [(3, .int .i64 i), (0, a.val)]) ?_ ?_ | refine SX_v (Val_ix (sa _) rfl rfl i rfl hlt) ?_ | refine SX_v (Val_ldAE (sa _) rfl rfl hlt) ?_ | refine SX_v (Val_ldS (sa _) rfl rfl rfl hlt rfl) ?_ | (refine SX_at 15 ?_; refine SX_callA rfl (fun w hw => sObjOk (a.nth i hlt) w (Src.elem (sa _) i hlt w hw) (rgA_nth hr i hlt)) ?_) | refine SX_v (Val_ix (sa _) rfl rfl (a.nth i hlt).inn.toNat (by have := ObjOk.inn ‹ObjOk (a.nth i hlt).pl›; simp only [ObjL.pl] at this; omega) (by have := ObjOk.inn ‹ObjOk (a.nth i hlt).pl›; simp only [ObjL.pl] at this; omega)) ?_ | refine SX_v (Val_ldS (sa _) rfl rfl rfl (by have := ObjOk.inn ‹ObjOk (a.nth i hlt).pl›; simp only [ObjL.pl] at this; omega) rfl) ?_ | refine SX_run rfl rfl ?_ | refine SX_nil ?_ | refine SN_W ?_ | refine SW_seq ?_ | refine SW_regionX ?_ | refine SX_guardT rfl ?_ | refine SX_guardF rfl rfl ?_ | refine SX_guardU rfl ?_ | refine SX_gsplitD rfl rfl (fun h => ?_) (fun h => ?_) | refine SX_gsplitN rfl rfl (fun h => ?_) (fun h => ?_) | refine SX_gsplit rfl rfl (fun h => ?_) (fun h => ?_) | refine SW_condT rfl ?_ | refine SW_condF rfl ?_ | refine SW_condD rfl (fun h => ?_) (fun h => ?_) | refine SW_condN rfl (fun h => ?_) (fun h => ?_) | refine SW_condB rfl (fun h => ?_) (fun h => ?_) | refine SW_cond rfl (fun h => ?_) (fun h => ?_) | refine SW_block ?_ | refine SW_skip ?_ | refine SW_exit ?_ | refine SN_bl0 ?_ | refine SN_blS rfl ?_ | refine SW_ret ?_ | refine SX_v (Val_len rfl) ?_ | refine SX_v (Val_fa rfl) ?_ | refine SX_v (Val_add rfl rfl (by omega) (by omega)) ?_ | refine SX_v (Val_sub rfl rfl (by omega) (by omega)) ?_ | refine SX_v (Val_mul rfl rfl (by omega) (by omega)) ?_ | refine SX_v (Val_quoN rfl rfl (by omega) (by omega) (by omega)) ?_ | refine SX_v (Val_remN rfl rfl (by omega) (by omega)) ?_ | refine SX_v (Val_min rfl rfl) ?_ | refine SX_v (Val_beq und_bool rfl rfl) ?_ | refine SX_v (Val_bne und_bool rfl rfl) ?_)
    all_goals try (
      refine SN_retB rfl rfl ⟨?_, rfl⟩
      congr 1
      refine (decide_eq_false fun e => ?_).symm
      have e1 := hO.1 e i hlt
      unfold SlotOk at e1
      rw [hoi] at e1
      first
        | exact ‹¬ObjOk _› e1.1
        | (have hkk := ho (a.nth i hlt).inn.toNat (by have := ObjOk.inn e1.1; simp only [ObjL.pl] at this; omega)
           exact e1.2.1 (by omega) ‹_› ‹_› ((congrArg Obj.kind hkk).trans ‹(a.nth (a.nth i hlt).inn.toNat _).kind = 0›)))
    all_goals try (
      refine SN_mid Imp.refl ⟨rfl, ⟨‹_›, ?_⟩, ups_ex ⟨rfl, rfl, trivial⟩⟩
      intro q1 q2 q3
      first
        | (exfalso; omega)
        | exact absurd ‹(a.nth i hlt).kind = 0› q2
        | exact absurd q3 ‹_›
        | (have hkk := ho (a.nth i hlt).inn.toNat (by have := ObjOk.inn ‹ObjOk (a.nth i hlt).pl›; simp only [ObjL.pl] at this; omega)
           exact fun q => ‹¬(a.nth (a.nth i hlt).inn.toNat _).kind = 0› ((congrArg Obj.kind hkk).symm.trans q)))
    · refine Later.go ?_
      rintro σ L ⟨rfl, ⟨hok, hin⟩, τ, rfl⟩
      repeat' (first | refine SX_run rfl rfl ?_ | refine SX_nil ?_ | refine SN_W ?_ | refine SW_seq ?_ | refine SW_regionX ?_ | refine SX_guardT rfl ?_ | refine SX_guardF rfl rfl ?_ | refine SX_guardU rfl ?_ | refine SX_gsplitD rfl rfl (fun h => ?_) (fun h => ?_) | refine SX_gsplitN rfl rfl (fun h => ?_) (fun h => ?_) | refine SX_gsplit rfl rfl (fun h => ?_) (fun h => ?_) | refine SW_condT rfl ?_ | refine SW_condF rfl ?_ | refine SW_condD rfl (fun h => ?_) (fun h => ?_) | refine SW_condN rfl (fun h => ?_) (fun h => ?_) | refine SW_condB rfl (fun h => ?_) (fun h => ?_) | refine SW_cond rfl (fun h => ?_) (fun h => ?_) | refine SW_block ?_ | refine SW_skip ?_ | refine SW_exit ?_ | refine SN_bl0 ?_ | refine SN_blS rfl ?_ | refine SW_ret ?_ | refine SX_v (Val_len rfl) ?_ | refine SX_v (Val_fa rfl) ?_ | refine SX_v (Val_add rfl rfl (by omega) (by omega)) ?_ | refine SX_v (Val_sub rfl rfl (by omega) (by omega)) ?_ | refine SX_v (Val_mul rfl rfl (by omega) (by omega)) ?_ | refine SX_v (Val_quoN rfl rfl (by omega) (by omega) (by omega)) ?_ | refine SX_v (Val_remN rfl rfl (by omega) (by omega)) ?_ | refine SX_v (Val_min rfl rfl) ?_ | refine SX_v (Val_beq und_bool rfl rfl) ?_ | refine SX_v (Val_bne und_bool rfl rfl) ?_)
      refine SW_loop (fun k σ L => ∃ j : Nat, k = (a.nth i hlt).links.n - j ∧ j ≤ (a.nth i hlt).links.n ∧ L = [] ∧ (∀ x ∈ (a.nth i hlt).links.l.take j, 0 ≤ x → (oat (a.l.map ObjL.pl) x.toNat).kind ≠ 0) ∧ ∃ τ, σ = ups τ [(4, .int .i64 j), (3, .int .i64 i), (0, a.val)]) (a.nth i hlt).links.n Imp.nil ⟨0, rfl, Nat.zero_le _, rfl, by simp, ups_ex ⟨rfl, rfl, rfl, trivial⟩⟩ ?_
      rintro k σ L ⟨j, rfl, hj, rfl, hpl, τ, rfl⟩
      by_cases hjl : j < (a.nth i hlt).links.n
      · have hb := ObjOk.links hok ((a.nth i hlt).links.nth j hjl) (mem_hit hjl)
        repeat' (first | refine SX_v (Val_ix (sa _) rfl rfl i rfl hlt) ?_ | refine SX_v (Val_ldS (sa _) rfl rfl rfl hlt (v := (a.nth i hlt).links.val) rfl) ?_ | refine SX_v (Val_ix (s1 _) rfl rfl j rfl hjl) ?_ | refine SX_v (Val_ldE (s1 _) rfl rfl hjl rfl) ?_ | refine SX_v (Val_ix (sa _) rfl rfl ((a.nth i hlt).links.nth j hjl).toNat (by omega) (by omega)) ?_ | refine SX_v (Val_ldS (sa _) rfl rfl rfl (by omega) rfl) ?_ | refine SX_run rfl rfl ?_ | refine SX_nil ?_ | refine SN_W ?_ | refine SW_seq ?_ | refine SW_regionX ?_ | refine SX_guardT rfl ?_ | refine SX_guardF rfl rfl ?_ | refine SX_guardU rfl ?_ | refine SX_gsplitD rfl rfl (fun h => ?_) (fun h => ?_) | refine SX_gsplitN rfl rfl (fun h => ?_) (fun h => ?_) | refine SX_gsplit rfl rfl (fun h => ?_) (fun h => ?_) | refine SW_condT rfl ?_ | refine SW_condF rfl ?_ | refine SW_condD rfl (fun h => ?_) (fun h => ?_) | refine SW_condN rfl (fun h => ?_) (fun h => ?_) | refine SW_condB rfl (fun h => ?_) (fun h => ?_) | refine SW_cond rfl (fun h => ?_) (fun h => ?_) | refine SW_block ?_ | refine SW_skip ?_ | refine SW_exit ?_ | refine SN_bl0 ?_ | refine SN_blS rfl ?_ | refine SW_ret ?_ | refine SX_v (Val_len rfl) ?_ | refine SX_v (Val_fa rfl) ?_ | refine SX_v (Val_add rfl rfl (by omega) (by omega)) ?_ | refine SX_v (Val_sub rfl rfl (by omega) (by omega)) ?_ | refine SX_v (Val_mul rfl rfl (by omega) (by omega)) ?_ | refine SX_v (Val_quoN rfl rfl (by omega) (by omega) (by omega)) ?_ | refine SX_v (Val_remN rfl rfl (by omega) (by omega)) ?_ | refine SX_v (Val_min rfl rfl) ?_ | refine SX_v (Val_beq und_bool rfl rfl) ?_ | refine SX_v (Val_bne und_bool rfl rfl) ?_)
        all_goals first
          | (exfalso; omega)
          | (refine SN_retB rfl rfl ⟨?_, rfl⟩
             congr 1
             refine (decide_eq_false fun e => ?_).symm
             have e1 := hO.1 e i hlt
             unfold SlotOk at e1
             rw [hoi] at e1
             have hkk := ho ((a.nth i hlt).links.nth j hjl).toNat (by omega)
             exact e1.2.2 _ (mem_hit hjl) (by omega) ((congrArg Obj.kind hkk).trans ‹(a.nth ((a.nth i hlt).links.nth j hjl).toNat _).kind = 0›))
          | (refine SN_back ((a.nth i hlt).links.n - (j + 1)) (by omega) Imp.refl ⟨j + 1, rfl, hjl, rfl, all_step (fun x : Int => 0 ≤ x → (oat (a.l.map ObjL.pl) x.toNat).kind ≠ 0) hjl hpl ?_, ups_ex ⟨rfl, rfl, rfl, trivial⟩⟩
             intro q
             first
               | (exfalso; omega)
               | (have hkk := ho ((a.nth i hlt).links.nth j hjl).toNat (by omega)
                  exact fun q1 => ‹¬(a.nth ((a.nth i hlt).links.nth j hjl).toNat _).kind = 0› ((congrArg Obj.kind hkk).symm.trans q1)))
      · repeat' (first | refine SX_v (Val_ix (sa _) rfl rfl i rfl hlt) ?_ | refine SX_v (Val_ldS (sa _) rfl rfl rfl hlt (v := (a.nth i hlt).links.val) rfl) ?_ | refine SX_run rfl rfl ?_ | refine SX_nil ?_ | refine SN_W ?_ | refine SW_seq ?_ | refine SW_regionX ?_ | refine SX_guardT rfl ?_ | refine SX_guardF rfl rfl ?_ | refine SX_guardU rfl ?_ | refine SX_gsplitD rfl rfl (fun h => ?_) (fun h => ?_) | refine SX_gsplitN rfl rfl (fun h => ?_) (fun h => ?_) | refine SX_gsplit rfl rfl (fun h => ?_) (fun h => ?_) | refine SW_condT rfl ?_ | refine SW_condF rfl ?_ | refine SW_condD rfl (fun h => ?_) (fun h => ?_) | refine SW_condN rfl (fun h => ?_) (fun h => ?_) | refine SW_condB rfl (fun h => ?_) (fun h => ?_) | refine SW_cond rfl (fun h => ?_) (fun h => ?_) | refine SW_block ?_ | refine SW_skip ?_ | refine SW_exit ?_ | refine SN_bl0 ?_ | refine SN_blS rfl ?_ | refine SW_ret ?_ | refine SX_v (Val_len rfl) ?_ | refine SX_v (Val_fa rfl) ?_ | refine SX_v (Val_add rfl rfl (by omega) (by omega)) ?_ | refine SX_v (Val_sub rfl rfl (by omega) (by omega)) ?_ | refine SX_v (Val_mul rfl rfl (by omega) (by omega)) ?_ | refine SX_v (Val_quoN rfl rfl (by omega) (by omega) (by omega)) ?_ | refine SX_v (Val_remN rfl rfl (by omega) (by omega)) ?_ | refine SX_v (Val_min rfl rfl) ?_ | refine SX_v (Val_beq und_bool rfl rfl) ?_ | refine SX_v (Val_bne und_bool rfl rfl) ?_)
        · exfalso; omega
        refine SN_back (a.n - (i + 1)) (by omega) Imp.refl ⟨i + 1, rfl, by omega, rfl, slots_step hpre ?_, ups_ex ⟨rfl, rfl, trivial⟩⟩
        have hj' : j = (a.nth i hlt).links.n := by omega
        rw [hj'] at hpl
        unfold SlotOk
        rw [hoi]
        exact ⟨hok, hin, all_full (fun x : Int => 0 ≤ x → (oat (a.l.map ObjL.pl) x.toNat).kind ≠ 0) hpl⟩
    all_goals (exfalso; omega)
  · repeat' (first | refine SX_run rfl rfl ?_ | refine SX_nil ?_ | refine SN_W ?_ | refine SW_seq ?_ | refine SW_regionX ?_ | refine SX_guardT rfl ?_ | refine SX_guardF rfl rfl ?_ | refine SX_guardU rfl ?_ | refine SX_gsplitD rfl rfl (fun h => ?_) (fun h => ?_) | refine SX_gsplitN rfl rfl (fun h => ?_) (fun h => ?_) | refine SX_gsplit rfl rfl (fun h => ?_) (fun h => ?_) | refine SW_condT rfl ?_ | refine SW_condF rfl ?_ | refine SW_condD rfl (fun h => ?_) (fun h => ?_) | refine SW_condN rfl (fun h => ?_) (fun h => ?_) | refine SW_condB rfl (fun h => ?_) (fun h => ?_) | refine SW_cond rfl (fun h => ?_) (fun h => ?_) | refine SW_block ?_ | refine SW_skip ?_ | refine SW_exit ?_ | refine SN_bl0 ?_ | refine SN_blS rfl ?_ | refine SW_ret ?_ | refine SX_v (Val_len rfl) ?_ | refine SX_v (Val_fa rfl) ?_ | refine SX_v (Val_add rfl rfl (by omega) (by omega)) ?_ | refine SX_v (Val_sub rfl rfl (by omega) (by omega)) ?_ | refine SX_v (Val_mul rfl rfl (by omega) (by omega)) ?_ | refine SX_v (Val_quoN rfl rfl (by omega) (by omega) (by omega)) ?_ | refine SX_v (Val_remN rfl rfl (by omega) (by omega)) ?_ | refine SX_v (Val_min rfl rfl) ?_ | refine SX_v (Val_beq und_bool rfl rfl) ?_ | refine SX_v (Val_bne und_bool rfl rfl) ?_)
    · exfalso; omega
    refine SN_retB rfl rfl ⟨?_, rfl⟩
    congr 1
    refine (decide_eq_true (hO.2 fun j hj => hpre j (by omega))).symm
end Go.Proofs.Ytandadfmmohhhaa.E
