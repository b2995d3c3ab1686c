/-
  Searches and comparisons of slices.
-/
import Derived.Test.YtandadfmmohhhaaHx
import Derived.Test.YtandadfmmohhhaaSe
import Derived.Test.YtandadfmmohhhaaEx
namespace Go.Proofs.Ytandadfmmohhhaa.E
open Go Go.RowKit
set_option maxRecDepth 100000
set_option maxHeartbeats 4000000

theorem mem_step {α : Type} {s : Sl α} {i : Nat} (hi : i < s.n) {x : α} (h : x ∉ s.l.take i) (e : ¬ s.nth i hi = x) : x ∉ s.l.take (i + 1) := by
  rw [List.take_succ_eq_append_getElem (by rw [s.hn]; exact hi), List.mem_append]
  rintro (h1 | h1)
  · exact h h1
  · rw [List.mem_singleton] at h1; exact e h1.symm
theorem mem_hit {α : Type} {s : Sl α} {i : Nat} (hi : i < s.n) : s.nth i hi ∈ s.l := List.getElem_mem _
theorem mem_full {α : Type} {s : Sl α} {x : α} (h : x ∉ s.l.take s.n) : x ∉ s.l := by rwa [List.take_of_length_le (by rw [s.hn]; exact Nat.le_refl _)] at h
theorem slEqInt {m : Nat} (a b : Sl Int) (w : World) (ha : Lod.rd m w a) (hb : Lod.rd m w b) : FB 101 [a.val, b.val] w (decide (a.l = b.l)) := by
  have hcap : a.n ≤ maxLen := Nat.le_trans ha.2.1 ha.2.2.1
  unfold maxLen at hcap
  have sa : ∀ L, Src m w L a := fun L => Src.arg ha
  have sb : ∀ L, Src m w L b := fun L => Src.arg hb
  refine F_of Try.func101 rfl rfl ?_
  repeat' (first | refine SX_run rfl rfl ?_ | refine SX_nil ?_ | refine SN_W ?_ | refine SW_seq ?_ | refine SW_regionX ?_ | refine SX_guardT rfl ?_ | refine SX_guardF rfl rfl ?_ | refine SX_guardU rfl ?_ | refine SX_gsplitD rfl rfl (fun h => ?_) (fun h => ?_) | refine SX_gsplitN rfl rfl (fun h => ?_) (fun h => ?_) | refine SX_gsplit rfl rfl (fun h => ?_) (fun h => ?_) | refine SW_condT rfl ?_ | refine SW_condF rfl ?_ | refine SW_condD rfl (fun h => ?_) (fun h => ?_) | refine SW_condN rfl (fun h => ?_) (fun h => ?_) | refine SW_condB rfl (fun h => ?_) (fun h => ?_) | refine SW_cond rfl (fun h => ?_) (fun h => ?_) | refine SW_block ?_ | refine SW_skip ?_ | refine SW_exit ?_ | refine SN_bl0 ?_ | refine SN_blS rfl ?_ | refine SW_ret ?_ | refine SX_v (Val_len rfl) ?_ | refine SX_v (Val_fa rfl) ?_ | refine SX_v (Val_add rfl rfl (by omega) (by omega)) ?_ | refine SX_v (Val_sub rfl rfl (by omega) (by omega)) ?_ | refine SX_v (Val_mul rfl rfl (by omega) (by omega)) ?_ | refine SX_v (Val_quoN rfl rfl (by omega) (by omega) (by omega)) ?_ | refine SX_v (Val_remN rfl rfl (by omega) (by omega)) ?_ | refine SX_v (Val_min rfl rfl) ?_ | refine SX_v (Val_beq und_bool rfl rfl) ?_ | refine SX_v (Val_bne und_bool rfl rfl) ?_)
  · refine SN_retB rfl rfl ⟨?_, rfl⟩
    congr 1
    have : a.l ≠ b.l := fun e => h (by have := a.hn; have := b.hn; rw [e] at *; omega)
    simp [this]
  · have hab : a.n = b.n := by omega
    clear h
    refine SW_loop (fun k σ L => ∃ i : Nat, k = a.n - i ∧ i ≤ a.n ∧ L = [] ∧ a.l.take i = b.l.take i ∧ ∃ τ, σ = ups τ [(13, .int .i64 i), (12, .int .i64 a.n), (0, a.val), (1, b.val)]) a.n Imp.refl ⟨0, rfl, Nat.zero_le _, rfl, rfl, ups_ex ⟨rfl, rfl, rfl, rfl, trivial⟩⟩ ?_
    rintro k σ L ⟨i, rfl, hi, rfl, hpre, τ, rfl⟩
    repeat' (first | refine SX_v (Val_ix (sa _) rfl rfl i rfl (by omega)) ?_ | refine SX_v (Val_ix (sb _) rfl rfl i rfl (by omega)) ?_ | refine SX_v (Val_ldE (sa _) rfl rfl (by omega) rfl) ?_ | refine SX_v (Val_ldE (sb _) rfl rfl (by omega) rfl) ?_ | refine SX_run rfl rfl ?_ | refine SX_nil ?_ | refine SN_W ?_ | refine SW_seq ?_ | refine SW_regionX ?_ | refine SX_guardT rfl ?_ | refine SX_guardF rfl rfl ?_ | refine SX_guardU rfl ?_ | refine SX_gsplitD rfl rfl (fun h => ?_) (fun h => ?_) | refine SX_gsplitN rfl rfl (fun h => ?_) (fun h => ?_) | refine SX_gsplit rfl rfl (fun h => ?_) (fun h => ?_) | refine SW_condT rfl ?_ | refine SW_condF rfl ?_ | refine SW_condD rfl (fun h => ?_) (fun h => ?_) | refine SW_condN rfl (fun h => ?_) (fun h => ?_) | refine SW_condB rfl (fun h => ?_) (fun h => ?_) | refine SW_cond rfl (fun h => ?_) (fun h => ?_) | refine SW_block ?_ | refine SW_skip ?_ | refine SW_exit ?_ | refine SN_bl0 ?_ | refine SN_blS rfl ?_ | refine SW_ret ?_ | refine SX_v (Val_len rfl) ?_ | refine SX_v (Val_fa rfl) ?_ | refine SX_v (Val_add rfl rfl (by omega) (by omega)) ?_ | refine SX_v (Val_sub rfl rfl (by omega) (by omega)) ?_ | refine SX_v (Val_mul rfl rfl (by omega) (by omega)) ?_ | refine SX_v (Val_quoN rfl rfl (by omega) (by omega) (by omega)) ?_ | refine SX_v (Val_remN rfl rfl (by omega) (by omega)) ?_ | refine SX_v (Val_min rfl rfl) ?_ | refine SX_v (Val_beq und_bool rfl rfl) ?_ | refine SX_v (Val_bne und_bool rfl rfl) ?_ | refine SW_regionD mixed (by kernel_rfl) ?_)
    · rename_i hlt
      refine SN_retB rfl rfl ⟨?_, rfl⟩
      congr 1
      exact (decide_eq_false (take_ne (by have := a.hn; omega) (by have := b.hn; omega) h)).symm
    · rename_i hlt
      exact SN_back (a.n - (i + 1)) (by omega) Imp.refl ⟨i + 1, rfl, by omega, rfl, take_step (by have := a.hn; omega) (by have := b.hn; omega) hpre h, ups_ex ⟨rfl, rfl, rfl, rfl, trivial⟩⟩
    · have : i = a.n := by omega
      subst this
      refine SN_retB rfl rfl ⟨?_, rfl⟩
      congr 1
      exact (decide_eq_true (eqS_end a.hn (by have := b.hn; omega) hpre)).symm
theorem slEqMsg {m : Nat} (a b : Sl Msg) (w : World) (ha : Lod.rd m w a) (hb : Lod.rd m w b) : FB 102 [a.val, b.val] w (decide (a.l = b.l)) := by
  have hcap : a.n ≤ maxLen := Nat.le_trans ha.2.1 ha.2.2.1
  unfold maxLen at hcap
  have sa : ∀ L, Src m w L a := fun L => Src.arg ha
  have sb : ∀ L, Src m w L b := fun L => Src.arg hb
  refine F_of Try.func102 rfl rfl ?_
  repeat' (first | refine SX_run rfl rfl ?_ | refine SX_nil ?_ | refine SN_W ?_ | refine SW_seq ?_ | refine SW_regionX ?_ | refine SX_guardT rfl ?_ | refine SX_guardF rfl rfl ?_ | refine SX_guardU rfl ?_ | refine SX_gsplitD rfl rfl (fun h => ?_) (fun h => ?_) | refine SX_gsplitN rfl rfl (fun h => ?_) (fun h => ?_) | refine SX_gsplit rfl rfl (fun h => ?_) (fun h => ?_) | refine SW_condT rfl ?_ | refine SW_condF rfl ?_ | refine SW_condD rfl (fun h => ?_) (fun h => ?_) | refine SW_condN rfl (fun h => ?_) (fun h => ?_) | refine SW_condB rfl (fun h => ?_) (fun h => ?_) | refine SW_cond rfl (fun h => ?_) (fun h => ?_) | refine SW_block ?_ | refine SW_skip ?_ | refine SW_exit ?_ | refine SN_bl0 ?_ | refine SN_blS rfl ?_ | refine SW_ret ?_ | refine SX_v (Val_len rfl) ?_ | refine SX_v (Val_fa rfl) ?_ | refine SX_v (Val_add rfl rfl (by omega) (by omega)) ?_ | refine SX_v (Val_sub rfl rfl (by omega) (by omega)) ?_ | refine SX_v (Val_mul rfl rfl (by omega) (by omega)) ?_ | refine SX_v (Val_quoN rfl rfl (by omega) (by omega) (by omega)) ?_ | refine SX_v (Val_remN rfl rfl (by omega) (by omega)) ?_ | refine SX_v (Val_min rfl rfl) ?_ | refine SX_v (Val_beq und_bool rfl rfl) ?_ | refine SX_v (Val_bne und_bool rfl rfl) ?_)
  · refine SN_retB rfl rfl ⟨?_, rfl⟩
    congr 1
    have : a.l ≠ b.l := fun e => h (by have := a.hn; have := b.hn; rw [e] at *; omega)
    simp [this]
  · have hab : a.n = b.n := by omega
    clear h
    refine SW_loop (fun k σ L => ∃ i : Nat, k = a.n - i ∧ i ≤ a.n ∧ L = [] ∧ a.l.take i = b.l.take i ∧ ∃ τ, σ = ups τ [(13, .int .i64 i), (12, .int .i64 a.n), (0, a.val), (1, b.val)]) a.n Imp.refl ⟨0, rfl, Nat.zero_le _, rfl, rfl, ups_ex ⟨rfl, rfl, rfl, rfl, trivial⟩⟩ ?_
    rintro k σ L ⟨i, rfl, hi, rfl, hpre, τ, rfl⟩
    repeat' (first | refine SX_v (Val_ix (sa _) rfl rfl i rfl (by omega)) ?_ | refine SX_v (Val_ix (sb _) rfl rfl i rfl (by omega)) ?_ | refine SX_v (Val_ldAE (sa _) rfl rfl (by omega)) ?_ | refine SX_v (Val_ldAE (sb _) rfl rfl (by omega)) ?_ | refine SX_v (Val_sne (a := a.nth i (by omega)) (b := b.nth i (by omega)) rfl rfl) ?_ | refine SX_run rfl rfl ?_ | refine SX_nil ?_ | refine SN_W ?_ | refine SW_seq ?_ | refine SW_regionX ?_ | refine SX_guardT rfl ?_ | refine SX_guardF rfl rfl ?_ | refine SX_guardU rfl ?_ | refine SX_gsplitD rfl rfl (fun h => ?_) (fun h => ?_) | refine SX_gsplitN rfl rfl (fun h => ?_) (fun h => ?_) | refine SX_gsplit rfl rfl (fun h => ?_) (fun h => ?_) | refine SW_condT rfl ?_ | refine SW_condF rfl ?_ | refine SW_condD rfl (fun h => ?_) (fun h => ?_) | refine SW_condN rfl (fun h => ?_) (fun h => ?_) | refine SW_condB rfl (fun h => ?_) (fun h => ?_) | refine SW_cond rfl (fun h => ?_) (fun h => ?_) | refine SW_block ?_ | refine SW_skip ?_ | refine SW_exit ?_ | refine SN_bl0 ?_ | refine SN_blS rfl ?_ | refine SW_ret ?_ | refine SX_v (Val_len rfl) ?_ | refine SX_v (Val_fa rfl) ?_ | refine SX_v (Val_add rfl rfl (by omega) (by omega)) ?_ | refine SX_v (Val_sub rfl rfl (by omega) (by omega)) ?_ | refine SX_v (Val_mul rfl rfl (by omega) (by omega)) ?_ | refine SX_v (Val_quoN rfl rfl (by omega) (by omega) (by omega)) ?_ | refine SX_v (Val_remN rfl rfl (by omega) (by omega)) ?_ | refine SX_v (Val_min rfl rfl) ?_ | refine SX_v (Val_beq und_bool rfl rfl) ?_ | refine SX_v (Val_bne und_bool rfl rfl) ?_ | refine SW_regionD mixed (by kernel_rfl) ?_)
    · rename_i hlt
      refine SN_retB rfl rfl ⟨?_, rfl⟩
      congr 1
      exact (decide_eq_false (take_ne (by have := a.hn; omega) (by have := b.hn; omega) h)).symm
    · rename_i hlt
      exact SN_back (a.n - (i + 1)) (by omega) Imp.refl ⟨i + 1, rfl, by omega, rfl, take_step (by have := a.hn; omega) (by have := b.hn; omega) hpre h, ups_ex ⟨rfl, rfl, rfl, rfl, trivial⟩⟩
    · have : i = a.n := by omega
      subst this
      refine SN_retB rfl rfl ⟨?_, rfl⟩
      congr 1
      exact (decide_eq_true (eqS_end a.hn (by have := b.hn; omega) hpre)).symm
theorem slIndex {m : Nat} (a : Sl Int) (x : Int) (w : World) (ha : Lod.rd m w a) : F Try.prog 107 [a.val, .int .i64 x] w (rZ (Value.int .i64) (fun z => 0 ≤ z ↔ x ∈ a.l)) := by
  have hcap : a.n ≤ maxLen := Nat.le_trans ha.2.1 ha.2.2.1
  unfold maxLen at hcap
  have sa : ∀ L, Src m w L a := fun L => Src.arg ha
  refine F_of Try.func107 rfl rfl ?_
  repeat' (first | refine SX_run rfl rfl ?_ | refine SX_nil ?_ | refine SN_W ?_ | refine SW_seq ?_ | refine SW_regionX ?_ | refine SX_guardT rfl ?_ | refine SX_guardF rfl rfl ?_ | refine SX_guardU rfl ?_ | refine SX_gsplitD rfl rfl (fun h => ?_) (fun h => ?_) | refine SX_gsplitN rfl rfl (fun h => ?_) (fun h => ?_) | refine SX_gsplit rfl rfl (fun h => ?_) (fun h => ?_) | refine SW_condT rfl ?_ | refine SW_condF rfl ?_ | refine SW_condD rfl (fun h => ?_) (fun h => ?_) | refine SW_condN rfl (fun h => ?_) (fun h => ?_) | refine SW_condB rfl (fun h => ?_) (fun h => ?_) | refine SW_cond rfl (fun h => ?_) (fun h => ?_) | refine SW_block ?_ | refine SW_skip ?_ | refine SW_exit ?_ | refine SN_bl0 ?_ | refine SN_blS rfl ?_ | refine SW_ret ?_ | refine SX_v (Val_len rfl) ?_ | refine SX_v (Val_fa rfl) ?_ | refine SX_v (Val_add rfl rfl (by omega) (by omega)) ?_ | refine SX_v (Val_sub rfl rfl (by omega) (by omega)) ?_ | refine SX_v (Val_mul rfl rfl (by omega) (by omega)) ?_ | refine SX_v (Val_quoN rfl rfl (by omega) (by omega) (by omega)) ?_ | refine SX_v (Val_remN rfl rfl (by omega) (by omega)) ?_ | refine SX_v (Val_min rfl rfl) ?_ | refine SX_v (Val_beq und_bool rfl rfl) ?_ | refine SX_v (Val_bne und_bool rfl rfl) ?_)
  refine SW_loop (fun k σ L => ∃ i : Nat, k = a.n - i ∧ i ≤ a.n ∧ L = [] ∧ x ∉ a.l.take i ∧ ∃ τ, σ = ups τ [(8, .int .i64 i), (7, .int .i64 a.n), (0, a.val), (1, .int .i64 x)]) a.n Imp.refl ⟨0, rfl, Nat.zero_le _, rfl, by simp, ups_ex ⟨rfl, rfl, rfl, rfl, trivial⟩⟩ ?_
  rintro k σ L ⟨i, rfl, hi, rfl, hpre, τ, rfl⟩
  repeat' (first | refine SX_v (Val_ix (sa _) rfl rfl i rfl (by omega)) ?_ | refine SX_v (Val_ldE (sa _) rfl rfl (by omega) rfl) ?_ | refine SX_run rfl rfl ?_ | refine SX_nil ?_ | refine SN_W ?_ | refine SW_seq ?_ | refine SW_regionX ?_ | refine SX_guardT rfl ?_ | refine SX_guardF rfl rfl ?_ | refine SX_guardU rfl ?_ | refine SX_gsplitD rfl rfl (fun h => ?_) (fun h => ?_) | refine SX_gsplitN rfl rfl (fun h => ?_) (fun h => ?_) | refine SX_gsplit rfl rfl (fun h => ?_) (fun h => ?_) | refine SW_condT rfl ?_ | refine SW_condF rfl ?_ | refine SW_condD rfl (fun h => ?_) (fun h => ?_) | refine SW_condN rfl (fun h => ?_) (fun h => ?_) | refine SW_condB rfl (fun h => ?_) (fun h => ?_) | refine SW_cond rfl (fun h => ?_) (fun h => ?_) | refine SW_block ?_ | refine SW_skip ?_ | refine SW_exit ?_ | refine SN_bl0 ?_ | refine SN_blS rfl ?_ | refine SW_ret ?_ | refine SX_v (Val_len rfl) ?_ | refine SX_v (Val_fa rfl) ?_ | refine SX_v (Val_add rfl rfl (by omega) (by omega)) ?_ | refine SX_v (Val_sub rfl rfl (by omega) (by omega)) ?_ | refine SX_v (Val_mul rfl rfl (by omega) (by omega)) ?_ | refine SX_v (Val_quoN rfl rfl (by omega) (by omega) (by omega)) ?_ | refine SX_v (Val_remN rfl rfl (by omega) (by omega)) ?_ | refine SX_v (Val_min rfl rfl) ?_ | refine SX_v (Val_beq und_bool rfl rfl) ?_ | refine SX_v (Val_bne und_bool rfl rfl) ?_)
  · refine SN_ret1 rfl (RV.tmp rfl) Imp.nil ⟨_, rfl, rfl, ?_⟩
    exact ⟨fun _ => by rw [h]; exact mem_hit _, fun _ => by omega⟩
  · exact SN_back (a.n - (i + 1)) (by omega) Imp.refl ⟨i + 1, rfl, by omega, rfl, mem_step (by omega) hpre (fun e => h e.symm), ups_ex ⟨rfl, rfl, rfl, rfl, trivial⟩⟩
  · have : i = a.n := by omega
    subst this
    refine SN_ret1 rfl (RV.tmp rfl) Imp.nil ⟨_, rfl, rfl, ?_⟩
    exact ⟨fun h => by omega, fun h => absurd h (mem_full hpre)⟩
theorem slHas {m : Nat} (a : Sl Int) (x : Int) (w : World) (ha : Lod.rd m w a) : FB 83 [a.val, .int .i64 x] w (decide (x ∈ a.l)) := by
  refine F_of Try.func83 rfl rfl ?_
  repeat' (first | refine SX_run rfl rfl ?_ | refine SX_nil ?_ | refine SN_W ?_ | refine SW_seq ?_ | refine SW_regionX ?_ | refine SX_guardT rfl ?_ | refine SX_guardF rfl rfl ?_ | refine SX_guardU rfl ?_ | refine SX_gsplitD rfl rfl (fun h => ?_) (fun h => ?_) | refine SX_gsplitN rfl rfl (fun h => ?_) (fun h => ?_) | refine SX_gsplit rfl rfl (fun h => ?_) (fun h => ?_) | refine SW_condT rfl ?_ | refine SW_condF rfl ?_ | refine SW_condD rfl (fun h => ?_) (fun h => ?_) | refine SW_condN rfl (fun h => ?_) (fun h => ?_) | refine SW_condB rfl (fun h => ?_) (fun h => ?_) | refine SW_cond rfl (fun h => ?_) (fun h => ?_) | refine SW_block ?_ | refine SW_skip ?_ | refine SW_exit ?_ | refine SN_bl0 ?_ | refine SN_blS rfl ?_ | refine SW_ret ?_ | refine SX_v (Val_len rfl) ?_ | refine SX_v (Val_fa rfl) ?_ | refine SX_v (Val_add rfl rfl (by omega) (by omega)) ?_ | refine SX_v (Val_sub rfl rfl (by omega) (by omega)) ?_ | refine SX_v (Val_mul rfl rfl (by omega) (by omega)) ?_ | refine SX_v (Val_quoN rfl rfl (by omega) (by omega) (by omega)) ?_ | refine SX_v (Val_remN rfl rfl (by omega) (by omega)) ?_ | refine SX_v (Val_min rfl rfl) ?_ | refine SX_v (Val_beq und_bool rfl rfl) ?_ | refine SX_v (Val_bne und_bool rfl rfl) ?_)
  (refine SWl_at 107 ?_; refine SWl_callZ rfl (fun w hw => slIndex a x w (Src.arg ha w hw)) (fun z hz => SWl_x ?_))
  repeat' (first | refine SX_run rfl rfl ?_ | refine SX_nil ?_ | refine SN_W ?_ | refine SW_seq ?_ | refine SW_regionX ?_ | refine SX_guardT rfl ?_ | refine SX_guardF rfl rfl ?_ | refine SX_guardU rfl ?_ | refine SX_gsplitD rfl rfl (fun h => ?_) (fun h => ?_) | refine SX_gsplitN rfl rfl (fun h => ?_) (fun h => ?_) | refine SX_gsplit rfl rfl (fun h => ?_) (fun h => ?_) | refine SW_condT rfl ?_ | refine SW_condF rfl ?_ | refine SW_condD rfl (fun h => ?_) (fun h => ?_) | refine SW_condN rfl (fun h => ?_) (fun h => ?_) | refine SW_condB rfl (fun h => ?_) (fun h => ?_) | refine SW_cond rfl (fun h => ?_) (fun h => ?_) | refine SW_block ?_ | refine SW_skip ?_ | refine SW_exit ?_ | refine SN_bl0 ?_ | refine SN_blS rfl ?_ | refine SW_ret ?_ | refine SX_v (Val_len rfl) ?_ | refine SX_v (Val_fa rfl) ?_ | refine SX_v (Val_add rfl rfl (by omega) (by omega)) ?_ | refine SX_v (Val_sub rfl rfl (by omega) (by omega)) ?_ | refine SX_v (Val_mul rfl rfl (by omega) (by omega)) ?_ | refine SX_v (Val_quoN rfl rfl (by omega) (by omega) (by omega)) ?_ | refine SX_v (Val_remN rfl rfl (by omega) (by omega)) ?_ | refine SX_v (Val_min rfl rfl) ?_ | refine SX_v (Val_beq und_bool rfl rfl) ?_ | refine SX_v (Val_bne und_bool rfl rfl) ?_)
  refine SN_retB rfl rfl ⟨?_, rfl⟩
  congr 1
  exact decide_eq_decide.2 hz
theorem l4Has_h {m : Nat} (a : Sl Int) (x : Int) (w : World) (ha : Lod.rd m w a) : FB 79 [a.val, .int .i64 x] w (decide (x ∈ a.l)) := by
  have hcap : a.n ≤ maxLen := Nat.le_trans ha.2.1 ha.2.2.1
  unfold maxLen at hcap
  have sa : ∀ L, Src m w L a := fun L => Src.arg ha
  refine F_of Try.func79 rfl rfl ?_
  repeat' (first | refine SX_run rfl rfl ?_ | refine SX_nil ?_ | refine SN_W ?_ | refine SW_seq ?_ | refine SW_regionX ?_ | refine SX_guardT rfl ?_ | refine SX_guardF rfl rfl ?_ | refine SX_guardU rfl ?_ | refine SX_gsplitD rfl rfl (fun h => ?_) (fun h => ?_) | refine SX_gsplitN rfl rfl (fun h => ?_) (fun h => ?_) | refine SX_gsplit rfl rfl (fun h => ?_) (fun h => ?_) | refine SW_condT rfl ?_ | refine SW_condF rfl ?_ | refine SW_condD rfl (fun h => ?_) (fun h => ?_) | refine SW_condN rfl (fun h => ?_) (fun h => ?_) | refine SW_condB rfl (fun h => ?_) (fun h => ?_) | refine SW_cond rfl (fun h => ?_) (fun h => ?_) | refine SW_block ?_ | refine SW_skip ?_ | refine SW_exit ?_ | refine SN_bl0 ?_ | refine SN_blS rfl ?_ | refine SW_ret ?_ | refine SX_v (Val_len rfl) ?_ | refine SX_v (Val_fa rfl) ?_ | refine SX_v (Val_add rfl rfl (by omega) (by omega)) ?_ | refine SX_v (Val_sub rfl rfl (by omega) (by omega)) ?_ | refine SX_v (Val_mul rfl rfl (by omega) (by omega)) ?_ | refine SX_v (Val_quoN rfl rfl (by omega) (by omega) (by omega)) ?_ | refine SX_v (Val_remN rfl rfl (by omega) (by omega)) ?_ | refine SX_v (Val_min rfl rfl) ?_ | refine SX_v (Val_beq und_bool rfl rfl) ?_ | refine SX_v (Val_bne und_bool rfl rfl) ?_)
  refine SW_loop (fun k σ L => ∃ i : Nat, k = a.n - i ∧ i ≤ a.n ∧ L = [] ∧ x ∉ a.l.take i ∧ ∃ τ, σ = ups τ [(5, .int .i64 i), (0, a.val), (1, .int .i64 x)]) a.n Imp.refl ⟨0, rfl, Nat.zero_le _, rfl, by simp, ups_ex ⟨rfl, rfl, rfl, trivial⟩⟩ ?_
  rintro k σ L ⟨i, rfl, hi, rfl, hpre, τ, rfl⟩
  repeat' (first | refine SX_v (Val_ix (sa _) rfl rfl i rfl (by omega)) ?_ | refine SX_v (Val_ldE (sa _) rfl rfl (by omega) rfl) ?_ | refine SX_run rfl rfl ?_ | refine SX_nil ?_ | refine SN_W ?_ | refine SW_seq ?_ | refine SW_regionX ?_ | refine SX_guardT rfl ?_ | refine SX_guardF rfl rfl ?_ | refine SX_guardU rfl ?_ | refine SX_gsplitD rfl rfl (fun h => ?_) (fun h => ?_) | refine SX_gsplitN rfl rfl (fun h => ?_) (fun h => ?_) | refine SX_gsplit rfl rfl (fun h => ?_) (fun h => ?_) | refine SW_condT rfl ?_ | refine SW_condF rfl ?_ | refine SW_condD rfl (fun h => ?_) (fun h => ?_) | refine SW_condN rfl (fun h => ?_) (fun h => ?_) | refine SW_condB rfl (fun h => ?_) (fun h => ?_) | refine SW_cond rfl (fun h => ?_) (fun h => ?_) | refine SW_block ?_ | refine SW_skip ?_ | refine SW_exit ?_ | refine SN_bl0 ?_ | refine SN_blS rfl ?_ | refine SW_ret ?_ | refine SX_v (Val_len rfl) ?_ | refine SX_v (Val_fa rfl) ?_ | refine SX_v (Val_add rfl rfl (by omega) (by omega)) ?_ | refine SX_v (Val_sub rfl rfl (by omega) (by omega)) ?_ | refine SX_v (Val_mul rfl rfl (by omega) (by omega)) ?_ | refine SX_v (Val_quoN rfl rfl (by omega) (by omega) (by omega)) ?_ | refine SX_v (Val_remN rfl rfl (by omega) (by omega)) ?_ | refine SX_v (Val_min rfl rfl) ?_ | refine SX_v (Val_beq und_bool rfl rfl) ?_ | refine SX_v (Val_bne und_bool rfl rfl) ?_)
  · refine SN_retB rfl rfl ⟨?_, rfl⟩
    congr 1
    exact (decide_eq_true (h ▸ mem_hit _)).symm
  · exact SN_back (a.n - (i + 1)) (by omega) Imp.refl ⟨i + 1, rfl, by omega, rfl, mem_step (by omega) hpre h, ups_ex ⟨rfl, rfl, rfl, trivial⟩⟩
  · have : i = a.n := by omega
    subst this
    refine SN_retB rfl rfl ⟨?_, rfl⟩
    congr 1
    exact (decide_eq_false (mem_full hpre)).symm
theorem has_h {m : Nat} (a : Sl Int) (x : Int) (w : World) (ha : Lod.rd m w a) : FB 29 [a.val, .int .i64 x] w (decide (x ∈ a.l)) := by
  have hcap : a.n ≤ maxLen := Nat.le_trans ha.2.1 ha.2.2.1
  unfold maxLen at hcap
  have sa : ∀ L, Src m w L a := fun L => Src.arg ha
  refine F_of Try.func29 rfl rfl ?_
  repeat' (first | refine SX_run rfl rfl ?_ | refine SX_nil ?_ | refine SN_W ?_ | refine SW_seq ?_ | refine SW_regionX ?_ | refine SX_guardT rfl ?_ | refine SX_guardF rfl rfl ?_ | refine SX_guardU rfl ?_ | refine SX_gsplitD rfl rfl (fun h => ?_) (fun h => ?_) | refine SX_gsplitN rfl rfl (fun h => ?_) (fun h => ?_) | refine SX_gsplit rfl rfl (fun h => ?_) (fun h => ?_) | refine SW_condT rfl ?_ | refine SW_condF rfl ?_ | refine SW_condD rfl (fun h => ?_) (fun h => ?_) | refine SW_condN rfl (fun h => ?_) (fun h => ?_) | refine SW_condB rfl (fun h => ?_) (fun h => ?_) | refine SW_cond rfl (fun h => ?_) (fun h => ?_) | refine SW_block ?_ | refine SW_skip ?_ | refine SW_exit ?_ | refine SN_bl0 ?_ | refine SN_blS rfl ?_ | refine SW_ret ?_ | refine SX_v (Val_len rfl) ?_ | refine SX_v (Val_fa rfl) ?_ | refine SX_v (Val_add rfl rfl (by omega) (by omega)) ?_ | refine SX_v (Val_sub rfl rfl (by omega) (by omega)) ?_ | refine SX_v (Val_mul rfl rfl (by omega) (by omega)) ?_ | refine SX_v (Val_quoN rfl rfl (by omega) (by omega) (by omega)) ?_ | refine SX_v (Val_remN rfl rfl (by omega) (by omega)) ?_ | refine SX_v (Val_min rfl rfl) ?_ | refine SX_v (Val_beq und_bool rfl rfl) ?_ | refine SX_v (Val_bne und_bool rfl rfl) ?_)
  refine SW_loop (fun k σ L => ∃ i : Nat, k = a.n - i ∧ i ≤ a.n ∧ L = [] ∧ x ∉ a.l.take i ∧ ∃ τ, σ = ups τ [(5, .int .i64 i), (0, a.val), (1, .int .i64 x)]) a.n Imp.refl ⟨0, rfl, Nat.zero_le _, rfl, by simp, ups_ex ⟨rfl, rfl, rfl, trivial⟩⟩ ?_
  rintro k σ L ⟨i, rfl, hi, rfl, hpre, τ, rfl⟩
  repeat' (first | refine SX_v (Val_ix (sa _) rfl rfl i rfl (by omega)) ?_ | refine SX_v (Val_ldE (sa _) rfl rfl (by omega) rfl) ?_ | refine SX_run rfl rfl ?_ | refine SX_nil ?_ | refine SN_W ?_ | refine SW_seq ?_ | refine SW_regionX ?_ | refine SX_guardT rfl ?_ | refine SX_guardF rfl rfl ?_ | refine SX_guardU rfl ?_ | refine SX_gsplitD rfl rfl (fun h => ?_) (fun h => ?_) | refine SX_gsplitN rfl rfl (fun h => ?_) (fun h => ?_) | refine SX_gsplit rfl rfl (fun h => ?_) (fun h => ?_) | refine SW_condT rfl ?_ | refine SW_condF rfl ?_ | refine SW_condD rfl (fun h => ?_) (fun h => ?_) | refine SW_condN rfl (fun h => ?_) (fun h => ?_) | refine SW_condB rfl (fun h => ?_) (fun h => ?_) | refine SW_cond rfl (fun h => ?_) (fun h => ?_) | refine SW_block ?_ | refine SW_skip ?_ | refine SW_exit ?_ | refine SN_bl0 ?_ | refine SN_blS rfl ?_ | refine SW_ret ?_ | refine SX_v (Val_len rfl) ?_ | refine SX_v (Val_fa rfl) ?_ | refine SX_v (Val_add rfl rfl (by omega) (by omega)) ?_ | refine SX_v (Val_sub rfl rfl (by omega) (by omega)) ?_ | refine SX_v (Val_mul rfl rfl (by omega) (by omega)) ?_ | refine SX_v (Val_quoN rfl rfl (by omega) (by omega) (by omega)) ?_ | refine SX_v (Val_remN rfl rfl (by omega) (by omega)) ?_ | refine SX_v (Val_min rfl rfl) ?_ | refine SX_v (Val_beq und_bool rfl rfl) ?_ | refine SX_v (Val_bne und_bool rfl rfl) ?_)
  · refine SN_retB rfl rfl ⟨?_, rfl⟩
    congr 1
    exact (decide_eq_true (h ▸ mem_hit _)).symm
  · exact SN_back (a.n - (i + 1)) (by omega) Imp.refl ⟨i + 1, rfl, by omega, rfl, mem_step (by omega) hpre h, ups_ex ⟨rfl, rfl, rfl, trivial⟩⟩
  · have : i = a.n := by omega
    subst this
    refine SN_retB rfl rfl ⟨?_, rfl⟩
    congr 1
    exact (decide_eq_false (mem_full hpre)).symm
end Go.Proofs.Ytandadfmmohhhaa.E
