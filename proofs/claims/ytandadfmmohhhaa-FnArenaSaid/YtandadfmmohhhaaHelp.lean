/-
  The laws' own helpers: copies of what came in, comparisons, marks.
-/
import Derived.Test.YtandadfmmohhhaaNum
namespace Go.Proofs.Ytandadfmmohhhaa.E
open Go Go.RowKit

theorem take_step {α : Type} {a b : List α} {i : Nat} (ha : i < a.length) (hb : i < b.length) (h : a.take i = b.take i) (e : a[i] = b[i]) : a.take (i + 1) = b.take (i + 1) := by
  rw [List.take_succ_eq_append_getElem ha, List.take_succ_eq_append_getElem hb, h, e]
theorem take_ne {α : Type} {a b : List α} {i : Nat} (ha : i < a.length) (hb : i < b.length) (e : ¬ a[i] = b[i]) : a ≠ b := by
  rintro rfl; exact e rfl
theorem eqS_end {α : Type} {a b : List α} {n : Nat} (ha : a.length = n) (hb : b.length = n) (h : a.take n = b.take n) : a = b := by
  rw [List.take_of_length_le (by omega), List.take_of_length_le (by omega)] at h; exact h
theorem set_step {α β : Type} (l : List α) (r : List β) (g : α → β) (i : Nat) (hi : i < l.length) (hr : r.length = l.length) (h : r.take i = (l.take i).map g) : (r.set i (g l[i])).take (i + 1) = (l.take (i + 1)).map g := by
  rw [List.take_succ_eq_append_getElem (l := l) hi, List.map_append, ← h, List.take_succ_eq_append_getElem (by rw [List.length_set]; omega), List.take_set_of_le (Nat.le_refl _)]
  simp

/-- k, k+1, .. -/
def nums (k n : Nat) : List Int := (List.range n).map fun i : Nat => (k : Int) + (i : Int)
theorem nums_step {k i : Nat} {l : List Int} (h : l.take i = nums k i) (hi : i < l.length) : (l.set i ((k : Int) + i)).take (i + 1) = nums k (i + 1) := by
  rw [nums, List.range_succ, List.map_append, List.take_succ_eq_append_getElem (by rw [List.length_set]; omega), List.take_set_of_le (Nat.le_refl _), h]
  simp [nums]
theorem nums_nth {k : Nat} (s : Sl Int) (h : s.l = nums k s.n) (i : Nat) (hi : i < s.n) : s.nth i hi = (k : Int) + i := by
  unfold Sl.nth
  simp [h, nums]

theorem eqIntS {m : Nat} (a b : Sl Int) (w : World) (ha : Lod.rd m w a) (hb : Lod.rd m w b) : FB 33 [a.val, b.val] w (decide (a.l = b.l)) := by
  have hcap : a.n ≤ maxLen := Nat.le_trans ha.2.1 ha.2.2.1
  unfold maxLen at hcap
  have sa : ∀ L, Src m w L a := fun L => Src.arg ha
  have sb : ∀ L, Src m w L b := fun L => Src.arg hb
  refine F_of Try.func33 rfl rfl ?_
  repeat' (first | refine SX_run rfl rfl ?_ | refine SX_nil ?_ | refine SN_W ?_ | refine SW_seq ?_ | refine SW_regionX ?_ | refine SX_guardT rfl ?_ | refine SX_guardF rfl rfl ?_ | refine SX_guardU rfl ?_ | refine SX_gsplitD rfl rfl (fun h => ?_) (fun h => ?_) | refine SX_gsplitN rfl rfl (fun h => ?_) (fun h => ?_) | refine SX_gsplit rfl rfl (fun h => ?_) (fun h => ?_) | refine SW_condT rfl ?_ | refine SW_condF rfl ?_ | refine SW_condD rfl (fun h => ?_) (fun h => ?_) | refine SW_condN rfl (fun h => ?_) (fun h => ?_) | refine SW_condB rfl (fun h => ?_) (fun h => ?_) | refine SW_cond rfl (fun h => ?_) (fun h => ?_) | refine SW_block ?_ | refine SW_skip ?_ | refine SW_exit ?_ | refine SN_bl0 ?_ | refine SN_blS rfl ?_ | refine SW_ret ?_ | refine SX_v (Val_len rfl) ?_ | refine SX_v (Val_fa rfl) ?_ | refine SX_v (Val_add rfl rfl (by omega) (by omega)) ?_ | refine SX_v (Val_sub rfl rfl (by omega) (by omega)) ?_ | refine SX_v (Val_mul rfl rfl (by omega) (by omega)) ?_ | refine SX_v (Val_quoN rfl rfl (by omega) (by omega) (by omega)) ?_ | refine SX_v (Val_remN rfl rfl (by omega) (by omega)) ?_ | refine SX_v (Val_min rfl rfl) ?_ | refine SX_v (Val_beq und_bool rfl rfl) ?_ | refine SX_v (Val_bne und_bool rfl rfl) ?_)
  · refine SN_retB rfl rfl ⟨?_, rfl⟩
    congr 1
    have : a.l ≠ b.l := fun e => h (by have := a.hn; have := b.hn; rw [e] at *; omega)
    simp [this]
  · have hab : a.n = b.n := by omega
    clear h
    refine SW_loop (fun k σ L => ∃ i : Nat, k = a.n - i ∧ i ≤ a.n ∧ L = [] ∧ a.l.take i = b.l.take i ∧ ∃ τ, σ = ups τ [(5, .int .i64 i), (0, a.val), (1, b.val)]) a.n Imp.refl ⟨0, rfl, Nat.zero_le _, rfl, rfl, ups_ex ⟨rfl, rfl, rfl, trivial⟩⟩ ?_
    rintro k σ L ⟨i, rfl, hi, rfl, hpre, τ, rfl⟩
    repeat' (first | refine SX_v (Val_ix (sa _) rfl rfl i rfl (by omega)) ?_ | refine SX_v (Val_ix (sb _) rfl rfl i rfl (by omega)) ?_ | refine SX_v (Val_ldE (sa _) rfl rfl (by omega) rfl) ?_ | refine SX_v (Val_ldE (sb _) rfl rfl (by omega) rfl) ?_ | refine SX_run rfl rfl ?_ | refine SX_nil ?_ | refine SN_W ?_ | refine SW_seq ?_ | refine SW_regionX ?_ | refine SX_guardT rfl ?_ | refine SX_guardF rfl rfl ?_ | refine SX_guardU rfl ?_ | refine SX_gsplitD rfl rfl (fun h => ?_) (fun h => ?_) | refine SX_gsplitN rfl rfl (fun h => ?_) (fun h => ?_) | refine SX_gsplit rfl rfl (fun h => ?_) (fun h => ?_) | refine SW_condT rfl ?_ | refine SW_condF rfl ?_ | refine SW_condD rfl (fun h => ?_) (fun h => ?_) | refine SW_condN rfl (fun h => ?_) (fun h => ?_) | refine SW_condB rfl (fun h => ?_) (fun h => ?_) | refine SW_cond rfl (fun h => ?_) (fun h => ?_) | refine SW_block ?_ | refine SW_skip ?_ | refine SW_exit ?_ | refine SN_bl0 ?_ | refine SN_blS rfl ?_ | refine SW_ret ?_ | refine SX_v (Val_len rfl) ?_ | refine SX_v (Val_fa rfl) ?_ | refine SX_v (Val_add rfl rfl (by omega) (by omega)) ?_ | refine SX_v (Val_sub rfl rfl (by omega) (by omega)) ?_ | refine SX_v (Val_mul rfl rfl (by omega) (by omega)) ?_ | refine SX_v (Val_quoN rfl rfl (by omega) (by omega) (by omega)) ?_ | refine SX_v (Val_remN rfl rfl (by omega) (by omega)) ?_ | refine SX_v (Val_min rfl rfl) ?_ | refine SX_v (Val_beq und_bool rfl rfl) ?_ | refine SX_v (Val_bne und_bool rfl rfl) ?_ | refine SW_regionD mixed (by kernel_rfl) ?_)
    · rename_i hlt
      refine SN_retB rfl rfl ⟨?_, rfl⟩
      congr 1
      exact (decide_eq_false (take_ne (by have := a.hn; omega) (by have := b.hn; omega) h)).symm
    · rename_i hlt
      refine SN_back (a.n - (i + 1)) (by omega) Imp.refl ⟨i + 1, rfl, by omega, rfl, take_step (by have := a.hn; omega) (by have := b.hn; omega) hpre h, ups_ex ⟨rfl, rfl, rfl, trivial⟩⟩
    · have : i = a.n := by omega
      subst this
      refine SN_retB rfl rfl ⟨?_, rfl⟩
      congr 1
      exact (decide_eq_true (eqS_end a.hn (by have := b.hn; omega) hpre)).symm
theorem toIntS {m : Nat} (a : Sl Int) (w : World) (ha : Lod.rd m w a) (hl : a.n ≤ lim) : F Try.prog 64 [a.val] w (rB Sl.val (fun r : Sl Int => r.l = a.l)) := by
  have hl' := hl
  unfold lim at hl'
  have sa : ∀ L, Src m w L a := fun L => Src.arg ha
  refine F_of Try.func64 rfl rfl ?_
  repeat' (first | refine SX_w (SWl_mk a.n rfl rfl rfl hl (0 : Int) (by rfl) (by rfl) (by rfl) (by rfl) rfl (fun _ => trivial) (fun r hr hn => SWl_x ?_)) | refine SX_run rfl rfl ?_ | refine SX_nil ?_ | refine SN_W ?_ | refine SW_seq ?_ | refine SW_regionX ?_ | refine SX_guardT rfl ?_ | refine SX_guardF rfl rfl ?_ | refine SX_guardU rfl ?_ | refine SX_gsplitD rfl rfl (fun h => ?_) (fun h => ?_) | refine SX_gsplitN rfl rfl (fun h => ?_) (fun h => ?_) | refine SX_gsplit rfl rfl (fun h => ?_) (fun h => ?_) | refine SW_condT rfl ?_ | refine SW_condF rfl ?_ | refine SW_condD rfl (fun h => ?_) (fun h => ?_) | refine SW_condN rfl (fun h => ?_) (fun h => ?_) | refine SW_condB rfl (fun h => ?_) (fun h => ?_) | refine SW_cond rfl (fun h => ?_) (fun h => ?_) | refine SW_block ?_ | refine SW_skip ?_ | refine SW_exit ?_ | refine SN_bl0 ?_ | refine SN_blS rfl ?_ | refine SW_ret ?_ | refine SX_v (Val_len rfl) ?_ | refine SX_v (Val_fa rfl) ?_ | refine SX_v (Val_add rfl rfl (by omega) (by omega)) ?_ | refine SX_v (Val_sub rfl rfl (by omega) (by omega)) ?_ | refine SX_v (Val_mul rfl rfl (by omega) (by omega)) ?_ | refine SX_v (Val_quoN rfl rfl (by omega) (by omega) (by omega)) ?_ | refine SX_v (Val_remN rfl rfl (by omega) (by omega)) ?_ | refine SX_v (Val_min rfl rfl) ?_ | refine SX_v (Val_beq und_bool rfl rfl) ?_ | refine SX_v (Val_bne und_bool rfl rfl) ?_)
  refine SW_loop (fun k σ L => ∃ (i : Nat) (r' : Sl Int), k = a.n - i ∧ i ≤ a.n ∧ r'.n = a.n ∧ L = [Own r'] ∧ r'.l.take i = (a.l.take i).map id ∧ ∃ τ, σ = ups τ [(4, .int .i64 i), (0, a.val), (3, r'.val)]) a.n Imp.refl ⟨0, r, rfl, Nat.zero_le _, hn, rfl, rfl, ups_ex ⟨rfl, rfl, rfl, trivial⟩⟩ ?_
  rintro k σ L ⟨i, r', rfl, hi, hrn, rfl, hpre, τ, rfl⟩
  repeat' (first | refine SX_v (Val_ix (sa _) rfl rfl i rfl (by omega)) ?_ | refine SX_v (Val_ldE (sa _) rfl rfl (by omega) rfl) ?_ | refine SX_v (Val_ix (Src.own 0 rfl : Src lim w _ r') rfl rfl i rfl (by omega)) ?_ | refine SX_w (SWl_stS 0 (s := r') rfl (i := i) (j := 0) rfl rfl rfl (by omega) rfl rfl rfl _ rfl rfl (fun _ _ => trivial) (SWl_x ?_)) | refine SX_run rfl rfl ?_ | refine SX_nil ?_ | refine SN_W ?_ | refine SW_seq ?_ | refine SW_regionX ?_ | refine SX_guardT rfl ?_ | refine SX_guardF rfl rfl ?_ | refine SX_guardU rfl ?_ | refine SX_gsplitD rfl rfl (fun h => ?_) (fun h => ?_) | refine SX_gsplitN rfl rfl (fun h => ?_) (fun h => ?_) | refine SX_gsplit rfl rfl (fun h => ?_) (fun h => ?_) | refine SW_condT rfl ?_ | refine SW_condF rfl ?_ | refine SW_condD rfl (fun h => ?_) (fun h => ?_) | refine SW_condN rfl (fun h => ?_) (fun h => ?_) | refine SW_condB rfl (fun h => ?_) (fun h => ?_) | refine SW_cond rfl (fun h => ?_) (fun h => ?_) | refine SW_block ?_ | refine SW_skip ?_ | refine SW_exit ?_ | refine SN_bl0 ?_ | refine SN_blS rfl ?_ | refine SW_ret ?_ | refine SX_v (Val_len rfl) ?_ | refine SX_v (Val_fa rfl) ?_ | refine SX_v (Val_add rfl rfl (by omega) (by omega)) ?_ | refine SX_v (Val_sub rfl rfl (by omega) (by omega)) ?_ | refine SX_v (Val_mul rfl rfl (by omega) (by omega)) ?_ | refine SX_v (Val_quoN rfl rfl (by omega) (by omega) (by omega)) ?_ | refine SX_v (Val_remN rfl rfl (by omega) (by omega)) ?_ | refine SX_v (Val_min rfl rfl) ?_ | refine SX_v (Val_beq und_bool rfl rfl) ?_ | refine SX_v (Val_bne und_bool rfl rfl) ?_)
  · have hil : i < a.l.length := by have := a.hn; omega
    refine SN_back (a.n - (i + 1)) (by omega) Imp.refl ⟨i + 1, r'.upd i (a.nth i (by omega)), rfl, by omega, hrn, rfl, set_step a.l r'.l id i hil (by have := a.hn; have := r'.hn; omega) hpre, ups_ex ⟨rfl, rfl, rfl, trivial⟩⟩
  · have : i = a.n := by omega
    subst this
    refine SN_ret1 rfl (RV.tmp rfl) Imp.refl ⟨r', rfl, rfl, ?_⟩
    exact eqS_end (n := a.n) (by have := r'.hn; omega) a.hn (by rw [List.map_id] at hpre; exact hpre)
theorem markIntS (s : Sl Int) (k : Nat) (R : List Atom) (w0 : World) (hk : k + s.n ≤ lim) (w : World) (hw : St w0 w (Own s :: R)) :
    C Try.prog 35 #[s.val, .int .i64 k] w fun v w' => ∃ M, (v = .int .i64 ((k + s.n : Nat) : Int) ∧ ∃ s' : Sl Int, s'.val = s.val ∧ s'.n = s.n ∧ s'.l = nums k s.n ∧ M = Own s' :: R) ∧ St w0 w' M := by
  have hk' := hk
  unfold lim at hk'
  refine FM_of Try.func35 rfl rfl ?_ w hw
  repeat' (first | refine SX_run rfl rfl ?_ | refine SX_nil ?_ | refine SN_W ?_ | refine SW_seq ?_ | refine SW_regionX ?_ | refine SX_guardT rfl ?_ | refine SX_guardF rfl rfl ?_ | refine SX_guardU rfl ?_ | refine SX_gsplitD rfl rfl (fun h => ?_) (fun h => ?_) | refine SX_gsplitN rfl rfl (fun h => ?_) (fun h => ?_) | refine SX_gsplit rfl rfl (fun h => ?_) (fun h => ?_) | refine SW_condT rfl ?_ | refine SW_condF rfl ?_ | refine SW_condD rfl (fun h => ?_) (fun h => ?_) | refine SW_condN rfl (fun h => ?_) (fun h => ?_) | refine SW_condB rfl (fun h => ?_) (fun h => ?_) | refine SW_cond rfl (fun h => ?_) (fun h => ?_) | refine SW_block ?_ | refine SW_skip ?_ | refine SW_exit ?_ | refine SN_bl0 ?_ | refine SN_blS rfl ?_ | refine SW_ret ?_ | refine SX_v (Val_len rfl) ?_ | refine SX_v (Val_fa rfl) ?_ | refine SX_v (Val_add rfl rfl (by omega) (by omega)) ?_ | refine SX_v (Val_sub rfl rfl (by omega) (by omega)) ?_ | refine SX_v (Val_mul rfl rfl (by omega) (by omega)) ?_ | refine SX_v (Val_quoN rfl rfl (by omega) (by omega) (by omega)) ?_ | refine SX_v (Val_remN rfl rfl (by omega) (by omega)) ?_ | refine SX_v (Val_min rfl rfl) ?_ | refine SX_v (Val_beq und_bool rfl rfl) ?_ | refine SX_v (Val_bne und_bool rfl rfl) ?_)
  refine SW_loop (fun m σ M => ∃ (i : Nat) (s' : Sl Int), m = s.n - i ∧ i ≤ s.n ∧ s'.val = s.val ∧ s'.n = s.n ∧ M = Own s' :: R ∧ s'.l.take i = nums k i ∧ ∃ τ, σ = ups τ [(5, .int .i64 i), (0, s'.val), (1, .int .i64 ((k : Int) + i))]) s.n Imp.refl ⟨0, s, rfl, Nat.zero_le _, rfl, rfl, rfl, List.take_zero, ups_ex ⟨rfl, rfl, ?_, trivial⟩⟩ ?_
  · show _ = Value.int .i64 ((k : Int) + (0 : Nat))
    simp; rfl
  rintro m σ M ⟨i, s', rfl, hi, hv, hsn, rfl, hpre, τ, rfl⟩
  repeat' (first | refine SX_v (Val_ix (Src.own 0 rfl : Src lim w0 _ s') rfl rfl i rfl (by omega)) ?_ | refine SX_w (SWl_stS 0 (s := s') rfl (i := i) (j := 0) rfl rfl rfl (by omega) rfl rfl rfl ((k : Int) + i) rfl rfl (fun _ _ => trivial) (SWl_x ?_)) | refine SX_run rfl rfl ?_ | refine SX_nil ?_ | refine SN_W ?_ | refine SW_seq ?_ | refine SW_regionX ?_ | refine SX_guardT rfl ?_ | refine SX_guardF rfl rfl ?_ | refine SX_guardU rfl ?_ | refine SX_gsplitD rfl rfl (fun h => ?_) (fun h => ?_) | refine SX_gsplitN rfl rfl (fun h => ?_) (fun h => ?_) | refine SX_gsplit rfl rfl (fun h => ?_) (fun h => ?_) | refine SW_condT rfl ?_ | refine SW_condF rfl ?_ | refine SW_condD rfl (fun h => ?_) (fun h => ?_) | refine SW_condN rfl (fun h => ?_) (fun h => ?_) | refine SW_condB rfl (fun h => ?_) (fun h => ?_) | refine SW_cond rfl (fun h => ?_) (fun h => ?_) | refine SW_block ?_ | refine SW_skip ?_ | refine SW_exit ?_ | refine SN_bl0 ?_ | refine SN_blS rfl ?_ | refine SW_ret ?_ | refine SX_v (Val_len rfl) ?_ | refine SX_v (Val_fa rfl) ?_ | refine SX_v (Val_add rfl rfl (by omega) (by omega)) ?_ | refine SX_v (Val_sub rfl rfl (by omega) (by omega)) ?_ | refine SX_v (Val_mul rfl rfl (by omega) (by omega)) ?_ | refine SX_v (Val_quoN rfl rfl (by omega) (by omega) (by omega)) ?_ | refine SX_v (Val_remN rfl rfl (by omega) (by omega)) ?_ | refine SX_v (Val_min rfl rfl) ?_ | refine SX_v (Val_beq und_bool rfl rfl) ?_ | refine SX_v (Val_bne und_bool rfl rfl) ?_)
  · refine SN_back (s.n - (i + 1)) (by omega) Imp.refl ⟨i + 1, s'.upd i ((k : Int) + i), rfl, by omega, hv, hsn, rfl, nums_step hpre (by have := s'.hn; omega), ups_ex ⟨rfl, rfl, ?_, trivial⟩⟩
    show _ = Value.int .i64 ((k : Int) + (i + 1 : Nat))
    rw [Int.natCast_add, ← Int.add_assoc]; rfl
  · have : i = s.n := by omega
    subst this
    refine SN_ret1 rfl (RV.tmp rfl) Imp.refl ⟨?_, s', hv, hsn, ?_, rfl⟩
    · rw [Int.natCast_add]; rfl
    · rw [← hpre, List.take_of_length_le (by have := s'.hn; omega)]
theorem heldIntS {m : Nat} (s : Sl Int) (k : Nat) (w : World) (hs : Lod.rd m w s) (hl : s.l = nums k s.n) (hk : k + s.n ≤ lim) : FI 36 [s.val, .int .i64 k] w ((k + s.n : Nat) : Int) := by
  have hk' := hk
  unfold lim at hk'
  have ss : ∀ L, Src m w L s := fun L => Src.arg hs
  refine F_of Try.func36 rfl rfl ?_
  repeat' (first | refine SX_run rfl rfl ?_ | refine SX_nil ?_ | refine SN_W ?_ | refine SW_seq ?_ | refine SW_regionX ?_ | refine SX_guardT rfl ?_ | refine SX_guardF rfl rfl ?_ | refine SX_guardU rfl ?_ | refine SX_gsplitD rfl rfl (fun h => ?_) (fun h => ?_) | refine SX_gsplitN rfl rfl (fun h => ?_) (fun h => ?_) | refine SX_gsplit rfl rfl (fun h => ?_) (fun h => ?_) | refine SW_condT rfl ?_ | refine SW_condF rfl ?_ | refine SW_condD rfl (fun h => ?_) (fun h => ?_) | refine SW_condN rfl (fun h => ?_) (fun h => ?_) | refine SW_condB rfl (fun h => ?_) (fun h => ?_) | refine SW_cond rfl (fun h => ?_) (fun h => ?_) | refine SW_block ?_ | refine SW_skip ?_ | refine SW_exit ?_ | refine SN_bl0 ?_ | refine SN_blS rfl ?_ | refine SW_ret ?_ | refine SX_v (Val_len rfl) ?_ | refine SX_v (Val_fa rfl) ?_ | refine SX_v (Val_add rfl rfl (by omega) (by omega)) ?_ | refine SX_v (Val_sub rfl rfl (by omega) (by omega)) ?_ | refine SX_v (Val_mul rfl rfl (by omega) (by omega)) ?_ | refine SX_v (Val_quoN rfl rfl (by omega) (by omega) (by omega)) ?_ | refine SX_v (Val_remN rfl rfl (by omega) (by omega)) ?_ | refine SX_v (Val_min rfl rfl) ?_ | refine SX_v (Val_beq und_bool rfl rfl) ?_ | refine SX_v (Val_bne und_bool rfl rfl) ?_)
  refine SW_loop (fun m σ M => ∃ (i : Nat), m = s.n - i ∧ i ≤ s.n ∧ M = [] ∧ ∃ τ, σ = ups τ [(5, .int .i64 i), (0, s.val), (1, .int .i64 ((k : Int) + i))]) s.n Imp.refl ⟨0, rfl, Nat.zero_le _, rfl, ups_ex ⟨rfl, rfl, ?_, trivial⟩⟩ ?_
  · show _ = Value.int .i64 ((k : Int) + (0 : Nat))
    simp; rfl
  rintro m σ M ⟨i, rfl, hi, rfl, τ, rfl⟩
  repeat' (first | refine SX_v (Val_ix (ss _) rfl rfl i rfl (by omega)) ?_ | refine SX_v (Val_ldE (ss _) rfl rfl (by omega) rfl) ?_ | refine SX_run rfl rfl ?_ | refine SX_nil ?_ | refine SN_W ?_ | refine SW_seq ?_ | refine SW_regionX ?_ | refine SX_guardT rfl ?_ | refine SX_guardF rfl rfl ?_ | refine SX_guardU rfl ?_ | refine SX_gsplitD rfl rfl (fun h => ?_) (fun h => ?_) | refine SX_gsplitN rfl rfl (fun h => ?_) (fun h => ?_) | refine SX_gsplit rfl rfl (fun h => ?_) (fun h => ?_) | refine SW_condT rfl ?_ | refine SW_condF rfl ?_ | refine SW_condD rfl (fun h => ?_) (fun h => ?_) | refine SW_condN rfl (fun h => ?_) (fun h => ?_) | refine SW_condB rfl (fun h => ?_) (fun h => ?_) | refine SW_cond rfl (fun h => ?_) (fun h => ?_) | refine SW_block ?_ | refine SW_skip ?_ | refine SW_exit ?_ | refine SN_bl0 ?_ | refine SN_blS rfl ?_ | refine SW_ret ?_ | refine SX_v (Val_len rfl) ?_ | refine SX_v (Val_fa rfl) ?_ | refine SX_v (Val_add rfl rfl (by omega) (by omega)) ?_ | refine SX_v (Val_sub rfl rfl (by omega) (by omega)) ?_ | refine SX_v (Val_mul rfl rfl (by omega) (by omega)) ?_ | refine SX_v (Val_quoN rfl rfl (by omega) (by omega) (by omega)) ?_ | refine SX_v (Val_remN rfl rfl (by omega) (by omega)) ?_ | refine SX_v (Val_min rfl rfl) ?_ | refine SX_v (Val_beq und_bool rfl rfl) ?_ | refine SX_v (Val_bne und_bool rfl rfl) ?_)
  · exact absurd (nums_nth s hl i (by omega)) h
  · refine SN_back (s.n - (i + 1)) (by omega) Imp.refl ⟨i + 1, rfl, by omega, rfl, ups_ex ⟨rfl, rfl, ?_, trivial⟩⟩
    show _ = Value.int .i64 ((k : Int) + (i + 1 : Nat))
    rw [Int.natCast_add, ← Int.add_assoc]; rfl
  · have : i = s.n := by omega
    subst this
    refine SN_ret1 rfl (RV.tmp rfl) Imp.nil ⟨?_, rfl⟩
    rw [Int.natCast_add]; rfl
end Go.Proofs.Ytandadfmmohhhaa.E
