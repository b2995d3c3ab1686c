/-
  In turn all of a list come.
-/
import Derived.Test.YticbocfalhjhaaaDr
import Derived.Test.YticbocfalhjhaaaTurns
import Derived.Test.YticbocfalhjhaaaSl
import Derived.Test.YticbocfalhjhaaaLaw
namespace Go.Proofs.Yticbocfalhjhaaa.E
open Go Go.RowKit
set_option maxRecDepth 100000
set_option maxHeartbeats 4000000

/-! who is next, plain -/
structure Acc (last : Int) (P : List Int) (le ne : Int) : Prop where
  le0 : (le = -1 ∧ ∀ s ∈ P, s < 0) ∨ (0 ≤ le ∧ le ∈ P ∧ ∀ s ∈ P, 0 ≤ s → le ≤ s)
  ne0 : (ne = -1 ∧ ∀ s ∈ P, 0 ≤ s → s ≤ last) ∨ (0 ≤ ne ∧ ne ∈ P ∧ last < ne ∧ ∀ s ∈ P, 0 ≤ s → last < s → ne ≤ s)
theorem Acc.skip {last : Int} {P : List Int} {le ne n : Int} (h : Acc last P le ne) (hn : n < 0) : Acc last (P ++ [n]) le ne := by
  obtain ⟨h1, h2⟩ := h
  refine ⟨?_, ?_⟩
  · rcases h1 with ⟨a, c⟩ | ⟨a, c, d⟩
    · exact .inl ⟨a, fun s hs => by
        rcases List.mem_append.1 hs with hs | hs
        · exact c s hs
        · rw [List.mem_singleton] at hs; omega⟩
    · exact .inr ⟨a, List.mem_append_left _ c, fun s hs h0 => by
        rcases List.mem_append.1 hs with hs | hs
        · exact d s hs h0
        · rw [List.mem_singleton] at hs; omega⟩
  · rcases h2 with ⟨a, c⟩ | ⟨a, c, d, e⟩
    · exact .inl ⟨a, fun s hs h0 => by
        rcases List.mem_append.1 hs with hs | hs
        · exact c s hs h0
        · rw [List.mem_singleton] at hs; omega⟩
    · exact .inr ⟨a, List.mem_append_left _ c, d, fun s hs h0 h3 => by
        rcases List.mem_append.1 hs with hs | hs
        · exact e s hs h0 h3
        · rw [List.mem_singleton] at hs; omega⟩
theorem Acc.take {last : Int} {P : List Int} {le ne n : Int} (h : Acc last P le ne) (hn : 0 ≤ n) : Acc last (P ++ [n]) (if le < 0 ∨ n < le then n else le) (if last < n ∧ (ne < 0 ∨ n < ne) then n else ne) := by
  obtain ⟨h1, h2⟩ := h
  refine ⟨.inr ?_, ?_⟩
  · by_cases hc : le < 0 ∨ n < le
    · rw [if_pos hc]
      refine ⟨hn, by simp, fun s hs h0 => ?_⟩
      rcases List.mem_append.1 hs with hs | hs
      · rcases h1 with ⟨a, c⟩ | ⟨a, c, d⟩
        · have := c s hs; omega
        · have := d s hs h0; omega
      · rw [List.mem_singleton] at hs; omega
    · rw [if_neg hc]
      rcases h1 with ⟨a, c⟩ | ⟨a, c, d⟩
      · omega
      · refine ⟨a, List.mem_append_left _ c, fun s hs h0 => ?_⟩
        rcases List.mem_append.1 hs with hs | hs
        · exact d s hs h0
        · rw [List.mem_singleton] at hs; omega
  · by_cases hc : last < n ∧ (ne < 0 ∨ n < ne)
    · rw [if_pos hc]
      refine .inr ⟨hn, by simp, hc.1, fun s hs h0 h3 => ?_⟩
      rcases List.mem_append.1 hs with hs | hs
      · rcases h2 with ⟨a, c⟩ | ⟨a, c, d, e⟩
        · have := c s hs h0; omega
        · have := e s hs h0 h3; omega
      · rw [List.mem_singleton] at hs; omega
    · rw [if_neg hc]
      rcases h2 with ⟨a, c⟩ | ⟨a, c, d, e⟩
      · refine .inl ⟨a, fun s hs h0 => ?_⟩
        rcases List.mem_append.1 hs with hs | hs
        · exact c s hs h0
        · rw [List.mem_singleton] at hs; omega
      · refine .inr ⟨a, List.mem_append_left _ c, d, fun s hs h0 h3 => ?_⟩
        rcases List.mem_append.1 hs with hs | hs
        · exact e s hs h0 h3
        · rw [List.mem_singleton] at hs; omega
theorem rn_acc (last : Int) : ∀ (l P : List Int) (le ne : Int), Acc last P le ne → ∃ le' ne', Acc last (P ++ l) le' ne' ∧ rn last (-1) l le ne = if 0 ≤ ne' then ne' else le'
  | [], P, le, ne, h => ⟨le, ne, by rw [List.append_nil]; exact h, rfl⟩
  | n :: l, P, le, ne, h => by
    unfold rn
    by_cases hn : n < 0
    · rw [if_pos hn]
      obtain ⟨le', ne', h1, h2⟩ := rn_acc last l (P ++ [n]) le ne (h.skip hn)
      exact ⟨le', ne', by rw [List.append_assoc] at h1; exact h1, h2⟩
    · rw [if_neg hn, if_neg (by omega)]
      obtain ⟨le', ne', h1, h2⟩ := rn_acc last l (P ++ [n]) _ _ (h.take (by omega))
      exact ⟨le', ne', by rw [List.append_assoc] at h1; exact h1, h2⟩
/-- Who is next. -/
abbrev nxt (l : List Int) (last : Int) : Int := rn last (-1) l (-1) (-1)
theorem nxt_spec (l : List Int) (last : Int) : ∃ le ne, Acc last l le ne ∧ nxt l last = if 0 ≤ ne then ne else le := by
  have := rn_acc last l [] (-1) (-1) ⟨.inl ⟨rfl, fun _ h => nomatch h⟩, .inl ⟨rfl, fun _ h => nomatch h⟩⟩
  simpa using this
theorem rn_mem (last pick : Int) : ∀ (l : List Int) (le ne : Int), rn last pick l le ne = le ∨ rn last pick l le ne = ne ∨ rn last pick l le ne ∈ l
  | [], le, ne => by unfold rn; split <;> simp
  | n :: l, le, ne => by
    unfold rn
    split
    · rcases rn_mem last pick l le ne with e | e | e
      · exact .inl e
      · exact .inr (.inl e)
      · exact .inr (.inr (List.mem_cons_of_mem _ e))
    · split
      · exact .inr (.inr (by simp))
      · rcases rn_mem last pick l (if le < 0 ∨ n < le then n else le) (if last < n ∧ (ne < 0 ∨ n < ne) then n else ne) with e | e | e
        · rw [e]; split
          · exact .inr (.inr (by simp))
          · exact .inl rfl
        · rw [e]; split
          · exact .inr (.inr (by simp))
          · exact .inr (.inl rfl)
        · exact .inr (.inr (List.mem_cons_of_mem _ e))
theorem rn_pick {last pick : Int} (hp : 0 ≤ pick) : ∀ (l : List Int) (le ne : Int), pick ∈ l → rn last pick l le ne = pick
  | [], _, _, h => nomatch h
  | n :: l, le, ne, h => by
    unfold rn
    by_cases hn : n < 0
    · rw [if_pos hn]
      exact rn_pick hp l _ _ ((List.mem_cons.1 h).resolve_left (by omega))
    · rw [if_neg hn]
      by_cases he : n = pick
      · rw [if_pos he]; exact he
      · rw [if_neg he]
        exact rn_pick hp l _ _ ((List.mem_cons.1 h).resolve_left (fun e => he e.symm))
/-! a set, counted -/
def cle (S : List Int) (x : Int) : Nat := S.countP fun s => decide (s ≤ x)
theorem cle_le (S : List Int) (x : Int) : cle S x ≤ S.length := List.countP_le_length
theorem cle_all {S : List Int} {x : Int} (h : ∀ s ∈ S, s ≤ x) : cle S x = S.length := List.countP_eq_length.2 fun s hs => decide_eq_true (h s hs)
theorem cle_step : ∀ {S : List Int} {x R : Int}, S.Nodup → R ∈ S → x < R → (∀ s ∈ S, s ≤ R → s ≤ x ∨ s = R) → cle S R = cle S x + 1
  | [], _, _, _, h, _, _ => nomatch h
  | a :: S, x, R, hn, hm, hx, hs => by
    rw [List.nodup_cons] at hn
    unfold cle
    simp only [List.countP_cons]
    by_cases e : a = R
    · subst e
      have : S.countP (fun s => decide (s ≤ a)) = S.countP (fun s => decide (s ≤ x)) := List.countP_congr fun s hs' => by
        simp only [decide_eq_true_eq]
        constructor
        · intro h
          rcases hs s (List.mem_cons_of_mem _ hs') h with h | h
          · exact h
          · exact absurd (h ▸ hs') hn.1
        · intro h; omega
      rw [this]
      simp
      omega
    · have ih := cle_step hn.2 ((List.mem_cons.1 hm).resolve_left (fun q => e q.symm)) hx (fun s hs' h => hs s (List.mem_cons_of_mem _ hs') h)
      unfold cle at ih
      rw [ih]
      have : decide (a ≤ R) = decide (a ≤ x) := decide_eq_decide.2 ⟨fun h => (hs a (by simp) h).resolve_right e, fun h => by omega⟩
      rw [this]
      omega
theorem cle_first {S : List Int} {R : Int} (hn : S.Nodup) (hm : R ∈ S) (h : ∀ s ∈ S, R ≤ s) : cle S R = 1 := by
  have := cle_step (x := R - 1) hn hm (by omega) (fun s hs hr => .inr (by have := h s hs; omega))
  rw [this]
  have h0 : cle S (R - 1) = 0 := List.countP_eq_zero.2 fun s hs => by have := h s hs; simp; omega
  rw [h0]
theorem cle_inj {S : List Int} {s t : Int} (hs : s ∈ S) (ht : t ∈ S) (h : cle S s = cle S t) : s = t := by
  have key : ∀ {S : List Int} {s t : Int}, t ∈ S → s < t → cle S s < cle S t := by
    intro S s t ht hst
    unfold cle
    induction S with
    | nil => cases ht
    | cons a S ih =>
      have hmono : S.countP (fun x => decide (x ≤ s)) ≤ S.countP (fun x => decide (x ≤ t)) := List.countP_mono_left fun x _ hx => by simp at hx ⊢; omega
      simp only [List.countP_cons]
      rcases List.mem_cons.1 ht with rfl | ht
      · have : decide (t ≤ s) = false := decide_eq_false (by omega)
        simp [this]; omega
      · have := ih ht
        by_cases ha : a ≤ s
        · have : a ≤ t := by omega
          simp [ha, this]; omega
        · simp [ha]; split <;> omega
  rcases Int.lt_trichotomy s t with h1 | h1 | h1
  · have := key ht h1; omega
  · exact h1
  · have := key hs h1; omega
/-- S: what is not below 0 of l, each once. -/
structure SetOf (l S : List Int) : Prop where
  nodup : S.Nodup
  mem : ∀ s, s ∈ S ↔ s ∈ l ∧ 0 ≤ s
theorem nxt_in {l S : List Int} (h : SetOf l S) (hS : 0 < S.length) (last : Int) : nxt l last ∈ S ∧ cle S (nxt l last) = cle S last % S.length + 1 := by
  obtain ⟨le, ne, ⟨h1, h2⟩, he⟩ := nxt_spec l last
  obtain ⟨a, ha⟩ := List.exists_mem_of_length_pos hS
  have ha' := (h.mem a).1 ha
  rcases h2 with ⟨n1, n2⟩ | ⟨n1, n2, n3, n4⟩
  · rcases h1 with ⟨l1, l2⟩ | ⟨l1, l2, l3⟩
    · have := l2 a ha'.1; omega
    · rw [if_neg (by omega)] at he
      have hm : le ∈ S := (h.mem le).2 ⟨l2, l1⟩
      refine ⟨by rw [he]; exact hm, ?_⟩
      rw [he, cle_first h.nodup hm (fun s hs => l3 s ((h.mem s).1 hs).1 ((h.mem s).1 hs).2), cle_all (fun s hs => n2 s ((h.mem s).1 hs).1 ((h.mem s).1 hs).2), Nat.mod_self]
  · rw [if_pos n1] at he
    have hm : ne ∈ S := (h.mem ne).2 ⟨n2, n1⟩
    refine ⟨by rw [he]; exact hm, ?_⟩
    have hc := cle_step h.nodup hm n3 (fun s hs hr => by
      have hs' := (h.mem s).1 hs
      by_cases hx : s ≤ last
      · exact .inl hx
      · have := n4 s hs'.1 hs'.2 (by omega)
        exact .inr (by omega))
    have hlt := cle_le S ne
    rw [he, hc, Nat.mod_eq_of_lt (by omega)]
theorem turns_cover {l S : List Int} (h : SetOf l S) (hS : 0 < S.length) (v : Nat) (hv : 1 ≤ v) (hv2 : v ≤ S.length) : ∀ (k : Nat) (last : Int) (a : Nat), a = cle S last % S.length → (if a ≤ v - 1 then v - 1 - a else v - 1 + S.length - a) < k → ∃ r ∈ turnsM l k last, r ∈ S ∧ cle S r = v
  | 0, _, _, _, hk => absurd hk (Nat.not_lt_zero _)
  | k + 1, last, a, ha, hk => by
    obtain ⟨m1, m2⟩ := nxt_in h hS last
    rw [← ha] at m2
    have han : a < S.length := by rw [ha]; exact Nat.mod_lt _ hS
    unfold turnsM
    by_cases hav : a = v - 1
    · exact ⟨nxt l last, by simp, m1, by omega⟩
    · have hmod : cle S (nxt l last) % S.length = if a + 1 = S.length then 0 else a + 1 := by
        rw [m2]
        split
        · rename_i e; rw [e, Nat.mod_self]
        · exact Nat.mod_eq_of_lt (by omega)
      obtain ⟨r, r1, r2, r3⟩ := turns_cover h hS v hv hv2 k (nxt l last) (if a + 1 = S.length then 0 else a + 1) hmod.symm (by
        split at hk <;> split <;> split <;> omega)
      exact ⟨r, List.mem_cons_of_mem _ r1, r2, r3⟩
/-- In as many turns as there are all of them come. -/
theorem turns_all {l S : List Int} (h : SetOf l S) (last : Int) {s : Int} (hs : s ∈ S) : s ∈ turnsM l S.length last := by
  have hS : 0 < S.length := List.length_pos_of_mem hs
  have h1 : 1 ≤ cle S s := List.countP_pos_iff.2 ⟨s, hs, decide_eq_true (Int.le_refl s)⟩
  have hlt : cle S last % S.length < S.length := Nat.mod_lt _ hS
  have h2 := cle_le S s
  obtain ⟨r, r1, r2, r3⟩ := turns_cover h hS (cle S s) h1 h2 S.length last _ rfl (by split <;> omega)
  rw [cle_inj hs r2 r3.symm]
  exact r1
theorem SetOf.nil : SetOf [] [] := ⟨by simp, by simp⟩
theorem SetOf.no {l S : List Int} (h : SetOf l S) {n : Int} (hn : n < 0 ∨ n ∈ S) : SetOf (l ++ [n]) S := ⟨h.nodup, fun s => by
  rw [h.mem, List.mem_append, List.mem_singleton]
  constructor
  · exact fun q => ⟨.inl q.1, q.2⟩
  · rintro ⟨q | q, q2⟩
    · exact ⟨q, q2⟩
    · rcases hn with hn | hn
      · omega
      · rw [q]; exact (h.mem n).1 hn⟩
theorem SetOf.add {l S : List Int} (h : SetOf l S) {n : Int} (hn : 0 ≤ n) (hm : n ∉ S) : SetOf (l ++ [n]) (S ++ [n]) := ⟨by
  rw [List.nodup_append]
  refine ⟨h.nodup, by simp, fun a ha c hc e => ?_⟩
  rw [List.mem_singleton] at hc
  exact hm (hc ▸ e ▸ ha), fun s => by
  rw [List.mem_append, List.mem_append, List.mem_singleton, h.mem]
  constructor
  · rintro (q | q)
    · exact ⟨.inl q.1, q.2⟩
    · exact ⟨.inr q, by omega⟩
  · rintro ⟨q | q, q2⟩
    · exact .inl ⟨q, q2⟩
    · exact .inr q⟩
theorem wFnTurns (x0 : Sl UInt8) (w : World) (hx0 : Lod.rd maxLen w x0) : FB 14 [x0.val] w true := by
  refine F_of Try.func14 rfl rfl ?_
  repeat' (first | (refine SX_at 34 ?_; refine SX_callA rfl (fun w hw => big_h x0 w (Src.arg hx0 w hw)) ?_) | refine SX_run rfl rfl ?_ | refine SX_nil ?_ | refine SN_W ?_ | refine SW_seq ?_ | refine SW_regionX ?_ | refine SX_guardT rfl ?_ | refine SX_guardF rfl rfl ?_ | refine SX_guardU rfl ?_ | refine SX_gsplitD rfl rfl (fun h => ?_) (fun h => ?_) | refine SX_gsplitN rfl rfl (fun h => ?_) (fun h => ?_) | refine SX_gsplit rfl rfl (fun h => ?_) (fun h => ?_) | refine SW_condT rfl ?_ | refine SW_condF rfl ?_ | refine SW_condD rfl (fun h => ?_) (fun h => ?_) | refine SW_condN rfl (fun h => ?_) (fun h => ?_) | refine SW_condB rfl (fun h => ?_) (fun h => ?_) | refine SW_cond rfl (fun h => ?_) (fun h => ?_) | refine SW_block ?_ | refine SW_skip ?_ | refine SW_exit ?_ | refine SN_bl0 ?_ | refine SN_blS rfl ?_ | refine SW_ret ?_ | refine SX_v (Val_len rfl) ?_ | refine SX_v (Val_fa rfl) ?_ | refine SX_v (Val_add rfl rfl (by omega) (by omega)) ?_ | refine SX_v (Val_sub rfl rfl (by omega) (by omega)) ?_ | refine SX_v (Val_mul rfl rfl (by omega) (by omega)) ?_ | refine SX_v (Val_quoN rfl rfl (by omega) (by omega) (by omega)) ?_ | refine SX_v (Val_remN rfl rfl (by omega) (by omega)) ?_ | refine SX_v (Val_min rfl rfl) ?_ | refine SX_v (Val_beq und_bool rfl rfl) ?_ | refine SX_v (Val_bne und_bool rfl rfl) ?_)
  · exact SN_retB rfl rfl ⟨rfl, rfl⟩
  have hcn : x0.n ≤ 1048576 := by omega
  clear h
  refine SWl_at 52 ?_
  refine SWl_call rfl (fun w hw => drawTurns x0 w (Src.arg hx0 w hw) hcn) ?_
  rintro v M ⟨l, last, z, hl6, rfl, rfl⟩
  refine SWl_x ?_
  repeat' (first | refine SX_w (SWl_bs (vs := []) rfl rfl (fun _ h => nomatch h) rfl rfl (fun bs => SWl_x ?_)) | refine SX_run rfl rfl ?_ | refine SX_nil ?_ | refine SN_W ?_ | refine SW_seq ?_ | refine SW_regionX ?_ | refine SX_guardT rfl ?_ | refine SX_guardF rfl rfl ?_ | refine SX_guardU rfl ?_ | refine SX_gsplitD rfl rfl (fun h => ?_) (fun h => ?_) | refine SX_gsplitN rfl rfl (fun h => ?_) (fun h => ?_) | refine SX_gsplit rfl rfl (fun h => ?_) (fun h => ?_) | refine SW_condT rfl ?_ | refine SW_condF rfl ?_ | refine SW_condD rfl (fun h => ?_) (fun h => ?_) | refine SW_condN rfl (fun h => ?_) (fun h => ?_) | refine SW_condB rfl (fun h => ?_) (fun h => ?_) | refine SW_cond rfl (fun h => ?_) (fun h => ?_) | refine SW_block ?_ | refine SW_skip ?_ | refine SW_exit ?_ | refine SN_bl0 ?_ | refine SN_blS rfl ?_ | refine SW_ret ?_ | refine SX_v (Val_len rfl) ?_ | refine SX_v (Val_fa rfl) ?_ | refine SX_v (Val_add rfl rfl (by omega) (by omega)) ?_ | refine SX_v (Val_sub rfl rfl (by omega) (by omega)) ?_ | refine SX_v (Val_mul rfl rfl (by omega) (by omega)) ?_ | refine SX_v (Val_quoN rfl rfl (by omega) (by omega) (by omega)) ?_ | refine SX_v (Val_remN rfl rfl (by omega) (by omega)) ?_ | refine SX_v (Val_min rfl rfl) ?_ | refine SX_v (Val_beq und_bool rfl rfl) ?_ | refine SX_v (Val_bne und_bool rfl rfl) ?_)
  refine SW_loop (fun q σ L => ∃ (i : Nat) (S : Sl Int), q = l.n - i ∧ i ≤ l.n ∧ L = [Own S, Own l] ∧ SetOf (l.l.take i) S.l ∧ S.n ≤ i ∧ ∃ τ, σ = ups τ [(7, .int .i64 i), (6, S.val), (4, .int .i64 last), (3, l.val), (0, x0.val)]) l.n (Imp.ofBlkF ([] : List Int) rfl rfl (by decide)) ⟨0, ⟨some ⟨bs, 0, none⟩, 0, 0, [], rfl⟩, rfl, by omega, rfl, SetOf.nil, Nat.le_refl _, ups_ex ⟨rfl, rfl, rfl, rfl, rfl, trivial⟩⟩ ?_
  rintro q σ L ⟨i, S, rfl, hi, rfl, hS, hSn, τ, rfl⟩
  by_cases hlt : i < l.n
  · have htk : l.l.take (i + 1) = l.l.take i ++ [l.nth i hlt] := List.take_succ_eq_append_getElem (by rw [l.hn]; exact hlt)
    repeat' (first | refine SX_v (Val_ix (s := l) (Src.own 1 rfl) rfl rfl i rfl hlt) ?_ | refine SX_v (Val_ldE (s := l) (Src.own 1 rfl) rfl rfl hlt rfl) ?_ | (refine SX_at 53 ?_; refine SX_callA rfl (fun w hw => has_h S _ w (by exact Src.own 0 rfl w hw)) ?_) | refine SX_run rfl rfl ?_ | refine SX_nil ?_ | refine SN_W ?_ | refine SW_seq ?_ | refine SW_regionX ?_ | refine SX_guardT rfl ?_ | refine SX_guardF rfl rfl ?_ | refine SX_guardU rfl ?_ | refine SX_gsplitD rfl rfl (fun h => ?_) (fun h => ?_) | refine SX_gsplitN rfl rfl (fun h => ?_) (fun h => ?_) | refine SX_gsplit rfl rfl (fun h => ?_) (fun h => ?_) | refine SW_condT rfl ?_ | refine SW_condF rfl ?_ | refine SW_condD rfl (fun h => ?_) (fun h => ?_) | refine SW_condN rfl (fun h => ?_) (fun h => ?_) | refine SW_condB rfl (fun h => ?_) (fun h => ?_) | refine SW_cond rfl (fun h => ?_) (fun h => ?_) | refine SW_block ?_ | refine SW_skip ?_ | refine SW_exit ?_ | refine SN_bl0 ?_ | refine SN_blS rfl ?_ | refine SW_ret ?_ | refine SX_v (Val_len rfl) ?_ | refine SX_v (Val_fa rfl) ?_ | refine SX_v (Val_add rfl rfl (by omega) (by omega)) ?_ | refine SX_v (Val_sub rfl rfl (by omega) (by omega)) ?_ | refine SX_v (Val_mul rfl rfl (by omega) (by omega)) ?_ | refine SX_v (Val_quoN rfl rfl (by omega) (by omega) (by omega)) ?_ | refine SX_v (Val_remN rfl rfl (by omega) (by omega)) ?_ | refine SX_v (Val_min rfl rfl) ?_ | refine SX_v (Val_beq und_bool rfl rfl) ?_ | refine SX_v (Val_bne und_bool rfl rfl) ?_)
    · rename_i c1
      refine SX_w (SWl_bs (vs := [.int .i64 (l.nth i hlt)]) rfl rfl (by simp [Value.cells]) rfl rfl (fun bs2 => SWl_x ?_))
      refine SX_w (SWl_appB 1 (s := S) rfl rfl 0 rfl [l.nth i hlt] rfl rfl (by unfold lim; simp; omega) (by rfl) (by rfl) (by rfl) (by rfl) (by rfl) (fun S' hS' hn' => SWl_x ?_))
      repeat' (first | refine SX_run rfl rfl ?_ | refine SX_nil ?_ | refine SN_W ?_ | refine SW_seq ?_ | refine SW_regionX ?_ | refine SX_guardT rfl ?_ | refine SX_guardF rfl rfl ?_ | refine SX_guardU rfl ?_ | refine SX_gsplitD rfl rfl (fun h => ?_) (fun h => ?_) | refine SX_gsplitN rfl rfl (fun h => ?_) (fun h => ?_) | refine SX_gsplit rfl rfl (fun h => ?_) (fun h => ?_) | refine SW_condT rfl ?_ | refine SW_condF rfl ?_ | refine SW_condD rfl (fun h => ?_) (fun h => ?_) | refine SW_condN rfl (fun h => ?_) (fun h => ?_) | refine SW_condB rfl (fun h => ?_) (fun h => ?_) | refine SW_cond rfl (fun h => ?_) (fun h => ?_) | refine SW_block ?_ | refine SW_skip ?_ | refine SW_exit ?_ | refine SN_bl0 ?_ | refine SN_blS rfl ?_ | refine SW_ret ?_ | refine SX_v (Val_len rfl) ?_ | refine SX_v (Val_fa rfl) ?_ | refine SX_v (Val_add rfl rfl (by omega) (by omega)) ?_ | refine SX_v (Val_sub rfl rfl (by omega) (by omega)) ?_ | refine SX_v (Val_mul rfl rfl (by omega) (by omega)) ?_ | refine SX_v (Val_quoN rfl rfl (by omega) (by omega) (by omega)) ?_ | refine SX_v (Val_remN rfl rfl (by omega) (by omega)) ?_ | refine SX_v (Val_min rfl rfl) ?_ | refine SX_v (Val_beq und_bool rfl rfl) ?_ | refine SX_v (Val_bne und_bool rfl rfl) ?_)
      exact SN_back (l.n - (i + 1)) (by omega) Imp.del1 ⟨i + 1, S', rfl, hlt, rfl, by rw [htk, hS']; exact hS.add c1 h, by rw [hn', List.length_singleton]; omega, ups_ex ⟨rfl, rfl, rfl, rfl, rfl, trivial⟩⟩
    · exact SN_back (l.n - (i + 1)) (by omega) Imp.refl ⟨i + 1, S, rfl, hlt, rfl, by rw [htk]; exact hS.no (.inr h), by omega, ups_ex ⟨rfl, rfl, rfl, rfl, rfl, trivial⟩⟩
    · exact SN_back (l.n - (i + 1)) (by omega) Imp.refl ⟨i + 1, S, rfl, hlt, rfl, by rw [htk]; exact hS.no (.inl (by omega)), by omega, ups_ex ⟨rfl, rfl, rfl, rfl, rfl, trivial⟩⟩
    · exfalso; omega
  · repeat' (first | refine SX_run rfl rfl ?_ | refine SX_nil ?_ | refine SN_W ?_ | refine SW_seq ?_ | refine SW_regionX ?_ | refine SX_guardT rfl ?_ | refine SX_guardF rfl rfl ?_ | refine SX_guardU rfl ?_ | refine SX_gsplitD rfl rfl (fun h => ?_) (fun h => ?_) | refine SX_gsplitN rfl rfl (fun h => ?_) (fun h => ?_) | refine SX_gsplit rfl rfl (fun h => ?_) (fun h => ?_) | refine SW_condT rfl ?_ | refine SW_condF rfl ?_ | refine SW_condD rfl (fun h => ?_) (fun h => ?_) | refine SW_condN rfl (fun h => ?_) (fun h => ?_) | refine SW_condB rfl (fun h => ?_) (fun h => ?_) | refine SW_cond rfl (fun h => ?_) (fun h => ?_) | refine SW_block ?_ | refine SW_skip ?_ | refine SW_exit ?_ | refine SN_bl0 ?_ | refine SN_blS rfl ?_ | refine SW_ret ?_ | refine SX_v (Val_len rfl) ?_ | refine SX_v (Val_fa rfl) ?_ | refine SX_v (Val_add rfl rfl (by omega) (by omega)) ?_ | refine SX_v (Val_sub rfl rfl (by omega) (by omega)) ?_ | refine SX_v (Val_mul rfl rfl (by omega) (by omega)) ?_ | refine SX_v (Val_quoN rfl rfl (by omega) (by omega) (by omega)) ?_ | refine SX_v (Val_remN rfl rfl (by omega) (by omega)) ?_ | refine SX_v (Val_min rfl rfl) ?_ | refine SX_v (Val_beq und_bool rfl rfl) ?_ | refine SX_v (Val_bne und_bool rfl rfl) ?_)
    · exfalso; omega
    have hfull : SetOf l.l S.l := by
      rw [List.take_of_length_le (by rw [l.hn]; omega)] at hS
      exact hS
    have hcnt : cntT (S.n : Int) = S.n := by unfold cntT; omega
    (refine SWl_at 38 ?_; refine SWl_callB rfl (fun w hw => iTurns l last (S.n : Int) w (by exact Src.own 1 rfl w hw)) (fun x hx => SWl_x ?_))
    rw [hcnt] at hx
    have hxn : x.n = S.n := by rw [← x.hn, hx, turnsM_len]
    have hall : ∀ s ∈ S.l, s ∈ x.l := fun s hs => by
      have := turns_all hfull last hs
      rw [S.hn] at this
      rw [hx]; exact this
    repeat' (first | refine SX_run rfl rfl ?_ | refine SX_nil ?_ | refine SN_W ?_ | refine SW_seq ?_ | refine SW_regionX ?_ | refine SX_guardT rfl ?_ | refine SX_guardF rfl rfl ?_ | refine SX_guardU rfl ?_ | refine SX_gsplitD rfl rfl (fun h => ?_) (fun h => ?_) | refine SX_gsplitN rfl rfl (fun h => ?_) (fun h => ?_) | refine SX_gsplit rfl rfl (fun h => ?_) (fun h => ?_) | refine SW_condT rfl ?_ | refine SW_condF rfl ?_ | refine SW_condD rfl (fun h => ?_) (fun h => ?_) | refine SW_condN rfl (fun h => ?_) (fun h => ?_) | refine SW_condB rfl (fun h => ?_) (fun h => ?_) | refine SW_cond rfl (fun h => ?_) (fun h => ?_) | refine SW_block ?_ | refine SW_skip ?_ | refine SW_exit ?_ | refine SN_bl0 ?_ | refine SN_blS rfl ?_ | refine SW_ret ?_ | refine SX_v (Val_len rfl) ?_ | refine SX_v (Val_fa rfl) ?_ | refine SX_v (Val_add rfl rfl (by omega) (by omega)) ?_ | refine SX_v (Val_sub rfl rfl (by omega) (by omega)) ?_ | refine SX_v (Val_mul rfl rfl (by omega) (by omega)) ?_ | refine SX_v (Val_quoN rfl rfl (by omega) (by omega) (by omega)) ?_ | refine SX_v (Val_remN rfl rfl (by omega) (by omega)) ?_ | refine SX_v (Val_min rfl rfl) ?_ | refine SX_v (Val_beq und_bool rfl rfl) ?_ | refine SX_v (Val_bne und_bool rfl rfl) ?_)
    refine SW_loop (fun q σ L => ∃ (j : Nat), q = S.n - j ∧ j ≤ S.n ∧ L = [Own x, Own S, Own l] ∧ ∃ τ, σ = ups τ [(9, .int .i64 j), (8, x.val), (6, S.val), (0, x0.val)]) S.n Imp.refl ⟨0, rfl, by omega, rfl, ups_ex ⟨rfl, rfl, rfl, rfl, trivial⟩⟩ ?_
    rintro q σ L ⟨j, rfl, hj, rfl, τ, rfl⟩
    by_cases hjl : j < S.n
    · repeat' (first | refine SX_v (Val_ix (s := S) (Src.own 1 rfl) rfl rfl j rfl hjl) ?_ | refine SX_v (Val_ldE (s := S) (Src.own 1 rfl) rfl rfl hjl rfl) ?_ | (refine SX_at 53 ?_; refine SX_callA rfl (fun w hw => has_h x _ w (by exact Src.own 0 rfl w hw)) ?_) | refine SX_run rfl rfl ?_ | refine SX_nil ?_ | refine SN_W ?_ | refine SW_seq ?_ | refine SW_regionX ?_ | refine SX_guardT rfl ?_ | refine SX_guardF rfl rfl ?_ | refine SX_guardU rfl ?_ | refine SX_gsplitD rfl rfl (fun h => ?_) (fun h => ?_) | refine SX_gsplitN rfl rfl (fun h => ?_) (fun h => ?_) | refine SX_gsplit rfl rfl (fun h => ?_) (fun h => ?_) | refine SW_condT rfl ?_ | refine SW_condF rfl ?_ | refine SW_condD rfl (fun h => ?_) (fun h => ?_) | refine SW_condN rfl (fun h => ?_) (fun h => ?_) | refine SW_condB rfl (fun h => ?_) (fun h => ?_) | refine SW_cond rfl (fun h => ?_) (fun h => ?_) | refine SW_block ?_ | refine SW_skip ?_ | refine SW_exit ?_ | refine SN_bl0 ?_ | refine SN_blS rfl ?_ | refine SW_ret ?_ | refine SX_v (Val_len rfl) ?_ | refine SX_v (Val_fa rfl) ?_ | refine SX_v (Val_add rfl rfl (by omega) (by omega)) ?_ | refine SX_v (Val_sub rfl rfl (by omega) (by omega)) ?_ | refine SX_v (Val_mul rfl rfl (by omega) (by omega)) ?_ | refine SX_v (Val_quoN rfl rfl (by omega) (by omega) (by omega)) ?_ | refine SX_v (Val_remN rfl rfl (by omega) (by omega)) ?_ | refine SX_v (Val_min rfl rfl) ?_ | refine SX_v (Val_beq und_bool rfl rfl) ?_ | refine SX_v (Val_bne und_bool rfl rfl) ?_)
      · exact absurd (hall _ (List.getElem_mem _)) h
      · exact SN_back (S.n - (j + 1)) (by omega) Imp.refl ⟨j + 1, rfl, hjl, rfl, ups_ex ⟨rfl, rfl, rfl, rfl, trivial⟩⟩
      · exfalso; omega
    · repeat' (first | refine SX_run rfl rfl ?_ | refine SX_nil ?_ | refine SN_W ?_ | refine SW_seq ?_ | refine SW_regionX ?_ | refine SX_guardT rfl ?_ | refine SX_guardF rfl rfl ?_ | refine SX_guardU rfl ?_ | refine SX_gsplitD rfl rfl (fun h => ?_) (fun h => ?_) | refine SX_gsplitN rfl rfl (fun h => ?_) (fun h => ?_) | refine SX_gsplit rfl rfl (fun h => ?_) (fun h => ?_) | refine SW_condT rfl ?_ | refine SW_condF rfl ?_ | refine SW_condD rfl (fun h => ?_) (fun h => ?_) | refine SW_condN rfl (fun h => ?_) (fun h => ?_) | refine SW_condB rfl (fun h => ?_) (fun h => ?_) | refine SW_cond rfl (fun h => ?_) (fun h => ?_) | refine SW_block ?_ | refine SW_skip ?_ | refine SW_exit ?_ | refine SN_bl0 ?_ | refine SN_blS rfl ?_ | refine SW_ret ?_ | refine SX_v (Val_len rfl) ?_ | refine SX_v (Val_fa rfl) ?_ | refine SX_v (Val_add rfl rfl (by omega) (by omega)) ?_ | refine SX_v (Val_sub rfl rfl (by omega) (by omega)) ?_ | refine SX_v (Val_mul rfl rfl (by omega) (by omega)) ?_ | refine SX_v (Val_quoN rfl rfl (by omega) (by omega) (by omega)) ?_ | refine SX_v (Val_remN rfl rfl (by omega) (by omega)) ?_ | refine SX_v (Val_min rfl rfl) ?_ | refine SX_v (Val_beq und_bool rfl rfl) ?_ | refine SX_v (Val_bne und_bool rfl rfl) ?_)
      · exfalso; omega
      refine SWl_at 54 ?_
      refine SWl_call rfl (fun w hw => drawRunNext x0 w (Src.arg hx0 w hw) hcn) ?_
      rintro v M ⟨l2, la, pk, _, rfl, rfl⟩
      refine SWl_x ?_
      have hm := rn_mem la pk l2.l (-1) (-1)
      have hk := fun (h0 : 0 ≤ pk) (h1 : pk ∈ l2.l) => rn_pick (last := la) h0 l2.l (-1) (-1) h1
      repeat' (first | (refine SX_at 32 ?_; refine SX_callA rfl (fun w hw => iRunNext l2 la pk w (by exact Src.own 0 rfl w hw)) ?_) | (refine SX_at 30 ?_; refine SX_callA rfl (fun w hw => sRunNext l2 la pk w (by exact Src.own 0 rfl w hw)) ?_) | (refine SX_at 53 ?_; refine SX_callA rfl (fun w hw => has_h l2 _ w (by exact Src.own 0 rfl w hw)) ?_) | refine SX_run rfl rfl ?_ | refine SX_nil ?_ | refine SN_W ?_ | refine SW_seq ?_ | refine SW_regionX ?_ | refine SX_guardT rfl ?_ | refine SX_guardF rfl rfl ?_ | refine SX_guardU rfl ?_ | refine SX_gsplitD rfl rfl (fun h => ?_) (fun h => ?_) | refine SX_gsplitN rfl rfl (fun h => ?_) (fun h => ?_) | refine SX_gsplit rfl rfl (fun h => ?_) (fun h => ?_) | refine SW_condT rfl ?_ | refine SW_condF rfl ?_ | refine SW_condD rfl (fun h => ?_) (fun h => ?_) | refine SW_condN rfl (fun h => ?_) (fun h => ?_) | refine SW_condB rfl (fun h => ?_) (fun h => ?_) | refine SW_cond rfl (fun h => ?_) (fun h => ?_) | refine SW_block ?_ | refine SW_skip ?_ | refine SW_exit ?_ | refine SN_bl0 ?_ | refine SN_blS rfl ?_ | refine SW_ret ?_ | refine SX_v (Val_len rfl) ?_ | refine SX_v (Val_fa rfl) ?_ | refine SX_v (Val_add rfl rfl (by omega) (by omega)) ?_ | refine SX_v (Val_sub rfl rfl (by omega) (by omega)) ?_ | refine SX_v (Val_mul rfl rfl (by omega) (by omega)) ?_ | refine SX_v (Val_quoN rfl rfl (by omega) (by omega) (by omega)) ?_ | refine SX_v (Val_remN rfl rfl (by omega) (by omega)) ?_ | refine SX_v (Val_min rfl rfl) ?_ | refine SX_v (Val_beq und_bool rfl rfl) ?_ | refine SX_v (Val_bne und_bool rfl rfl) ?_)
      all_goals
        refine SN_retB rfl rfl ⟨?_, rfl⟩
        congr 1 <;> (clear hx0 hfull hall hx; grind)
end Go.Proofs.Yticbocfalhjhaaa.E
