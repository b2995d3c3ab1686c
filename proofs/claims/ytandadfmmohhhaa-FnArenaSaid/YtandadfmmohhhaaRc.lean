/-
  What is reached: plain lists, no program in sight.
-/
import Derived.Test.YtandadfmmohhhaaEd
namespace Go.Proofs.Ytandadfmmohhhaa.E
open Go Go.RowKit

/-- What is reached from the root. -/
inductive Rch (l : List Obj) (now : Int) : Nat → Prop
  | root : Rch l now 0
  | step (i k : Nat) : Rch l now i → i < 10 → k < 10 → isEdge l i k → expired (oat l k) now = false → Rch l now k
theorem Rch.lt {l : List Obj} {now : Int} {k : Nat} (h : Rch l now k) : k < 10 := by
  cases h with
  | root => decide
  | step i k _ _ hk _ _ => exact hk
theorem Rch.live {l : List Obj} {now : Int} {k : Nat} (h : Rch l now k) : k = 0 ∨ expired (oat l k) now = false := by
  cases h with
  | root => exact .inl rfl
  | step i k _ _ _ _ hx => exact .inr hx
open Classical in
/-- The places, and whether each is reached. -/
noncomputable def reach (l : List Obj) (now : Int) : List Bool := if ArenaOk l then (List.range 10).map fun k => decide (Rch l now k) else []
/-- Is place k set? -/
def tr (r : List Bool) (k : Nat) : Prop := r.getD k false = true
instance (r : List Bool) (k : Nat) : Decidable (tr r k) := by unfold tr; infer_instance
/-- All that i leads to is set. -/
def Cl (l : List Obj) (now : Int) (r : List Bool) (i : Nat) : Prop := ∀ k, k < 10 → isEdge l i k → expired (oat l k) now = false → tr r k
theorem tr_iff {r : List Bool} {k : Nat} (h : k < r.length) : tr r k ↔ r[k] = true := by
  simp [tr, h]
theorem tr_lt {r : List Bool} {k : Nat} (h : tr r k) : k < r.length := by
  unfold tr at h
  rcases Nat.lt_or_ge k r.length with h1 | h1
  · exact h1
  · rw [List.getD_eq_getElem?_getD, List.getElem?_eq_none h1] at h; cases h
theorem tr_set {r : List Bool} {i : Nat} (hi : i < r.length) (k : Nat) : tr (r.set i true) k ↔ k = i ∨ tr r k := by
  unfold tr
  simp only [List.getD_eq_getElem?_getD, List.getElem?_set]
  by_cases h : i = k
  · subst h; simp [hi]
  · rw [if_neg h]
    constructor
    · exact .inr
    · rintro (h1 | h1)
      · exact absurd h1.symm h
      · exact h1
theorem reach_of {l : List Obj} {now : Int} {r : List Bool} (hA : ArenaOk l) (hl : r.length = 10) (h0 : tr r 0) (h1 : ∀ k, tr r k → Rch l now k) (h2 : ∀ i, i < 10 → tr r i → Cl l now r i) : r = reach l now := by
  classical
  have h3 : ∀ k, Rch l now k → tr r k := by
    intro k h
    induction h with
    | root => exact h0
    | step i k _ hi hk he hx ih => exact h2 i hi ih k hk he hx
  unfold reach
  rw [if_pos hA]
  apply List.ext_getElem
  · simp [hl]
  · intro k hk1 hk2
    simp only [List.getElem_map, List.getElem_range]
    have ht := tr_iff hk1
    by_cases hr : Rch l now k
    · exact (ht.1 (h3 k hr)).trans (decide_eq_true hr).symm
    · refine Eq.trans ?_ (decide_eq_false hr).symm
      cases hb : r[k] with
      | false => rfl
      | true => exact absurd (h1 k (ht.2 hb)) hr
theorem reach_tr {l : List Obj} {now : Int} (hA : ArenaOk l) (k : Nat) : tr (reach l now) k ↔ Rch l now k := by
  classical
  unfold reach
  rw [if_pos hA]
  constructor
  · intro h
    have hk := tr_lt h
    rw [tr_iff hk, List.getElem_map, List.getElem_range] at h
    exact of_decide_eq_true h
  · intro h
    have hk : k < ((List.range 10).map fun k => @decide (Rch l now k) (Classical.propDecidable _)).length := by simpa using h.lt
    rw [tr_iff hk, List.getElem_map, List.getElem_range]
    exact decide_eq_true h
theorem reach_len {l : List Obj} {now : Int} (hA : ArenaOk l) : (reach l now).length = 10 := by unfold reach; rw [if_pos hA]; simp
theorem reach_nil {l : List Obj} {now : Int} (hA : ¬ ArenaOk l) : reach l now = [] := if_neg hA

/-! the program's way: what is still to be looked at stands in a list -/
structure Bfs (l : List Obj) (now : Int) (r : List Bool) (t : List Int) : Prop where
  len : r.length = 10
  root : tr r 0
  snd : ∀ k, tr r k → Rch l now k
  todo : ∀ x ∈ t, ∃ k : Nat, x = k ∧ tr r k
  cl : ∀ k, tr r k → (k : Int) ∉ t → Cl l now r k
/-- In the midst of place i: the first j of what it leads to are looked at. -/
structure BfsI (l : List Obj) (now : Int) (r : List Bool) (t : List Int) (i j : Nat) : Prop where
  len : r.length = 10
  root : tr r 0
  snd : ∀ k, tr r k → Rch l now k
  todo : ∀ x ∈ t, ∃ k : Nat, x = k ∧ tr r k
  cl : ∀ k, tr r k → (k : Int) ∉ t → k ≠ i → Cl l now r k
  cur : tr r i
  seen : ∀ k : Nat, (k : Int) ∈ (edgesN l i 10).take j → expired (oat l k) now = false → tr r k
def left (r : List Bool) : Nat := r.count false
theorem Bfs.start (l : List Obj) (now : Int) : Bfs l now ((List.replicate 10 false).set 0 true) [0] := by
  have e : ∀ k, tr ((List.replicate 10 false).set 0 true) k → k = 0 := by
    intro k h
    rw [tr_set (by simp)] at h
    rcases h with h | h
    · exact h
    · have hk := tr_lt h
      rw [tr_iff hk, List.getElem_replicate] at h
      cases h
  refine ⟨by simp, by decide, fun k h => ?_, ?_, fun k h hk => ?_⟩
  · rw [e k h]; exact .root
  · intro x hx
    rw [List.mem_singleton] at hx
    exact ⟨0, hx, by decide⟩
  · rw [e k h] at hk; simp at hk
theorem Bfs.pop {l : List Obj} {now : Int} {r : List Bool} {i : Nat} {t : List Int} (h : Bfs l now r ((i : Int) :: t)) : BfsI l now r t i 0 := by
  obtain ⟨h1, h2, h3, h4, h5⟩ := h
  refine ⟨h1, h2, h3, fun x hx => h4 x (by simp [hx]), fun k hk hn hne => h5 k hk (by simp [hn]; omega), ?_, by simp⟩
  obtain ⟨k, e, hk⟩ := h4 i (by simp)
  have : i = k := by omega
  rw [this]; exact hk
theorem BfsI.skip {l : List Obj} {now : Int} {r : List Bool} {i j : Nat} {t : List Int} (h : BfsI l now r t i j) (hj : j < (edgesN l i 10).length) (k : Nat) (hk : (edgesN l i 10)[j] = k) (hx : tr r k ∨ expired (oat l k) now = true) : BfsI l now r t i (j + 1) := by
  obtain ⟨h1, h2, h3, h4, h5, h6, h7⟩ := h
  refine ⟨h1, h2, h3, h4, h5, h6, fun m hm hx' => ?_⟩
  rw [List.take_succ_eq_append_getElem hj, List.mem_append] at hm
  rcases hm with hm | hm
  · exact h7 m hm hx'
  · rw [List.mem_singleton, hk] at hm
    have : m = k := by omega
    subst this
    rcases hx with hx | hx
    · exact hx
    · rw [hx] at hx'; cases hx'
theorem BfsI.add {l : List Obj} {now : Int} {r : List Bool} {i j : Nat} {t : List Int} (h : BfsI l now r t i j) (hi : i < 10) (hj : j < (edgesN l i 10).length) (k : Nat) (hk : (edgesN l i 10)[j] = k) (hx : expired (oat l k) now = false) : BfsI l now (r.set k true) (t ++ [(k : Int)]) i (j + 1) := by
  obtain ⟨h1, h2, h3, h4, h5, h6, h7⟩ := h
  obtain ⟨k', e1, e2, e3⟩ := edgesN_mem (List.getElem_mem hj)
  have : k' = k := by omega
  subst this
  have hs := tr_set (r := r) (i := k') (by omega)
  refine ⟨by simp [h1], (hs 0).2 (.inr h2), fun m hm => ?_, fun x hx' => ?_, fun m hm hn hne => ?_, (hs i).2 (.inr h6), fun m hm hx' => ?_⟩
  · rcases (hs m).1 hm with rfl | hm
    · exact .step i m (h3 i h6) hi e2 e3 hx
    · exact h3 m hm
  · rcases List.mem_append.1 hx' with hx' | hx'
    · obtain ⟨m, e, hm⟩ := h4 x hx'
      exact ⟨m, e, (hs m).2 (.inr hm)⟩
    · rw [List.mem_singleton] at hx'
      exact ⟨k', hx', (hs k').2 (.inl rfl)⟩
  · rw [List.mem_append, not_or] at hn
    have hmk : m ≠ k' := fun e => hn.2 (by simp [e])
    have hm' : tr r m := ((hs m).1 hm).resolve_left hmk
    exact fun q hq he hx' => (hs q).2 (.inr (h5 m hm' hn.1 hne q hq he hx'))
  · rw [List.take_succ_eq_append_getElem hj, List.mem_append] at hm
    rcases hm with hm | hm
    · exact (hs m).2 (.inr (h7 m hm hx'))
    · rw [List.mem_singleton, hk] at hm
      exact (hs m).2 (.inl (by omega))
theorem BfsI.out {l : List Obj} {now : Int} {r : List Bool} {i j : Nat} {t : List Int} (h : BfsI l now r t i j) (hj : (edgesN l i 10).length ≤ j) : Bfs l now r t := by
  obtain ⟨h1, h2, h3, h4, h5, h6, h7⟩ := h
  rw [List.take_of_length_le hj] at h7
  refine ⟨h1, h2, h3, h4, fun k hk hn => ?_⟩
  by_cases hne : k = i
  · subst hne
    exact fun q hq he hx => h7 q (mem_edgesN hq he) hx
  · exact h5 k hk hn hne
theorem Bfs.done {l : List Obj} {now : Int} {r : List Bool} (h : Bfs l now r []) (hA : ArenaOk l) : r = reach l now :=
  reach_of hA h.len h.root h.snd (fun i _ hi => h.cl i hi (by simp))
theorem left_set {r : List Bool} {k : Nat} (h : k < r.length) (hk : ¬ tr r k) : left (r.set k true) + 1 = left r := by
  unfold left
  have hb : r[k] = false := by
    cases hb : r[k] with
    | false => rfl
    | true => exact absurd ((tr_iff h).2 hb) hk
  have hc : 0 < r.count false := List.count_pos_iff.2 (hb ▸ List.getElem_mem h)
  rw [List.count_set h, hb]
  simp
  omega

/-! the model's way: ten rounds -/
def Shut (l : List Obj) (now : Int) (r : List Bool) : Prop := ∀ i, tr r i → Cl l now r i
structure Rnd (l : List Obj) (now : Int) (r0 r : List Bool) (i : Nat) : Prop where
  len : r.length = 10
  root : tr r 0
  snd : ∀ k, tr r k → Rch l now k
  mono : ∀ k, tr r0 k → tr r k
  done : ∀ k, k < i → tr r0 k → Cl l now r k
  fix : Shut l now r0 → r = r0
/-- In the midst of place i. -/
structure RndI (l : List Obj) (now : Int) (r0 r : List Bool) (i j : Nat) : Prop where
  rnd : Rnd l now r0 r i
  cur : tr r i
  seen : ∀ k : Nat, (k : Int) ∈ (edgesN l i 10).take j → expired (oat l k) now = false → tr r k
theorem Rnd.start {l : List Obj} {now : Int} {r : List Bool} (h1 : r.length = 10) (h2 : tr r 0) (h3 : ∀ k, tr r k → Rch l now k) : Rnd l now r r 0 :=
  ⟨h1, h2, h3, fun _ h => h, fun _ h => absurd h (Nat.not_lt_zero _), fun _ => rfl⟩
theorem Rnd.skip {l : List Obj} {now : Int} {r0 r : List Bool} {i : Nat} (h : Rnd l now r0 r i) (hi : ¬ tr r i) : Rnd l now r0 r (i + 1) := by
  obtain ⟨h1, h2, h3, h4, h5, h6⟩ := h
  refine ⟨h1, h2, h3, h4, fun k hk h0 => ?_, h6⟩
  rcases Nat.lt_succ_iff_lt_or_eq.1 hk with hk | rfl
  · exact h5 k hk h0
  · exact absurd (h4 k h0) hi
theorem Rnd.enter {l : List Obj} {now : Int} {r0 r : List Bool} {i : Nat} (h : Rnd l now r0 r i) (hi : tr r i) : RndI l now r0 r i 0 := ⟨h, hi, by simp⟩
theorem RndI.out {l : List Obj} {now : Int} {r0 r : List Bool} {i j : Nat} (h : RndI l now r0 r i j) (hj : (edgesN l i 10).length ≤ j) : Rnd l now r0 r (i + 1) := by
  obtain ⟨⟨h1, h2, h3, h4, h5, h6⟩, h7, h8⟩ := h
  rw [List.take_of_length_le hj] at h8
  refine ⟨h1, h2, h3, h4, fun k hk h0 => ?_, h6⟩
  rcases Nat.lt_succ_iff_lt_or_eq.1 hk with hk | rfl
  · exact h5 k hk h0
  · exact fun q hq he hx => h8 q (mem_edgesN hq he) hx
theorem RndI.skip {l : List Obj} {now : Int} {r0 r : List Bool} {i j : Nat} (h : RndI l now r0 r i j) (hj : j < (edgesN l i 10).length) (k : Nat) (hk : (edgesN l i 10)[j] = k) (hx : expired (oat l k) now = true) : RndI l now r0 r i (j + 1) := by
  obtain ⟨h1, h2, h3⟩ := h
  refine ⟨h1, h2, fun m hm hx' => ?_⟩
  rw [List.take_succ_eq_append_getElem hj, List.mem_append] at hm
  rcases hm with hm | hm
  · exact h3 m hm hx'
  · rw [List.mem_singleton, hk] at hm
    have : m = k := by omega
    subst this
    rw [hx] at hx'; cases hx'
theorem RndI.add {l : List Obj} {now : Int} {r0 r : List Bool} {i j : Nat} (h : RndI l now r0 r i j) (hi : i < 10) (hj : j < (edgesN l i 10).length) (k : Nat) (hk : (edgesN l i 10)[j] = k) (hx : expired (oat l k) now = false) : RndI l now r0 (r.set k true) i (j + 1) := by
  obtain ⟨⟨h1, h2, h3, h4, h5, h6⟩, h7, h8⟩ := h
  obtain ⟨k', e1, e2, e3⟩ := edgesN_mem (List.getElem_mem hj)
  have : k' = k := by omega
  subst this
  have hs := tr_set (r := r) (i := k') (by omega)
  refine ⟨⟨by simp [h1], (hs 0).2 (.inr h2), fun m hm => ?_, fun m hm => (hs m).2 (.inr (h4 m hm)), fun m hm h0 q hq he hx' => (hs q).2 (.inr (h5 m hm h0 q hq he hx')), fun hsh => ?_⟩, (hs i).2 (.inr h7), fun m hm hx' => ?_⟩
  · rcases (hs m).1 hm with rfl | hm
    · exact .step i m (h3 i h7) hi e2 e3 hx
    · exact h3 m hm
  · have e := h6 hsh
    subst e
    have ht := hsh i h7 k' e2 e3 hx
    have hkl := tr_lt ht
    rw [tr_iff hkl] at ht
    conv => rhs; rw [← List.set_getElem_self hkl]
    rw [ht]
  · rw [List.take_succ_eq_append_getElem hj, List.mem_append] at hm
    rcases hm with hm | hm
    · exact (hs m).2 (.inr (h8 m hm hx'))
    · rw [List.mem_singleton, hk] at hm
      exact (hs m).2 (.inl (by omega))
theorem count_mono : ∀ {a b : List Bool}, a.length = b.length → (∀ k, tr a k → tr b k) → a.count true ≤ b.count true ∧ (a ≠ b → a.count true < b.count true)
  | [], [], _, _ => ⟨Nat.le_refl _, fun h => absurd rfl h⟩
  | x :: a, y :: b, hl, h => by
    obtain ⟨i1, i2⟩ := count_mono (a := a) (b := b) (by simpa using hl) (fun k hk => h (k + 1) hk)
    have h0 : x = true → y = true := h 0
    cases x <;> cases y <;> simp at h0 ⊢
    · exact ⟨i1, i2⟩
    · exact ⟨by omega, by omega⟩
    · exact ⟨i1, i2⟩
  | [], _ :: _, hl, _ => by simp at hl
  | _ :: _, [], hl, _ => by simp at hl
theorem Rnd.turn {l : List Obj} {now : Int} {r0 r : List Bool} {n : Nat} (h : Rnd l now r0 r 10) (hl : r0.length = 10) (h0 : Shut l now r0 ∨ n + 1 ≤ r0.count true) : Shut l now r ∨ n + 1 + 1 ≤ r.count true := by
  by_cases e : r0 = r
  · subst e
    exact .inl fun i hi => h.done i (by have := tr_lt hi; omega) hi
  · right
    rcases h0 with h0 | h0
    · exact absurd (h.fix h0).symm e
    · have := (count_mono (by rw [hl, h.len]) h.mono).2 e
      omega
theorem count_lt {r : List Bool} (h : r.length = 10) : r.count true ≤ 10 := h ▸ List.count_le_length
/-- What is there and is not reached. -/
def garbN (l : List Obj) (r : List Bool) (n : Nat) : List Int := ((List.range n).filter fun k => decide ((oat l k).kind ≠ 0 ∧ ¬ tr r k)).map fun k : Nat => (k : Int)
theorem garbN_step {l : List Obj} {r : List Bool} {n : Nat} : garbN l r (n + 1) = garbN l r n ++ if (oat l n).kind ≠ 0 ∧ ¬ tr r n then [(n : Int)] else [] := by
  unfold garbN
  rw [List.range_succ, List.filter_append, List.map_append]
  by_cases h : (oat l n).kind ≠ 0 ∧ ¬ tr r n <;> simp [h]
theorem garbN_len (l : List Obj) (r : List Bool) (n : Nat) : (garbN l r n).length ≤ n := by
  unfold garbN
  rw [List.length_map]
  exact Nat.le_trans (List.length_filter_le _ _) (by simp)
noncomputable def garbage (l : List Obj) (now : Int) : List Int := garbN l (reach l now) (reach l now).length
open Classical in
/-- The slot of a handle. -/
noncomputable def goodSlot (l : List Obj) (now part h : Int) : Int :=
  if ArenaOk l ∧ (0 ≤ h ∧ h ≤ 29999) ∧ hPart h = part ∧ (oat l (hSlot h).toNat).kind ≠ 0 ∧ (oat l (hSlot h).toNat).gen = hGen h ∧ Rch l now (hSlot h).toNat then hSlot h else -1
end Go.Proofs.Ytandadfmmohhhaa.E
