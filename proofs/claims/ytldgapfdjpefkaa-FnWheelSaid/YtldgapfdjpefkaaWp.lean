/-
  A wheel beside a plain list: the same timers, in some order.
-/
import Derived.Test.YtldgapfdjpefkaaWa
import Derived.Test.YtldgapfdjpefkaaDue
namespace Go.Proofs.Ytldgapfdjpefkaa.E
open Go Go.RowKit
set_option maxRecDepth 100000
set_option maxHeartbeats 2000000

theorem set_split {α : Type} (l : List α) (i : Nat) (hi : i < l.length) (m : α) : l.set i m = l.take i ++ m :: l.drop (i + 1) := by
  rw [List.set_eq_take_append_cons_drop, if_pos hi]
theorem spo_split (l : List (List Timer)) (i : Nat) (hi : i < l.length) : l = l.take i ++ spo l i :: l.drop (i + 1) := by
  conv => lhs; rw [← List.take_append_drop i l, List.drop_eq_getElem_cons hi]
  simp [spo, hi]
theorem flat_put (l : List (List Timer)) (i : Nat) (hi : i < l.length) (m : List Timer) : (l.set i m).flatten = (l.take i).flatten ++ (m ++ (l.drop (i + 1)).flatten) := by
  rw [set_split l i hi, List.flatten_append, List.flatten_cons]
theorem flat_at (l : List (List Timer)) (i : Nat) (hi : i < l.length) : l.flatten = (l.take i).flatten ++ (spo l i ++ (l.drop (i + 1)).flatten) := by
  conv => lhs; rw [spo_split l i hi]
  rw [List.flatten_append, List.flatten_cons]
theorem spo_set {l : List (List Timer)} {i : Nat} (hi : i < l.length) (m : List Timer) (k : Nat) : spo (l.set i m) k = if k = i then m else spo l k := by
  unfold spo
  rw [List.getD_eq_getElem?_getD, List.getD_eq_getElem?_getD, List.getElem?_set]
  by_cases h : k = i
  · subst h; simp [hi]
  · rw [if_neg (fun e => h e.symm), if_neg h]
theorem timers_perm {now : Int} {a b : List Timer} (h : a.Perm b) : TimersOk now a → TimersOk now b := fun ⟨x, y⟩ =>
  ⟨fun t ht => x t (h.mem_iff.2 ht), (h.map Timer.id).nodup_iff.1 y⟩
structure Rel (w : Wheel) (l : List Timer) : Prop where
  ok : WheelOk w
  perm : l.Perm w.spokes.flatten
theorem Rel.len {w : Wheel} {l : List Timer} (h : Rel w l) : l.length = w.spokes.flatten.length := h.perm.length_eq
theorem Rel.all {w : Wheel} {l : List Timer} (h : Rel w l) : (wheelAll w).length = l.length := by
  unfold wheelAll; rw [if_pos h.ok, h.len]
theorem add_perm {w : Wheel} {t : Timer} (h : WheelOk w) (_ : 0 ≤ t.due) : (addTo w t).spokes.flatten.Perm (w.spokes.flatten ++ [t]) := by
  have hi : (t.due % 8).toNat < w.spokes.length := by rw [h.1]; omega
  show ((w.spokes.set _ _).flatten).Perm _
  rw [flat_put _ _ hi, flat_at w.spokes _ hi]
  simp only [List.append_assoc]
  exact ((List.perm_append_comm (l₁ := [t])).append_left _).append_left _
theorem tells_no {id : Int} {l : List Timer} : tells id l = false ↔ ∀ u ∈ l, u.id ≠ id := by
  unfold tells
  rw [List.any_eq_false]
  simp
theorem add_iff {w : Wheel} {l : List Timer} {t : Timer} (h : Rel w l) (h0 : 0 ≤ t.id) (h1 : 0 ≤ t.due ∧ t.due ≤ 1000000) : CanAdd w t ↔ w.now < t.due ∧ tells t.id l = false ∧ l.length < 40 := by
  have hp := add_perm (t := t) h.ok h1.1
  have hl := hp.length_eq
  rw [List.length_append, List.length_singleton] at hl
  have hll := h.len
  have en : (addTo w t).now = w.now := rfl
  constructor
  · rintro ⟨_, _, hok⟩
    have ht := timers_last (timers_perm hp hok.2.2.2.1)
    refine ⟨by have := ht.1.2.1; omega, tells_no.2 fun u hu => ht.2 u (h.perm.mem_iff.1 hu), ?_⟩
    have := hok.2.2.1
    omega
  · rintro ⟨a1, a2, a3⟩
    have hi : (t.due % 8).toNat < w.spokes.length := by rw [h.ok.1]; omega
    refine ⟨h.ok, h1.1, ?_, h.ok.2.1, by omega, timers_perm hp.symm (timers_step h.ok.2.2.2.1 ⟨h0, by omega, h1.2⟩ fun u hu => tells_no.1 a2 u (h.perm.mem_iff.2 hu)), fun k hk => ?_⟩
    · show (w.spokes.set _ _).length = 8
      rw [List.length_set]; exact h.ok.1
    · have hk' : k < w.spokes.length := by
        have e : (addTo w t).spokes.length = w.spokes.length := List.length_set
        rw [e] at hk; exact hk
      show SpokeOk k (spo (w.spokes.set _ _) k)
      rw [spo_set hi]
      split
      · rename_i e
        intro u hu
        rcases List.mem_append.1 hu with hu | hu
        · rw [← e] at hu; exact h.ok.2.2.2.2 k hk' u hu
        · rw [List.mem_singleton] at hu; subst hu; omega
      · exact h.ok.2.2.2.2 k hk'
theorem Rel.added {w : Wheel} {l : List Timer} {t : Timer} (h : Rel w l) (c : CanAdd w t) : Rel (addTo w t) (l ++ [t]) :=
  ⟨c.2.2, (h.perm.append_right [t]).trans (add_perm h.ok c.2.1).symm⟩
theorem cancel_flat (w : Wheel) (id : Int) : (cancelled w id).spokes.flatten = without id w.spokes.flatten := List.filter_flatten.symm
theorem spo_map (l : List (List Timer)) (id : Int) (k : Nat) : spo (l.map (without id)) k = without id (spo l k) := by
  unfold spo
  rw [List.getD_eq_getElem?_getD, List.getD_eq_getElem?_getD, List.getElem?_map]
  cases l[k]? <;> rfl
theorem timers_sub {now : Int} {a b : List Timer} (h : a.Sublist b) : TimersOk now b → TimersOk now a := fun ⟨x, y⟩ =>
  ⟨fun t ht => x t (h.subset ht), (h.map Timer.id).nodup y⟩
theorem Rel.gone {w : Wheel} {l : List Timer} (h : Rel w l) (id : Int) : Rel (cancelled w id) (without id l) := by
  refine ⟨⟨?_, h.ok.2.1, ?_, ?_, fun k hk => ?_⟩, ?_⟩
  · show (w.spokes.map _).length = 8
    rw [List.length_map]; exact h.ok.1
  · rw [cancel_flat]; exact Nat.le_trans (without_len _ _) h.ok.2.2.1
  · rw [cancel_flat]; exact timers_sub List.filter_sublist h.ok.2.2.2.1
  · have hk' : k < w.spokes.length := by
      have e : (cancelled w id).spokes.length = w.spokes.length := List.length_map _
      rw [e] at hk; exact hk
    show SpokeOk k (spo (w.spokes.map _) k)
    rw [spo_map]
    exact fun u hu => h.ok.2.2.2.2 k hk' u (List.mem_filter.1 hu).1
  · rw [cancel_flat]; exact h.perm.filter _
theorem Rel.told {w : Wheel} {l : List Timer} (h : Rel w l) (id : Int) : cancelTold w id = decide ((without id l).length < l.length) := by
  unfold cancelTold
  rw [decide_eq_true h.ok, Bool.true_and]
  have e : tells id w.spokes.flatten = tells id l := by
    unfold tells
    rw [Bool.eq_iff_iff, List.any_eq_true, List.any_eq_true]
    exact ⟨fun ⟨u, hu, q⟩ => ⟨u, h.perm.mem_iff.2 hu, q⟩, fun ⟨u, hu, q⟩ => ⟨u, h.perm.mem_iff.1 hu, q⟩⟩
  rw [e, Bool.eq_iff_iff, decide_eq_true_iff]
  unfold tells without
  rw [List.any_eq_true, List.length_filter_lt_length_iff_exists]
  simp
theorem other_spoke {w : Wheel} (h : WheelOk w) {i : Nat} {u : Timer} (hu : u ∈ (w.spokes.take i).flatten ∨ u ∈ (w.spokes.drop (i + 1)).flatten) : u.due % 8 ≠ i := by
  have key : ∀ j, (hj : j < w.spokes.length) → u ∈ w.spokes[j] → u.due % 8 = j := fun j hj hm => by
    have := h.2.2.2.2 j hj u
    unfold spo at this
    rw [List.getD_eq_getElem?_getD, List.getElem?_eq_getElem hj] at this
    exact this hm
  rcases hu with hu | hu
  · obtain ⟨s, hs, hm⟩ := List.mem_flatten.1 hu
    obtain ⟨j, hj, rfl⟩ := List.mem_take_iff_getElem.1 hs
    have := key j (by omega) hm
    omega
  · obtain ⟨s, hs, hm⟩ := List.mem_flatten.1 hu
    obtain ⟨j, hj, rfl⟩ := List.mem_drop_iff_getElem.1 hs
    have := key (i + 1 + j) (by omega) hm
    omega
theorem tick_told {w : Wheel} (h : WheelOk w) (hn : w.now < 1000000) : tickTold w = dueAt (w.now + 1) w.spokes.flatten := by
  have hi : ((w.now + 1) % 8).toNat < w.spokes.length := by rw [h.1]; have := h.2.1; omega
  have h0 := h.2.1
  have hno : ∀ u : Timer, u ∈ (w.spokes.take ((w.now + 1) % 8).toNat).flatten ∨ u ∈ (w.spokes.drop (((w.now + 1) % 8).toNat + 1)).flatten → u.due ≠ w.now + 1 := fun u hu e => by
    have := other_spoke h hu
    omega
  have hA : (w.spokes.take ((w.now + 1) % 8).toNat).flatten.filter (fun t => decide (t.due = w.now + 1)) = [] := List.filter_eq_nil_iff.2 (fun u hu => by simpa using hno u (.inl hu))
  have hD : (w.spokes.drop (((w.now + 1) % 8).toNat + 1)).flatten.filter (fun t => decide (t.due = w.now + 1)) = [] := List.filter_eq_nil_iff.2 (fun u hu => by simpa using hno u (.inr hu))
  unfold tickTold
  rw [if_pos ⟨h, by omega⟩, flat_at w.spokes _ hi]
  unfold dueAt
  rw [List.filter_append, List.filter_append, hA, hD, List.nil_append, List.append_nil]
theorem due_at {w : Wheel} {l : List Timer} (h : Rel w l) : dueBy (w.now + 1) l = dueAt (w.now + 1) l := by
  unfold dueBy dueAt
  congr 1
  refine List.filter_congr fun u hu => ?_
  have := (h.ok.2.2.2.1.1 u (h.perm.mem_iff.1 hu)).2.1
  rw [decide_eq_decide]
  omega
theorem Rel.due {w : Wheel} {l : List Timer} (h : Rel w l) (hn : w.now < 1000000) : (tickTold w).Perm (dueBy (w.now + 1) l) := by
  rw [tick_told h.ok hn, due_at h]
  exact ((h.perm.filter _).map _).symm
theorem tick_flat {w : Wheel} (h : WheelOk w) : (ticked w).spokes.flatten = stay (w.now + 1) w.spokes.flatten := by
  have h0 := h.2.1
  have hi : ((w.now + 1) % 8).toNat < w.spokes.length := by rw [h.1]; omega
  have hno : ∀ u : Timer, u ∈ (w.spokes.take ((w.now + 1) % 8).toNat).flatten ∨ u ∈ (w.spokes.drop (((w.now + 1) % 8).toNat + 1)).flatten → u.due ≠ w.now + 1 := fun u hu e => by
    have := other_spoke h hu
    omega
  show (w.spokes.set _ _).flatten = _
  rw [flat_put _ _ hi, flat_at w.spokes _ hi]
  unfold stay
  have hA : (w.spokes.take ((w.now + 1) % 8).toNat).flatten.filter (fun t => decide (t.due ≠ w.now + 1)) = _ := List.filter_eq_self.2 (fun u hu => by simpa using hno u (.inl hu))
  have hD : (w.spokes.drop (((w.now + 1) % 8).toNat + 1)).flatten.filter (fun t => decide (t.due ≠ w.now + 1)) = _ := List.filter_eq_self.2 (fun u hu => by simpa using hno u (.inr hu))
  rw [List.filter_append, List.filter_append, hA, hD]
theorem Rel.ticked {w : Wheel} {l : List Timer} (h : Rel w l) (hn : w.now < 1000000) : Rel (ticked w) (l.filter fun t => decide (w.now + 1 < t.due)) := by
  have h0 := h.ok.2.1
  have hi : ((w.now + 1) % 8).toNat < w.spokes.length := by rw [h.ok.1]; omega
  have e : (l.filter fun t => decide (w.now + 1 < t.due)) = stay (w.now + 1) l := by
    unfold stay
    refine List.filter_congr fun u hu => ?_
    have := (h.ok.2.2.2.1.1 u (h.perm.mem_iff.1 hu)).2.1
    rw [decide_eq_decide]
    omega
  rw [e]
  refine ⟨⟨?_, ?_, ?_, ?_, fun k hk => ?_⟩, ?_⟩
  · show (w.spokes.set _ _).length = 8
    rw [List.length_set]; exact h.ok.1
  · show 0 ≤ w.now + 1 ∧ w.now + 1 ≤ 1000000
    omega
  · rw [tick_flat h.ok]; exact Nat.le_trans (stay_len _ _) h.ok.2.2.1
  · rw [tick_flat h.ok]
    have q := timers_sub (now := w.now) (List.filter_sublist (p := fun t : Timer => decide (t.due ≠ w.now + 1))) h.ok.2.2.2.1
    refine ⟨fun u hu => ?_, q.2⟩
    have h1 := q.1 u hu
    have h2 : u.due ≠ w.now + 1 := by have := (List.mem_filter.1 hu).2; simpa using this
    refine ⟨h1.1, ?_, h1.2.2⟩
    have := h1.2.1
    show w.now + 1 + 1 ≤ u.due
    omega
  · have hk' : k < w.spokes.length := by
      have e : (Go.Proofs.Ytldgapfdjpefkaa.E.ticked w).spokes.length = w.spokes.length := List.length_set
      rw [e] at hk; exact hk
    show SpokeOk k (spo (w.spokes.set _ _) k)
    rw [spo_set hi]
    split
    · rename_i e
      intro u hu
      rw [← e] at hu
      exact h.ok.2.2.2.2 k hk' u (List.mem_filter.1 hu).1
    · exact h.ok.2.2.2.2 k hk'
  · rw [tick_flat h.ok]; exact h.perm.filter _
end Go.Proofs.Ytldgapfdjpefkaa.E
