/-
  The collector's steps keep it safe and leave nothing behind: plain lists, no program in sight.
-/
import Derived.Test.YtandadfmmohhhaaHp
import Derived.Test.YtandadfmmohhhaaRe
namespace Go.Proofs.Ytandadfmmohhhaa.E
open Go Go.RowKit

theorem oat_set {l : List Obj} {i : Nat} {o : Obj} (hi : i < l.length) (k : Nat) : oat (l.set i o) k = if k = i then o else oat l k := by
  unfold oat
  simp only [List.getD_eq_getElem?_getD, List.getElem?_set]
  by_cases h : i = k
  · subst h; simp [hi]
  · rw [if_neg h, if_neg (fun e => h e.symm)]
theorem oat_ge {l : List Obj} {k : Nat} (h : l.length ≤ k) : oat l k = obj0 := by
  unfold oat
  rw [List.getD_eq_getElem?_getD, List.getElem?_eq_none h]; rfl
theorem oat_map {f : Obj → Obj} (hf : f obj0 = obj0) (l : List Obj) (k : Nat) : oat (l.map f) k = f (oat l k) := by
  unfold oat
  simp only [List.getD_eq_getElem?_getD, List.getElem?_map]
  cases l[k]? with
  | none => exact hf.symm
  | some o => rfl
theorem oat_mark {l : List Obj} {i : Nat} (hi : i < l.length) (b : Bool) (k : Nat) : oat (setMark l i b) k = if k = i then { oat l i with mark := b } else oat l k := oat_set hi k
theorem setMark_len (l : List Obj) (i : Nat) (b : Bool) : (setMark l i b).length = l.length := List.length_set
/-- The same but for the marks. -/
def SameM (l l' : List Obj) : Prop := l'.length = l.length ∧ ∀ k, { oat l' k with mark := false } = { oat l k with mark := false }
theorem SameM.refl (l : List Obj) : SameM l l := ⟨rfl, fun _ => rfl⟩
theorem SameM.trans {a c d : List Obj} (h : SameM a c) (k : SameM c d) : SameM a d := ⟨k.1.trans h.1, fun i => (k.2 i).trans (h.2 i)⟩
theorem SameM.symm {a c : List Obj} (h : SameM a c) : SameM c a := ⟨h.1.symm, fun i => (h.2 i).symm⟩
theorem SameM.kind {l l' : List Obj} (h : SameM l l') (k : Nat) : (oat l' k).kind = (oat l k).kind := by have := congrArg Obj.kind (h.2 k); exact this
theorem SameM.inn {l l' : List Obj} (h : SameM l l') (k : Nat) : (oat l' k).inn = (oat l k).inn := by have := congrArg Obj.inn (h.2 k); exact this
theorem SameM.til {l l' : List Obj} (h : SameM l l') (k : Nat) : (oat l' k).til = (oat l k).til := by have := congrArg Obj.til (h.2 k); exact this
theorem SameM.links {l l' : List Obj} (h : SameM l l') (k : Nat) : (oat l' k).links = (oat l k).links := by have := congrArg Obj.links (h.2 k); exact this
theorem SameM.mark {l : List Obj} {i : Nat} (hi : i < l.length) (b : Bool) : SameM l (setMark l i b) := by
  refine ⟨setMark_len _ _ _, fun k => ?_⟩
  rw [oat_mark hi]
  split
  · rename_i h; rw [h]
  · rfl
theorem SameM.exp {l l' : List Obj} (h : SameM l l') (k : Nat) (now : Int) : expired (oat l' k) now = expired (oat l k) now := by unfold expired; rw [h.kind, h.til]
theorem SameM.edge {l l' : List Obj} (h : SameM l l') (i k : Nat) : isEdge l' i k ↔ isEdge l i k := by unfold isEdge; rw [h.kind, h.kind, h.inn, h.links]
theorem SameM.edges {l l' : List Obj} (h : SameM l l') (i n : Nat) : edgesN l' i n = edgesN l i n := by
  unfold edgesN
  congr 1
  refine List.filter_congr fun k _ => ?_
  exact decide_eq_decide.2 (h.edge i k)
theorem SameM.rch1 {l l' : List Obj} (h : SameM l l') {now : Int} {k : Nat} (r : Rch l now k) : Rch l' now k := by
  induction r with
  | root => exact .root
  | step i k _ hi hk he hx ih => exact .step i k ih hi hk ((h.edge i k).2 he) (by rw [h.exp]; exact hx)
theorem SameM.rch {l l' : List Obj} (h : SameM l l') (now : Int) (k : Nat) : Rch l' now k ↔ Rch l now k := ⟨h.symm.rch1, h.rch1⟩
theorem ObjOk.marked {o : Obj} (h : ObjOk o) {b : Bool} (hk : o.kind ≠ 0 ∨ b = false) : ObjOk { o with mark := b } := by
  unfold ObjOk at h ⊢
  refine ⟨h.1, ?_⟩
  by_cases h0 : o.kind = 0
  · have hb : b = false := hk.resolve_left (fun e => e h0)
    have h2 := h.2
    rw [if_pos h0] at h2
    rw [if_pos (show ({ o with mark := b } : Obj).kind = 0 from h0), hb, h2]
  · have h2 := h.2
    rw [if_neg h0] at h2
    rw [if_neg (show ¬ ({ o with mark := b } : Obj).kind = 0 from h0)]
    exact h2
theorem ArenaOk.marked {l : List Obj} (h : ArenaOk l) {i : Nat} (hi : i < 10) {b : Bool} (hk : (oat l i).kind ≠ 0 ∨ b = false) : ArenaOk (setMark l i b) := by
  have hi' : i < l.length := by rw [h.1]; exact hi
  have s := SameM.mark hi' b
  refine ⟨by rw [setMark_len]; exact h.1, by rw [s.kind]; exact h.2.1, by rw [s.inn]; exact h.2.2.1, by rw [s.til]; exact h.2.2.2.1, fun k hk' => ?_⟩
  rw [setMark_len] at hk'
  have hs := h.2.2.2.2 k hk'
  refine ⟨?_, ?_, ?_⟩
  · rw [oat_mark hi']
    split
    · rename_i e; subst e; exact hs.1.marked hk
    · exact hs.1
  · rw [s.kind, s.inn, s.kind]; exact hs.2.1
  · rw [s.links]
    intro x hx h0
    rw [s.kind]
    exact hs.2.2 x hx h0

/-! freed -/
theorem unlink_0 (i : Int) : unlink i obj0 = obj0 := if_pos rfl
theorem unlink_kind (i : Int) (o : Obj) : (unlink i o).kind = o.kind := by unfold unlink; split <;> rfl
theorem unlink_til (i : Int) (o : Obj) : (unlink i o).til = o.til := by unfold unlink; split <;> rfl
theorem unlink_mark (i : Int) (o : Obj) : (unlink i o).mark = o.mark := by unfold unlink; split <;> rfl
theorem freed_len (l : List Obj) (i : Nat) : (freed l i).length = l.length := by unfold freed; simp
theorem oat_freed {l : List Obj} {i : Nat} (hi : i < l.length) (k : Nat) : oat (freed l i) k = if k = i then bareOf (oat l i).gen else unlink i (oat l k) := by
  unfold freed
  rw [oat_map (unlink_0 _), oat_set hi]
  split
  · exact if_pos rfl
  · rfl
theorem ObjOk.unlinked {o : Obj} (h : ObjOk o) (i : Int) : ObjOk (unlink i o) := by
  by_cases h0 : o.kind = 0
  · unfold unlink; rw [if_pos h0]; exact h
  · unfold ObjOk at h
    rw [if_neg h0] at h
    obtain ⟨h1, h2, h3, h4, h5, h6, h7, h8⟩ := h
    unfold unlink
    rw [if_neg h0]
    unfold ObjOk
    simp only
    rw [if_neg h0]
    refine ⟨h1, h2, ?_, h4, h5, h6, ?_, h8⟩
    · split <;> omega
    · obtain ⟨q1, q2, q3, q4, q5, q6⟩ := h7
      refine ⟨?_, q2, q3, by simpa using q4, q5, q6⟩
      intro x hx
      obtain ⟨y, hy, rfl⟩ := List.mem_map.1 hx
      have := q1 y hy
      split <;> omega
theorem bare_ok {o : Obj} (h : ObjOk o) : ObjOk (bareOf o.gen) := by
  unfold ObjOk at h ⊢
  exact ⟨h.1, by rw [if_pos (show (bareOf o.gen).kind = 0 from rfl)]; rfl⟩
theorem ArenaOk.freed {l : List Obj} (h : ArenaOk l) {i : Nat} (hi : i < 10) (h1 : 0 < i) : ArenaOk (freed l i) := by
  have hi' : i < l.length := by rw [h.1]; exact hi
  have e : ∀ k, k ≠ i → oat (E.freed l i) k = unlink i (oat l k) := fun k hk => by rw [oat_freed hi', if_neg hk]
  have hne : ∀ k, k ≠ i → (oat (E.freed l i) k).kind = (oat l k).kind := fun k hk => by rw [e k hk, unlink_kind]
  have hroot : (oat l 0).kind ≠ 0 := by rw [h.2.1]; decide
  refine ⟨by rw [freed_len]; exact h.1, by rw [hne 0 (by omega)]; exact h.2.1, ?_, by rw [e 0 (by omega), unlink_til]; exact h.2.2.2.1, fun k hk' => ?_⟩
  · rw [e 0 (by omega)]
    unfold unlink
    rw [if_neg hroot]
    have := h.2.2.1
    simp only
    split <;> omega
  rw [freed_len] at hk'
  have hs := h.2.2.2.2 k hk'
  by_cases hki : k = i
  · subst hki
    unfold SlotOk
    rw [oat_freed hi', if_pos rfl]
    exact ⟨bare_ok hs.1, fun _ q => absurd rfl q, fun x hx => by cases hx⟩
  · unfold SlotOk
    rw [e k hki]
    refine ⟨hs.1.unlinked _, ?_, ?_⟩
    · rw [unlink_kind]
      intro q1 q2
      unfold unlink
      rw [if_neg q2]
      simp only
      split
      · intro q3; omega
      · rename_i q3
        intro q4
        rw [hne _ (by omega)]
        exact hs.2.1 q1 q2 q4
    · by_cases hk0 : (oat l k).kind = 0
      · unfold unlink
        rw [if_pos hk0]
        intro x hx q
        exact absurd hk0 (fun _ => by
          have ho := hs.1
          unfold ObjOk at ho
          rw [if_pos hk0] at ho
          rw [ho.2] at hx
          cases hx)
      · unfold unlink
        rw [if_neg hk0]
        intro x hx q
        obtain ⟨y, hy, rfl⟩ := List.mem_map.1 hx
        split at q
        · omega
        · rename_i hyi
          rw [if_neg hyi, hne _ (by omega)]
          exact hs.2.2 y hy q
theorem freed_edge {l : List Obj} {i : Nat} (hi : i < l.length) {a k : Nat} (ha : a ≠ i) (hk : k ≠ i) : isEdge (freed l i) a k ↔ isEdge l a k := by
  unfold isEdge
  rw [oat_freed hi, oat_freed hi, if_neg ha, if_neg hk, unlink_kind, unlink_kind]
  constructor
  · rintro (⟨q1, q2, q3, q4⟩ | q)
    · left
      refine ⟨q1, q2, ?_, q4⟩
      unfold unlink at q3
      rw [if_neg q2] at q3
      simp only at q3
      split at q3
      · omega
      · exact q3
    · right
      unfold unlink at q
      split at q
      · exact q
      · obtain ⟨y, hy, e⟩ := List.mem_map.1 q
        split at e
        · omega
        · rw [← e]; exact hy
  · rintro (⟨q1, q2, q3, q4⟩ | q)
    · left
      refine ⟨q1, q2, ?_, q4⟩
      unfold unlink
      rw [if_neg q2]
      simp only
      rw [if_neg (by omega)]
      exact q3
    · right
      unfold unlink
      split
      · exact q
      · exact List.mem_map.2 ⟨k, q, if_neg (by omega)⟩
theorem freed_exp {l : List Obj} {i : Nat} (hi : i < l.length) {k : Nat} (hk : k ≠ i) (now : Int) : expired (oat (freed l i) k) now = expired (oat l k) now := by
  unfold expired
  rw [oat_freed hi, if_neg hk, unlink_kind, unlink_til]
theorem freed_rch {l : List Obj} {i : Nat} (hi : i < l.length) (h0 : 0 < i) {now : Int} (hn : ¬ Rch l now i) (k : Nat) : Rch (freed l i) now k ↔ Rch l now k := by
  constructor
  · intro r
    induction r with
    | root => exact .root
    | step a k _ ha hk he hx ih =>
      have h1 : a ≠ i := fun e => hn (e ▸ ih)
      have h2 : k ≠ i := by
        intro e
        subst e
        unfold expired at hx
        rw [oat_freed hi, if_pos rfl] at hx
        simp [bareOf] at hx
      rw [freed_edge hi h1 h2] at he
      rw [freed_exp hi h2] at hx
      exact .step a k ih ha hk he hx
  · intro r
    induction r with
    | root => exact .root
    | step a k r1 ha hk he hx ih =>
      have h1 : a ≠ i := fun e => hn (e ▸ r1)
      have h2 : k ≠ i := fun e => hn (e ▸ .step a k r1 ha hk he hx)
      exact .step a k ih ha hk ((freed_edge hi h1 h2).2 he) (by rw [freed_exp hi h2]; exact hx)
/-! shaded -/
theorem CanShade.mark {h : Heap} {i : Nat} (c : CanShade h i) : (oat h.arena i).mark = false := c.2.2
/-- What shading one place does. -/
structure Shade1 (h h' : Heap) (i : Nat) : Prop where
  same : SameM h.arena h'.arena
  ok : ArenaOk h'.arena
  grey : GreyOk h'.gc.grey
  phase : h'.gc.phase = h.gc.phase
  pos : h'.gc.pos = h.gc.pos
  round : h'.gc.round = h.gc.round
  marks : ∀ k, (oat h'.arena k).mark = true ↔ (oat h.arena k).mark = true ∨ (k = i ∧ CanShade h i)
  greys : ∀ x, x ∈ h'.gc.grey ↔ x ∈ h.gc.grey ∨ (x = i ∧ CanShade h i)
theorem greyOk_add {g : List Int} (h : GreyOk g) {i : Nat} (hi : i < 10) (hn : (i : Int) ∉ g) : GreyOk (g ++ [(i : Int)]) := by
  refine ⟨fun x hx => ?_, ?_⟩
  · rcases List.mem_append.1 hx with hx | hx
    · exact h.1 x hx
    · rw [List.mem_singleton] at hx; omega
  · rw [List.nodup_append]
    refine ⟨h.2, by simp, fun a ha b hb e => ?_⟩
    rw [List.mem_singleton] at hb
    subst hb; subst e
    exact hn ha
theorem shadeP_spec {h : Heap} (hA : ArenaOk h.arena) (hg : GreyOk h.gc.grey) {i : Nat} (hi : i < 10) : Shade1 h (shadeP h i) i := by
  have hi' : i < h.arena.length := by rw [hA.1]; exact hi
  unfold shadeP
  by_cases c : CanShade h i
  · rw [if_pos c]
    refine ⟨SameM.mark hi' true, hA.marked hi (.inl c.2.1), ?_, rfl, rfl, rfl, fun k => ?_, fun x => ?_⟩
    · simp only
      split
      · exact hg
      · rename_i hn; exact greyOk_add hg hi hn
    · simp only
      rw [oat_mark hi']
      by_cases e : k = i
      · rw [if_pos e]; simp [e, c]
      · rw [if_neg e]; simp [e]
    · simp only
      split
      · rename_i hm
        constructor
        · exact .inl
        · rintro (q | ⟨q, _⟩)
          · exact q
          · rw [q]; exact hm
      · rw [List.mem_append, List.mem_singleton]; simp [c]
  · rw [if_neg c]
    exact ⟨SameM.refl _, hA, hg, rfl, rfl, rfl, fun k => by simp [c], fun x => by simp [c]⟩
/-- What shading many does: E is what may be shaded. -/
structure Shaded (now : Int) (E : Nat → Prop) (h h' : Heap) : Prop where
  same : SameM h.arena h'.arena
  ok : ArenaOk h'.arena
  grey : GreyOk h'.gc.grey
  phase : h'.gc.phase = h.gc.phase
  pos : h'.gc.pos = h.gc.pos
  round : h'.gc.round = h.gc.round
  mono : ∀ k, (oat h.arena k).mark = true → (oat h'.arena k).mark = true
  gmono : ∀ x, x ∈ h.gc.grey → x ∈ h'.gc.grey
  new : ∀ k, (oat h'.arena k).mark = true → (oat h.arena k).mark = true ∨ (E k ∧ expired (oat h.arena k) now = false ∧ (k : Int) ∈ h'.gc.grey)
  gnew : ∀ k : Nat, (k : Int) ∈ h'.gc.grey → (k : Int) ∈ h.gc.grey ∨ (E k ∧ expired (oat h.arena k) now = false ∧ (oat h.arena k).mark = false)
theorem Shaded.refl {now : Int} {E : Nat → Prop} {h : Heap} (hA : ArenaOk h.arena) (hg : GreyOk h.gc.grey) : Shaded now E h h :=
  ⟨SameM.refl _, hA, hg, rfl, rfl, rfl, fun _ q => q, fun _ q => q, fun _ q => .inl q, fun _ q => .inl q⟩
theorem Shaded.add {now : Int} {E : Nat → Prop} {h h' : Heap} (s : Shaded now E h h') {i : Nat} (hi : i < 10) (he : E i) (hx : expired (oat h.arena i) now = false) : Shaded now E h (shadeP h' i) := by
  have q := shadeP_spec s.ok s.grey hi
  refine ⟨s.same.trans q.same, q.ok, q.grey, q.phase.trans s.phase, q.pos.trans s.pos, q.round.trans s.round, fun k m => (q.marks k).2 (.inl (s.mono k m)), fun x m => (q.greys x).2 (.inl (s.gmono x m)), fun k m => ?_, fun k m => ?_⟩
  · rcases (q.marks k).1 m with m | ⟨rfl, c⟩
    · rcases s.new k m with m | ⟨m1, m2, m3⟩
      · exact .inl m
      · exact .inr ⟨m1, m2, (q.greys _).2 (.inl m3)⟩
    · exact .inr ⟨he, hx, (q.greys _).2 (.inr ⟨rfl, c⟩)⟩
  · rcases (q.greys _).1 m with m | ⟨e, c⟩
    · exact s.gnew k m
    · have e' : k = i := by omega
      subst e'
      refine .inr ⟨he, hx, ?_⟩
      cases hm : (oat h.arena k).mark with
      | false => rfl
      | true => have := s.mono k hm; rw [c.2.2] at this; cases this
theorem shades_spec {now : Int} {E : Nat → Prop} {h : Heap} (hp : h.gc.phase = 0) : ∀ (es : List Int) (h' : Heap), Shaded now E h h' → (∀ x ∈ es, ∃ k : Nat, x = k ∧ k < 10 ∧ E k) →
    Shaded now E h (shades now es h') ∧ ∀ k : Nat, (k : Int) ∈ es → expired (oat h.arena k) now = false → (oat (shades now es h').arena k).mark = true
  | [], h', s, _ => ⟨s, fun _ q => by cases q⟩
  | e :: es, h', s, hE => by
    obtain ⟨i, rfl, hi, hEi⟩ := hE e (by simp)
    have hstep : shades now ((i : Int) :: es) h' = shades now es (if expired (oat h'.arena i) now then h' else shadeP h' i) := by
      unfold shades
      simp only [List.foldl_cons, Int.toNat_natCast]
    rw [hstep]
    have hexp := s.same.exp i now
    by_cases hx : expired (oat h.arena i) now = true
    · rw [if_pos (by rw [hexp]; exact hx)]
      obtain ⟨r1, r2⟩ := shades_spec hp es h' s (fun x hx => hE x (by simp [hx]))
      refine ⟨r1, fun k hk hkx => ?_⟩
      rcases List.mem_cons.1 hk with e | hk
      · have e' : k = i := by omega
        subst e'
        rw [hx] at hkx; cases hkx
      · exact r2 k hk hkx
    · have hx' : expired (oat h.arena i) now = false := by simpa using hx
      rw [if_neg (by rw [hexp]; exact hx)]
      have s' := s.add hi hEi hx'
      obtain ⟨r1, r2⟩ := shades_spec hp es _ s' (fun x hx => hE x (by simp [hx]))
      refine ⟨r1, fun k hk hkx => ?_⟩
      by_cases hki : k = i
      · subst hki
        have q := shadeP_spec s.ok s.grey hi
        have hm : (oat (shadeP h' k).arena k).mark = true := by
          rw [q.marks]
          by_cases c : CanShade h' k
          · exact .inr ⟨rfl, c⟩
          · left
            cases hm : (oat h'.arena k).mark with
            | true => rfl
            | false =>
              refine absurd ⟨by rw [s.phase]; exact hp, ?_, hm⟩ c
              rw [s.same.kind]
              unfold expired at hx'
              intro e0
              rw [e0] at hx'
              simp at hx'
        obtain ⟨t1, _⟩ := shades_spec (E := E) (h := shadeP h' k) (now := now) (by rw [q.phase, s.phase]; exact hp) es (shadeP h' k) (Shaded.refl q.ok q.grey) (fun x hx => hE x (by simp [hx]))
        exact t1.mono k hm
      · refine r2 k ?_ hkx
        rcases List.mem_cons.1 hk with e | hk
        · exact absurd (by omega) hki
        · exact hk
/-! a step of marking -/
theorem grey_last {g : List Int} (hg : g ≠ []) : g = g.dropLast ++ [g.getLastD 0] := by
  rw [List.getLastD_eq_getLast?, List.getLast?_eq_some_getLast hg]
  exact (List.dropLast_concat_getLast hg).symm
structure Popped (h : Heap) (i : Nat) : Prop where
  lt : i < 10
  inG : (i : Int) ∈ h.gc.grey
  ok : GreyOk (popped h).gc.grey
  greys : ∀ x, x ∈ (popped h).gc.grey ↔ x ∈ h.gc.grey ∧ x ≠ i
theorem popped_spec {h : Heap} (hg : GreyOk h.gc.grey) (hn : h.gc.grey ≠ []) : Popped h (h.gc.grey.getLastD 0).toNat := by
  have e := grey_last hn
  have hm : h.gc.grey.getLastD 0 ∈ h.gc.grey := by rw [e]; simp
  have hr := hg.1 _ hm
  have hi : ((h.gc.grey.getLastD 0).toNat : Int) = h.gc.grey.getLastD 0 := by omega
  have hnd := hg.2
  rw [e, List.nodup_append] at hnd
  refine ⟨by omega, by rw [hi]; exact hm, ⟨fun x hx => hg.1 x ((List.dropLast_sublist _).subset hx), hnd.1⟩, fun x => ?_⟩
  rw [hi]
  show x ∈ h.gc.grey.dropLast ↔ _
  constructor
  · intro q
    exact ⟨(List.dropLast_sublist _).subset q, fun e2 => hnd.2.2 x q _ (List.mem_singleton.2 rfl) e2⟩
  · rintro ⟨q, q2⟩
    rw [e, List.mem_append, List.mem_singleton] at q
    exact q.resolve_right q2
/-- What a look at place i does. -/
structure Looked (now : Int) (h h' : Heap) (i : Nat) : Prop where
  same : SameM h.arena h'.arena
  ok : ArenaOk h'.arena
  grey : GreyOk h'.gc.grey
  phase : h'.gc.phase = 0
  pos : h'.gc.pos = h.gc.pos
  round : h'.gc.round = h.gc.round
  mono : ∀ k, (oat h.arena k).mark = true → (oat h'.arena k).mark = true
  gmono : ∀ x, x ∈ h.gc.grey → x ≠ i → x ∈ h'.gc.grey
  new : ∀ k, (oat h'.arena k).mark = true → (oat h.arena k).mark = true ∨ (k = i ∧ (i = 0 ∨ expired (oat h.arena i) now = false)) ∨ (isEdge h.arena i k ∧ (i = 0 ∨ expired (oat h.arena i) now = false) ∧ expired (oat h.arena k) now = false ∧ (k : Int) ∈ h'.gc.grey)
  gnew : ∀ k : Nat, (k : Int) ∈ h'.gc.grey → ((k : Int) ∈ h.gc.grey ∧ k ≠ i) ∨ (isEdge h.arena i k ∧ (i = 0 ∨ expired (oat h.arena i) now = false) ∧ expired (oat h.arena k) now = false ∧ (oat h.arena k).mark = false ∧ k ≠ i)
  self : i = 0 ∨ expired (oat h.arena i) now = false → (oat h'.arena i).mark = true
  lead : i = 0 ∨ expired (oat h.arena i) now = false → ∀ k, k < 10 → isEdge h.arena i k → expired (oat h.arena k) now = false → (oat h'.arena k).mark = true
theorem lookAt_spec {h : Heap} {now : Int} (hA : ArenaOk h.arena) (hp : h.gc.phase = 0) {i : Nat} (p : Popped h i) : Looked now h (lookAt h now i) i := by
  have hi' : i < h.arena.length := by rw [hA.1]; exact p.lt
  unfold lookAt
  by_cases c : i ≠ 0 ∧ expired (oat h.arena i) now = true
  · rw [if_pos c]
    have hno : ¬ (i = 0 ∨ expired (oat h.arena i) now = false) := by rintro (q | q); exact c.1 q; rw [c.2] at q; cases q
    refine ⟨SameM.refl _, hA, p.ok, hp, rfl, rfl, fun _ q => q, fun x q q2 => (p.greys x).2 ⟨q, q2⟩, fun _ q => .inl q, fun k q => ?_, fun q => absurd q hno, fun q => absurd q hno⟩
    have := (p.greys _).1 q
    exact .inl ⟨this.1, by omega⟩
  · rw [if_neg c]
    have hyes : i = 0 ∨ expired (oat h.arena i) now = false := by
      by_cases h0 : i = 0
      · exact .inl h0
      · right
        cases hx : expired (oat h.arena i) now with
        | false => rfl
        | true => exact absurd ⟨h0, hx⟩ c
    have hkind : (oat h.arena i).kind ≠ 0 := by
      rcases hyes with h0 | hx
      · rw [h0, hA.2.1]; decide
      · unfold expired at hx
        intro e0
        rw [e0] at hx
        simp at hx
    have sm := SameM.mark hi' true
    have hA1 : ArenaOk (setMark h.arena i true) := hA.marked p.lt (.inl hkind)
    have hE : ∀ x ∈ edgesN h.arena i 10, ∃ k : Nat, x = k ∧ k < 10 ∧ isEdge h.arena i k := fun x hx => edgesN_mem hx
    obtain ⟨r1, r2⟩ := shades_spec (E := isEdge h.arena i) (now := now) (h := ⟨setMark h.arena i true, (popped h).gc⟩) hp (edgesN h.arena i 10) _ (Shaded.refl hA1 p.ok) hE
    have hmk : ∀ k, (oat (setMark h.arena i true) k).mark = true ↔ (oat h.arena k).mark = true ∨ k = i := fun k => by
      rw [oat_mark hi']
      by_cases e : k = i
      · rw [if_pos e]; simp [e]
      · rw [if_neg e]; simp [e]
    refine ⟨sm.trans r1.same, r1.ok, r1.grey, r1.phase.trans hp, r1.pos, r1.round, fun k q => r1.mono k ((hmk k).2 (.inl q)), fun x q q2 => r1.gmono x ((p.greys x).2 ⟨q, q2⟩), fun k q => ?_, fun k q => ?_, fun _ => r1.mono i ((hmk i).2 (.inr rfl)), fun _ k hk he hx => r2 k (mem_edgesN hk he) (by rw [sm.exp]; exact hx)⟩
    · rcases r1.new k q with q | ⟨q1, q2, q3⟩
      · rcases (hmk k).1 q with q | q
        · exact .inl q
        · exact .inr (.inl ⟨q, hyes⟩)
      · rw [show ({ arena := setMark h.arena i true, gc := (popped h).gc } : Heap).arena = setMark h.arena i true from rfl, sm.exp] at q2
        exact .inr (.inr ⟨q1, hyes, q2, q3⟩)
    · rcases r1.gnew k q with q | ⟨q1, q2, q3⟩
      · have := (p.greys _).1 q
        exact .inl ⟨this.1, by omega⟩
      · rw [show ({ arena := setMark h.arena i true, gc := (popped h).gc } : Heap).arena = setMark h.arena i true from rfl, sm.exp] at q2
        have hkn : k ≠ i ∧ (oat h.arena k).mark = false := by
          have : ¬ ((oat h.arena k).mark = true ∨ k = i) := fun e => by
            have := (hmk k).2 e
            rw [show ({ arena := setMark h.arena i true, gc := (popped h).gc } : Heap).arena = setMark h.arena i true from rfl] at q3
            rw [q3] at this; cases this
          rw [not_or] at this
          exact ⟨this.2, by simpa using this.1⟩
        exact .inr ⟨q1, hyes, q2, hkn.2, hkn.1⟩
/-! safe stays safe -/
theorem rch_kind {l : List Obj} {now : Int} {k : Nat} (hA : ArenaOk l) (h : Rch l now k) : (oat l k).kind ≠ 0 := by
  rcases h.live with rfl | h
  · rw [hA.2.1]; decide
  · intro e
    unfold expired at h
    rw [e] at h
    simp at h
theorem exp_not_rch {l : List Obj} {now : Int} {k : Nat} (h0 : k ≠ 0) (hx : expired (oat l k) now = true) : ¬ Rch l now k := fun h => by
  rcases h.live with q | q
  · exact h0 q
  · rw [hx] at q; cases q
theorem edge_of_mem {l : List Obj} {i k : Nat} (h : (k : Int) ∈ edgesN l i 10) : k < 10 ∧ isEdge l i k := by
  obtain ⟨k', e, h1, h2⟩ := edgesN_mem h
  have : k = k' := by omega
  subst this
  exact ⟨h1, h2⟩
/-- What a step of the collector leaves as it was. -/
def Keeps (now : Int) (h h' : Heap) : Prop := ∀ k, Rch h'.arena now k ↔ Rch h.arena now k
structure Good (now : Int) (h h' : Heap) : Prop where
  safe : GcSafe h' now
  keeps : Keeps now h h'
theorem markSafe {h : Heap} {now : Int} (hp : h.gc.phase = 0) : (∀ i, i < 10 → SafeAt h now i) ↔ ∀ i, i < 10 → Rch h.arena now i → ((oat h.arena i).mark = true ∨ i = 0) → (i : Int) ∉ h.gc.grey → ∀ k : Nat, k < 10 → isEdge h.arena i k → 0 < k → Rch h.arena now k → (oat h.arena k).mark = true := by
  have hne : ¬ h.gc.phase = 1 := by omega
  constructor
  · intro hs i hi h1 h2 h3 k hk he h4 h5
    have := hs i hi
    unfold SafeAt at this
    rw [if_neg hne] at this
    exact this h1 h2 h3 k (mem_edgesN hk he) h4 h5
  · intro hs i hi
    unfold SafeAt
    rw [if_neg hne]
    intro h1 h2 h3 k hk h4 h5
    obtain ⟨q1, q2⟩ := edge_of_mem hk
    exact hs i hi h1 h2 h3 k q1 q2 h4 h5
theorem sweepSafe {h : Heap} {now : Int} (hp : h.gc.phase = 1) : (∀ i, i < 10 → SafeAt h now i) ↔ ∀ i : Nat, i < 10 → ((i : Int) < h.gc.pos → (oat h.arena i).mark = false) ∧ (h.gc.pos ≤ i → 0 < i → Rch h.arena now i → (oat h.arena i).mark = true) := by
  constructor
  · intro hs i hi
    have := hs i hi
    unfold SafeAt at this
    rwa [if_pos hp] at this
  · intro hs i hi
    unfold SafeAt
    rw [if_pos hp]
    exact hs i hi
theorem looked_ok {h h' : Heap} {now : Int} {i : Nat} (hH : HeapOk h) (hp : h.gc.phase = 0) (q : Looked now h h' i) : HeapOk h' := by
  obtain ⟨_, h2, h3, _⟩ := hH
  have hpos : h.gc.pos = 0 := by omega
  exact ⟨q.ok, .inl ⟨q.phase, q.pos.trans hpos⟩, by rw [q.round]; exact h3, q.grey⟩
theorem looked_good {h h' : Heap} {now : Int} {i : Nat} (hS : GcSafe h now) (hp : h.gc.phase = 0) (_ : Popped h i) (q : Looked now h h' i) : Good now h h' := by
  have hk : Keeps now h h' := fun k => q.same.rch now k
  refine ⟨⟨looked_ok hS.1 hp q, (markSafe q.phase).2 fun j hj hr hb hg k hk' he h0 hrk => ?_⟩, hk⟩
  rw [hk j] at hr
  rw [hk k] at hrk
  rw [q.same.edge] at he
  by_cases hji : j = i
  · subst hji
    have hlive := hr.live
    have hxk : expired (oat h.arena k) now = false := hrk.live.resolve_left (by omega)
    exact q.lead hlive k hk' he hxk
  · have hjg : (j : Int) ∉ h.gc.grey := fun m => hg (q.gmono _ m (by omega))
    have hjb : (oat h.arena j).mark = true ∨ j = 0 := by
      rcases hb with hb | hb
      · rcases q.new j hb with q1 | ⟨q1, _⟩ | ⟨_, _, _, q4⟩
        · exact .inl q1
        · exact absurd q1 hji
        · exact absurd q4 hg
      · exact .inr hb
    exact q.mono k ((markSafe hp).1 hS.2 j hj hr hjb hjg k hk' he h0 hrk)
theorem toSweep_ok {h : Heap} (hH : HeapOk h) (hg : h.gc.grey = []) : HeapOk { h with gc := { h.gc with phase := 1, pos := 0 } } :=
  ⟨hH.1, .inr ⟨rfl, by simp, hg⟩, hH.2.2.1, hH.2.2.2⟩
theorem toSweep_good {h : Heap} {now : Int} (hS : GcSafe h now) (hp : h.gc.phase = 0) (hg : h.gc.grey = []) : Good now h { h with gc := { h.gc with phase := 1, pos := 0 } } := by
  refine ⟨⟨toSweep_ok hS.1 hg, (sweepSafe rfl).2 fun i hi => ⟨fun q => absurd q (by simp), fun _ h0 hr => ?_⟩⟩, fun _ => Iff.rfl⟩
  have hm : ∀ k, Rch h.arena now k → (oat h.arena k).mark = true ∨ k = 0 := by
    intro k hk
    induction hk with
    | root => exact .inr rfl
    | step a k r ha hk he hx ih =>
      by_cases hk0 : k = 0
      · exact .inr hk0
      · exact .inl ((markSafe hp).1 hS.2 a ha r ih (by rw [hg]; simp) k hk he (by omega) (.step a k r ha hk he hx))
  exact (hm i hr).resolve_right (by omega)
/-! a step of sweeping -/
structure Swept (now : Int) (h : Heap) (l' : List Obj) (i : Nat) : Prop where
  ok : ArenaOk l'
  kinds : ∀ k, (oat l' k).kind ≠ 0 → (oat h.arena k).kind ≠ 0
  marks : ∀ k, k ≠ i → (oat l' k).mark = (oat h.arena k).mark
  self : (oat l' i).mark = false
  gone : Dead h now i → (oat l' i).kind = 0
theorem swept_spec {h : Heap} {now : Int} (hA : ArenaOk h.arena) {i : Nat} (hi : i < 10) : Swept now h (swept h now i) i := by
  have hi' : i < h.arena.length := by rw [hA.1]; exact hi
  unfold swept
  by_cases d : Dead h now i
  · rw [if_pos d]
    have h0 : 0 < i := Nat.pos_of_ne_zero d.1
    refine ⟨hA.freed hi h0, fun k hk => ?_, fun k hk => ?_, ?_, fun _ => ?_⟩
    · rw [oat_freed hi'] at hk
      split at hk
      · exact absurd rfl hk
      · rwa [unlink_kind] at hk
    · rw [oat_freed hi', if_neg hk, unlink_mark]
    · rw [oat_freed hi', if_pos rfl]; rfl
    · rw [oat_freed hi', if_pos rfl]; rfl
  · rw [if_neg d]
    have s := SameM.mark hi' false
    refine ⟨hA.marked hi (.inr rfl), fun k hk => by rwa [s.kind] at hk, fun k hk => ?_, ?_, fun e => absurd e d⟩
    · rw [oat_mark hi', if_neg hk]
    · rw [oat_mark hi', if_pos rfl]
theorem dead_not_rch {h : Heap} {now : Int} (hS : GcSafe h now) (hp : h.gc.phase = 1) {i : Nat} (hi : i < 10) (he : h.gc.pos = i) (d : Dead h now i) : ¬ Rch h.arena now i := fun r => by
  rcases d.2.2 with q | q
  · exact exp_not_rch d.1 q r
  · have := ((sweepSafe hp).1 hS.2 i hi).2 (by omega) (Nat.pos_of_ne_zero d.1) r
    rw [q] at this; cases this
theorem swept_rch {h : Heap} {now : Int} (hA : ArenaOk h.arena) {i : Nat} (hi : i < 10) (hn : Dead h now i → ¬ Rch h.arena now i) (k : Nat) : Rch (swept h now i) now k ↔ Rch h.arena now k := by
  have hi' : i < h.arena.length := by rw [hA.1]; exact hi
  unfold swept
  by_cases d : Dead h now i
  · rw [if_pos d]
    exact freed_rch hi' (Nat.pos_of_ne_zero d.1) (hn d) k
  · rw [if_neg d]
    exact (SameM.mark hi' false).rch now k
theorem heapOk_sweep {h : Heap} (hH : HeapOk h) (hp : h.gc.phase = 1) : ∃ i : Nat, i < 10 ∧ h.gc.pos = i := by
  obtain ⟨_, h2, _⟩ := hH
  exact ⟨h.gc.pos.toNat, by omega, by omega⟩
theorem sweepStep_ok {h : Heap} {now : Int} (hH : HeapOk h) (hp : h.gc.phase = 1) : HeapOk (sweepStep h now) := by
  obtain ⟨i, hi, he⟩ := heapOk_sweep hH hp
  have hA := hH.1
  have s := swept_spec (now := now) hA hi
  have hg : h.gc.grey = [] := by have := hH.2.1; rcases this with q | q; omega; exact q.2.2
  have hr := hH.2.2.1
  unfold sweepStep
  rw [he, Int.toNat_natCast]
  split
  · refine ⟨s.ok.marked (by decide) (.inl (by rw [s.ok.2.1]; decide)), .inl ⟨rfl, rfl⟩, ?_, ?_⟩
    · simp only; omega
    · exact ⟨by simp, by simp⟩
  · refine ⟨s.ok, .inr ⟨hp, ?_, hg⟩, hr, hH.2.2.2⟩
    simp only
    omega
theorem sweepStep_good {h : Heap} {now : Int} (hS : GcSafe h now) (hp : h.gc.phase = 1) : Good now h (sweepStep h now) := by
  obtain ⟨i, hi, he⟩ := heapOk_sweep hS.1 hp
  have hA := hS.1.1
  have s := swept_spec (now := now) hA hi
  have hn := fun d => dead_not_rch hS hp hi he d
  have hr := swept_rch hA hi hn
  have hok := sweepStep_ok (now := now) hS.1 hp
  have hW := (sweepSafe hp).1 hS.2
  unfold sweepStep at hok ⊢
  rw [he, Int.toNat_natCast] at hok ⊢
  by_cases hw : (i : Int) + 1 = 10
  · rw [if_pos hw] at hok ⊢
    have hi9 : i = 9 := by omega
    have h0l : 0 < (swept h now i).length := by rw [s.ok.1]; decide
    have sm := SameM.mark h0l true
    refine ⟨⟨hok, (markSafe rfl).2 fun j hj _ hb hg => ?_⟩, fun k => (sm.rch now k).trans (hr k)⟩
    exfalso
    have hj0 : j ≠ 0 := fun e => hg (by simp [e])
    rcases hb with hb | hb
    · rw [show ({ arena := setMark (swept h now i) 0 true, gc := { phase := 0, pos := 0, round := min (h.gc.round + 1) 1000000, grey := [0] } } : Heap).arena = setMark (swept h now i) 0 true from rfl, oat_mark h0l, if_neg hj0] at hb
      by_cases hji : j = i
      · subst hji; rw [s.self] at hb; cases hb
      · rw [s.marks j hji, (hW j hj).1 (by omega)] at hb; cases hb
    · exact hj0 hb
  · rw [if_neg hw] at hok ⊢
    refine ⟨⟨hok, (sweepSafe (by exact hp)).2 fun j hj => ⟨fun q => ?_, fun q h0 r => ?_⟩⟩, hr⟩
    · simp only at q ⊢
      by_cases hji : j = i
      · subst hji; exact s.self
      · rw [s.marks j hji]
        exact (hW j hj).1 (by omega)
    · simp only at q r ⊢
      rw [s.marks j (by omega)]
      exact (hW j hj).2 (by omega) h0 ((hr j).1 r)
theorem heap_phase {h : Heap} (hH : HeapOk h) : h.gc.phase = 0 ∨ h.gc.phase = 1 := by obtain ⟨_, h2, _⟩ := hH; omega
theorem gcStep_ok {h : Heap} {now : Int} (hH : HeapOk h) : HeapOk (gcStep h now) := by
  unfold gcStep
  rw [if_pos hH]
  rcases heap_phase hH with hp | hp
  · rw [if_neg (by omega)]
    unfold markStep
    split
    · rename_i hg; exact toSweep_ok hH hg
    · rename_i hg
      exact looked_ok hH hp (lookAt_spec hH.1 hp (popped_spec hH.2.2.2 hg))
  · rw [if_pos hp]
    exact sweepStep_ok hH hp
theorem gcStep_good {h : Heap} {now : Int} (hS : GcSafe h now) : Good now h (gcStep h now) := by
  have hH := hS.1
  unfold gcStep
  rw [if_pos hH]
  rcases heap_phase hH with hp | hp
  · rw [if_neg (by omega)]
    unfold markStep
    split
    · rename_i hg; exact toSweep_good hS hp hg
    · rename_i hg
      have p := popped_spec hH.2.2.2 hg
      exact looked_good hS hp p (lookAt_spec hH.1 hp p)
  · rw [if_pos hp]
    exact sweepStep_good hS hp
theorem gcTold_not {h : Heap} {now : Int} (hS : GcSafe h now) : gcTold h now < 10 ∧ (0 ≤ gcTold h now → ¬ Rch h.arena now (gcTold h now).toNat) := by
  have hH := hS.1
  unfold gcTold
  by_cases c : HeapOk h ∧ h.gc.phase = 1
  · rw [if_pos c]
    obtain ⟨i, hi, he⟩ := heapOk_sweep hH c.2
    unfold sweepTold
    rw [he, Int.toNat_natCast]
    split
    · rename_i d
      refine ⟨by omega, fun _ => ?_⟩
      rw [Int.toNat_natCast]
      exact dead_not_rch hS c.2 hi he d
    · exact ⟨by omega, fun q => by omega⟩
  · rw [if_neg c]
    exact ⟨by omega, fun q => by omega⟩
/-! nothing is left behind -/
/-- May place k still be looked at, or shaded? -/
def inU (now : Int) (h : Heap) (k : Nat) : Bool := decide ((k : Int) ∈ h.gc.grey) || (!(oat h.arena k).mark && !expired (oat h.arena k) now)
def uN (now : Int) (h : Heap) : Nat := (List.range 10).countP (inU now h)
theorem countP_lt {p q : Nat → Bool} : ∀ {l : List Nat}, (∀ k, q k = true → p k = true) → ∀ {j : Nat}, j ∈ l → p j = true → q j = false → l.countP q < l.countP p
  | [], _, _, hj, _, _ => by cases hj
  | a :: l, h, j, hj, hp, hq => by
    have hmono : l.countP q ≤ l.countP p := List.countP_mono_left (fun k _ => h k)
    rcases List.mem_cons.1 hj with rfl | hj
    · rw [List.countP_cons_of_pos hp, List.countP_cons_of_neg (by rw [hq]; simp)]
      omega
    · have ih := countP_lt h hj hp hq
      simp only [List.countP_cons]
      by_cases ha : q a = true
      · rw [if_pos ha, if_pos (h a ha)]; omega
      · rw [if_neg ha]; split <;> omega
theorem uN_le (now : Int) (h : Heap) : uN now h ≤ 10 := by
  unfold uN
  exact Nat.le_trans List.countP_le_length (by simp)
theorem looked_uN {h h' : Heap} {now : Int} {i : Nat} (p : Popped h i) (q : Looked now h h' i) : uN now h' < uN now h := by
  unfold uN
  refine countP_lt (fun k hk => ?_) (List.mem_range.2 p.lt) (by simp [inU, p.inG]) ?_
  · unfold inU at hk ⊢
    rw [q.same.exp] at hk
    simp only [Bool.or_eq_true, decide_eq_true_eq, Bool.and_eq_true, Bool.not_eq_true'] at hk ⊢
    rcases hk with hk | ⟨hk1, hk2⟩
    · rcases q.gnew k hk with ⟨g1, _⟩ | ⟨_, _, g3, g4, _⟩
      · exact .inl g1
      · exact .inr ⟨g4, g3⟩
    · right
      refine ⟨?_, hk2⟩
      cases hm : (oat h.arena k).mark with
      | false => rfl
      | true => rw [q.mono k hm] at hk1; cases hk1
  · unfold inU
    rw [q.same.exp]
    have hg : ¬ (i : Int) ∈ h'.gc.grey := fun m => by
      rcases q.gnew i m with ⟨_, g⟩ | ⟨_, _, _, _, g⟩
      · exact g rfl
      · exact g rfl
    cases hx : expired (oat h.arena i) now with
    | true => simp [hg]
    | false => simp [hg, q.self (.inr hx)]
/-- A marking in which only what is reached was marked. -/
def S1 (now : Int) (h : Heap) : Prop := h.gc.phase = 0 ∧ ∀ k : Nat, k < 10 → ((oat h.arena k).mark = true ∨ (k : Int) ∈ h.gc.grey) → Rch h.arena now k
/-- A sweep in which only what is reached was marked. -/
def S2 (now : Int) (h : Heap) : Prop := h.gc.phase = 1 ∧ ∀ k : Nat, k < 10 → (h.gc.pos ≤ k → (oat h.arena k).mark = true → Rch h.arena now k) ∧ ((k : Int) < h.gc.pos → (oat h.arena k).kind ≠ 0 → Rch h.arena now k)
def S3 (now : Int) (h : Heap) : Prop := ∀ k : Nat, k < 10 → (oat h.arena k).kind ≠ 0 → Rch h.arena now k
/-- At most n steps more. -/
def Soon (now : Int) (h : Heap) (n : Nat) : Prop :=
  S3 now h ∨ (S2 now h ∧ 10 ≤ h.gc.pos + n) ∨ (S1 now h ∧ uN now h + 11 ≤ n) ∨ (h.gc.phase = 1 ∧ 31 ≤ h.gc.pos + n) ∨ (h.gc.phase = 0 ∧ uN now h + 32 ≤ n)
theorem soon_42 {h : Heap} {now : Int} (hH : HeapOk h) : Soon now h 42 := by
  have := uN_le now h
  rcases heap_phase hH with hp | hp
  · exact .inr (.inr (.inr (.inr ⟨hp, by omega⟩)))
  · obtain ⟨i, hi, he⟩ := heapOk_sweep hH hp
    exact .inr (.inr (.inr (.inl ⟨hp, by omega⟩)))
theorem soon_0 {h : Heap} {now : Int} (hH : HeapOk h) (s : Soon now h 0) : S3 now h := by
  rcases s with s | ⟨s, e⟩ | ⟨s, e⟩ | ⟨s, e⟩ | ⟨s, e⟩
  · exact s
  · obtain ⟨i, hi, he⟩ := heapOk_sweep hH s.1
    omega
  · omega
  · obtain ⟨i, hi, he⟩ := heapOk_sweep hH s
    omega
  · omega
theorem mark_kinds {h : Heap} {now : Int} (hH : HeapOk h) (hp : h.gc.phase = 0) (k : Nat) : (oat (markStep h now).arena k).kind = (oat h.arena k).kind := by
  unfold markStep
  split
  · rfl
  · rename_i hg
    exact (lookAt_spec hH.1 hp (popped_spec hH.2.2.2 hg)).same.kind k
theorem sweep_arena {h : Heap} {now : Int} (hA : ArenaOk h.arena) {i : Nat} (hi : i < 10) (he : h.gc.pos = i) : (∀ k, (oat (sweepStep h now).arena k).kind = (oat (swept h now i) k).kind) ∧ (i + 1 ≠ 10 → (sweepStep h now).arena = swept h now i ∧ (sweepStep h now).gc.phase = h.gc.phase ∧ (sweepStep h now).gc.pos = (i : Int) + 1) ∧
    (i + 1 = 10 → (sweepStep h now).arena = setMark (swept h now i) 0 true ∧ (sweepStep h now).gc.phase = 0 ∧ (sweepStep h now).gc.grey = [0]) := by
  have s := swept_spec (now := now) hA hi
  unfold sweepStep
  rw [he, Int.toNat_natCast]
  by_cases hw : (i : Int) + 1 = 10
  · rw [if_pos hw]
    exact ⟨fun k => (SameM.mark (by rw [s.ok.1]; decide) true).kind k, fun q => absurd q (by omega), fun _ => ⟨rfl, rfl, rfl⟩⟩
  · rw [if_neg hw]
    exact ⟨fun _ => rfl, fun _ => ⟨rfl, rfl, rfl⟩, fun q => absurd q (by omega)⟩
theorem gcStep_kinds {h : Heap} {now : Int} (hH : HeapOk h) (k : Nat) (hk : (oat (gcStep h now).arena k).kind ≠ 0) : (oat h.arena k).kind ≠ 0 := by
  unfold gcStep at hk
  rw [if_pos hH] at hk
  rcases heap_phase hH with hp | hp
  · rw [if_neg (by omega), mark_kinds hH hp] at hk; exact hk
  · rw [if_pos hp] at hk
    obtain ⟨i, hi, he⟩ := heapOk_sweep hH hp
    rw [(sweep_arena hH.1 hi he).1] at hk
    exact (swept_spec hH.1 hi).kinds k hk
theorem soon_step {h : Heap} {now : Int} {n : Nat} (hS : GcSafe h now) (s : Soon now h (n + 1)) : Soon now (gcStep h now) n := by
  have hH := hS.1
  have hG := gcStep_good hS
  have hstep : gcStep h now = if h.gc.phase = 1 then sweepStep h now else markStep h now := by unfold gcStep; rw [if_pos hH]
  by_cases s3 : S3 now h
  · exact .inl fun k hk hkind => (hG.keeps k).2 (s3 k hk (gcStep_kinds hH k hkind))
  rcases heap_phase hH with hp | hp
  · rw [if_neg (by omega)] at hstep
    have hs : (S1 now h ∧ uN now h + 11 ≤ n + 1) ∨ uN now h + 32 ≤ n + 1 := by
      rcases s with s | ⟨s, e⟩ | ⟨s, e⟩ | ⟨s, e⟩ | ⟨s, e⟩
      · exact absurd s s3
      · have := s.1; omega
      · exact .inl ⟨s, e⟩
      · omega
      · exact .inr e
    by_cases hg : h.gc.grey = []
    · have e1 : markStep h now = { h with gc := { h.gc with phase := 1, pos := 0 } } := by unfold markStep; rw [if_pos hg]
      rw [hstep, e1]
      rcases hs with ⟨s, e⟩ | e
      · refine .inr (.inl ⟨⟨rfl, fun k hk => ⟨fun _ m => s.2 k hk (.inl m), fun q => absurd q (by simp)⟩⟩, ?_⟩)
        simp only; omega
      · exact .inr (.inr (.inr (.inl ⟨rfl, by simp only; omega⟩)))
    · have e1 : markStep h now = lookAt h now (h.gc.grey.getLastD 0).toNat := by unfold markStep; rw [if_neg hg]
      have p := popped_spec hH.2.2.2 hg
      have q := lookAt_spec (now := now) hH.1 hp p
      have hu := looked_uN p q
      rw [hstep, e1]
      rcases hs with ⟨s, e⟩ | e
      · refine .inr (.inr (.inl ⟨⟨q.phase, fun k hk hm => ?_⟩, by omega⟩))
        rw [q.same.rch now k]
        have hpr := s.2 _ p.lt (.inr p.inG)
        rcases hm with hm | hm
        · rcases q.new k hm with m | ⟨e, _⟩ | ⟨m1, _, m3, _⟩
          · exact s.2 k hk (.inl m)
          · rw [e]; exact hpr
          · exact .step _ k hpr p.lt hk m1 m3
        · rcases q.gnew k hm with ⟨m, _⟩ | ⟨m1, _, m3, _⟩
          · exact s.2 k hk (.inr m)
          · exact .step _ k hpr p.lt hk m1 m3
      · exact .inr (.inr (.inr (.inr ⟨q.phase, by omega⟩)))
  · rw [if_pos hp] at hstep
    obtain ⟨i, hi, he⟩ := heapOk_sweep hH hp
    have hs : (S2 now h ∧ 10 ≤ h.gc.pos + (n + 1 : Nat)) ∨ 31 ≤ h.gc.pos + (n + 1 : Nat) := by
      rcases s with s | ⟨s, e⟩ | ⟨s, e⟩ | ⟨s, e⟩ | ⟨s, e⟩
      · exact absurd s s3
      · exact .inl ⟨s, e⟩
      · have := s.1; omega
      · exact .inr e
      · omega
    have w := swept_spec (now := now) hH.1 hi
    obtain ⟨a1, a2, a3⟩ := sweep_arena (now := now) hH.1 hi he
    have hk := hG.keeps
    rw [hstep] at hk ⊢
    by_cases hw : i + 1 = 10
    · obtain ⟨b1, b2, b3⟩ := a3 hw
      rcases hs with ⟨s, e⟩ | e
      · refine .inl fun k hk10 hkind => ?_
        rw [hk k]
        rw [a1 k] at hkind
        have hkind0 := w.kinds k hkind
        by_cases hki : k = i
        · subst hki
          by_cases hd : Dead h now k
          · exact absurd (w.gone hd) hkind
          · by_cases h0 : k = 0
            · rw [h0]; exact .root
            · refine (s.2 k hk10).1 (by omega) ?_
              cases hm : (oat h.arena k).mark with
              | true => rfl
              | false => exact absurd ⟨h0, hkind0, .inr hm⟩ hd
        · exact (s.2 k hk10).2 (by omega) hkind0
      · have h0l : 0 < (swept h now i).length := by rw [w.ok.1]; decide
        have hW := (sweepSafe hp).1 hS.2
        have fresh : S1 now (sweepStep h now) := by
          refine ⟨b2, fun k hk10 hm => ?_⟩
          rw [hk k]
          by_cases h0 : k = 0
          · rw [h0]; exact .root
          · exfalso
            rcases hm with hm | hm
            · rw [b1, oat_mark h0l, if_neg h0] at hm
              by_cases hki : k = i
              · subst hki; rw [w.self] at hm; cases hm
              · rw [w.marks k hki, (hW k hk10).1 (by omega)] at hm; cases hm
            · rw [b3, List.mem_singleton] at hm; omega
        refine .inr (.inr (.inl ⟨fresh, ?_⟩))
        have := uN_le now (sweepStep h now)
        omega
    · obtain ⟨b1, b2, b3⟩ := a2 hw
      rcases hs with ⟨s, e⟩ | e
      · refine .inr (.inl ⟨⟨b2.trans hp, fun k hk10 => ⟨fun hpos m => ?_, fun hpos hkind => ?_⟩⟩, by omega⟩)
        · rw [hk k]
          rw [b1, w.marks k (by omega)] at m
          exact (s.2 k hk10).1 (by omega) m
        · rw [hk k]
          rw [b1] at hkind
          have hkind0 := w.kinds k hkind
          by_cases hki : k = i
          · subst hki
            by_cases hd : Dead h now k
            · exact absurd (w.gone hd) hkind
            · by_cases h0 : k = 0
              · rw [h0]; exact .root
              · refine (s.2 k hk10).1 (by omega) ?_
                cases hm : (oat h.arena k).mark with
                | true => rfl
                | false => exact absurd ⟨h0, hkind0, .inr hm⟩ hd
          · exact (s.2 k hk10).2 (by omega) hkind0
      · exact .inr (.inr (.inr (.inl ⟨b2.trans hp, by omega⟩)))
/-- Many steps. -/
def steps (now : Int) : Nat → Heap → Heap
  | 0, h => h
  | n + 1, h => gcStep (steps now n h) now
theorem steps_spec {h : Heap} {now : Int} (hS : GcSafe h now) : ∀ n, n ≤ 42 → GcSafe (steps now n h) now ∧ (∀ k, Rch (steps now n h).arena now k ↔ Rch h.arena now k) ∧ Soon now (steps now n h) (42 - n)
  | 0, _ => ⟨hS, fun _ => Iff.rfl, soon_42 hS.1⟩
  | n + 1, hn => by
    obtain ⟨i1, i2, i3⟩ := steps_spec hS n (by omega)
    have g := gcStep_good i1
    refine ⟨g.safe, fun k => (g.keeps k).trans (i2 k), ?_⟩
    rw [show 42 - n = (42 - (n + 1)) + 1 by omega] at i3
    exact soon_step i1 i3
theorem steps_end {h : Heap} {now : Int} (hS : GcSafe h now) : S3 now (steps now 42 h) := by
  obtain ⟨i1, _, i3⟩ := steps_spec hS 42 (Nat.le_refl _)
  exact soon_0 i1.1 i3
theorem s3_garbage {h : Heap} {now : Int} (hH : HeapOk h) (s : S3 now h) : garbage h.arena now = [] := by
  unfold garbage garbN
  rw [reach_len hH.1]
  rw [List.map_eq_nil_iff, List.filter_eq_nil_iff]
  intro k hk
  rw [List.mem_range] at hk
  rw [decide_eq_true_eq]
  rintro ⟨q1, q2⟩
  exact q2 ((reach_tr hH.1 k).2 (s k hk q1))
/-! what is linked, moved or made is shaded -/
theorem shadeP_self {h : Heap} (hA : ArenaOk h.arena) (hp : h.gc.phase = 0) {i : Nat} (hi : i < 10) (hk : (oat h.arena i).kind ≠ 0) : (oat (shadeP h i).arena i).mark = true := by
  have hi' : i < h.arena.length := by rw [hA.1]; exact hi
  unfold shadeP
  by_cases c : CanShade h i
  · rw [if_pos c]
    simp only
    rw [oat_mark hi', if_pos rfl]
  · rw [if_neg c]
    cases hm : (oat h.arena i).mark with
    | true => rfl
    | false => exact absurd ⟨hp, hk, hm⟩ c
/-- Edges laid to a shaded place keep a collector safe. -/
theorem safe_laid {h h2 : Heap} {now : Int} {b : Nat} (hS : GcSafe h now) (hb : b < 10) (hrb : Rch h.arena now b) (hg : h2.gc = (shadeP h b).gc) (hA : ArenaOk h2.arena) (hm : ∀ k, (oat h2.arena k).mark = (oat (shadeP h b).arena k).mark)
    (hx : ∀ k, expired (oat h2.arena k) now = expired (oat h.arena k) now) (he : ∀ i k, i < 10 → k < 10 → isEdge h2.arena i k → isEdge h.arena i k ∨ k = b) : GcSafe h2 now := by
  have hH := hS.1
  have s := shadeP_spec hH.1 hH.2.2.2 hb
  have hr : ∀ k, Rch h2.arena now k → Rch h.arena now k := by
    intro k r
    induction r with
    | root => exact .root
    | step i k _ hi hk e x ih =>
      rcases he i k hi hk e with e | e
      · exact .step i k ih hi hk e (by rw [← hx]; exact x)
      · rw [e]; exact hrb
  have hok : HeapOk h2 := by
    refine ⟨hA, ?_, by rw [hg, s.round]; exact hH.2.2.1, by rw [hg]; exact s.grey⟩
    rw [hg, s.phase, s.pos]
    rcases hH.2.1 with q | ⟨q1, q2, q3⟩
    · exact .inl q
    · refine .inr ⟨q1, q2, ?_⟩
      unfold shadeP
      rw [if_neg (fun c => by have := c.1; omega)]
      exact q3
  refine ⟨hok, ?_⟩
  rcases heap_phase hH with hp | hp
  · refine (markSafe (by rw [hg, s.phase]; exact hp)).2 fun i hi r bl ng k hk e h0 rk => ?_
    rw [hg] at ng
    rw [hm] at bl ⊢
    have ng0 : (i : Int) ∉ h.gc.grey := fun q => ng ((s.greys _).2 (.inl q))
    have bl0 : (oat h.arena i).mark = true ∨ i = 0 := by
      rcases bl with bl | bl
      · rcases (s.marks i).1 bl with q | ⟨q, c⟩
        · exact .inl q
        · exact absurd ((s.greys _).2 (.inr ⟨by rw [q], c⟩)) ng
      · exact .inr bl
    rcases he i k hi hk e with e | e
    · exact (s.marks k).2 (.inl ((markSafe hp).1 hS.2 i hi (hr i r) bl0 ng0 k hk e h0 (hr k rk)))
    · subst e
      exact shadeP_self hH.1 hp hb (rch_kind hH.1 hrb)
  · have hsame : shadeP h b = h := by unfold shadeP; rw [if_neg (fun c => by have := c.1; omega)]
    rw [hsame] at hg hm
    have hW := (sweepSafe hp).1 hS.2
    refine (sweepSafe (by rw [hg]; exact hp)).2 fun i hi => ?_
    rw [hg, hm]
    exact ⟨(hW i hi).1, fun q h0 r => (hW i hi).2 q h0 (hr i r)⟩
def setLink (l : List Obj) (a j b : Nat) : List Obj := l.set a { oat l a with links := (oat l a).links.set j (b : Int) }
def setIn (l : List Obj) (a b : Nat) : List Obj := l.set a { oat l a with inn := (b : Int) }
theorem ObjOk.links2 {o : Obj} (h : ObjOk o) (hk : o.kind ≠ 0) : o.links.length = 2 := by
  unfold ObjOk at h
  obtain ⟨_, h⟩ := h
  rw [if_neg hk] at h
  exact h.2.2.2.2.2.1.2.2.2.1
theorem oat_setLink {l : List Obj} {a : Nat} (ha : a < l.length) (j b k : Nat) : oat (setLink l a j b) k = if k = a then { oat l a with links := (oat l a).links.set j (b : Int) } else oat l k := oat_set ha k
theorem oat_setIn {l : List Obj} {a : Nat} (ha : a < l.length) (b k : Nat) : oat (setIn l a b) k = if k = a then { oat l a with inn := (b : Int) } else oat l k := oat_set ha k
theorem setLink_kind {l : List Obj} {a : Nat} (ha : a < l.length) (j b k : Nat) : (oat (setLink l a j b) k).kind = (oat l k).kind := by rw [oat_setLink ha]; split; rename_i e; rw [e]; rfl
theorem setLink_inn {l : List Obj} {a : Nat} (ha : a < l.length) (j b k : Nat) : (oat (setLink l a j b) k).inn = (oat l k).inn := by rw [oat_setLink ha]; split; rename_i e; rw [e]; rfl
theorem setLink_til {l : List Obj} {a : Nat} (ha : a < l.length) (j b k : Nat) : (oat (setLink l a j b) k).til = (oat l k).til := by rw [oat_setLink ha]; split; rename_i e; rw [e]; rfl
theorem setLink_mark {l : List Obj} {a : Nat} (ha : a < l.length) (j b k : Nat) : (oat (setLink l a j b) k).mark = (oat l k).mark := by rw [oat_setLink ha]; split; rename_i e; rw [e]; rfl
theorem setLink_link {l : List Obj} {a : Nat} (ha : a < l.length) (j b k : Nat) : ∀ x ∈ (oat (setLink l a j b) k).links, x ∈ (oat l k).links ∨ x = b := by
  rw [oat_setLink ha]
  split
  · rename_i e
    subst e
    intro x hx
    exact List.mem_or_eq_of_mem_set hx
  · exact fun x hx => .inl hx
theorem setIn_kind {l : List Obj} {a : Nat} (ha : a < l.length) (b k : Nat) : (oat (setIn l a b) k).kind = (oat l k).kind := by rw [oat_setIn ha]; split; rename_i e; rw [e]; rfl
theorem setIn_links {l : List Obj} {a : Nat} (ha : a < l.length) (b k : Nat) : (oat (setIn l a b) k).links = (oat l k).links := by rw [oat_setIn ha]; split; rename_i e; rw [e]; rfl
theorem setIn_til {l : List Obj} {a : Nat} (ha : a < l.length) (b k : Nat) : (oat (setIn l a b) k).til = (oat l k).til := by rw [oat_setIn ha]; split; rename_i e; rw [e]; rfl
theorem setIn_mark {l : List Obj} {a : Nat} (ha : a < l.length) (b k : Nat) : (oat (setIn l a b) k).mark = (oat l k).mark := by rw [oat_setIn ha]; split; rename_i e; rw [e]; rfl
theorem ArenaOk.linked {l : List Obj} (h : ArenaOk l) {a j b : Nat} (ha : a < 10) (hb : b < 10) (hka : (oat l a).kind ≠ 0) (hkb : (oat l b).kind ≠ 0) : ArenaOk (setLink l a j b) := by
  have ha' : a < l.length := by rw [h.1]; exact ha
  refine ⟨by show (l.set a _).length = 10; rw [List.length_set]; exact h.1, by rw [setLink_kind ha']; exact h.2.1, by rw [setLink_inn ha']; exact h.2.2.1, by rw [setLink_til ha']; exact h.2.2.2.1, fun k hk => ?_⟩
  have hk : k < l.length := by have : (l.set a { oat l a with links := (oat l a).links.set j (b : Int) }).length = l.length := List.length_set; exact this ▸ hk
  have hs := h.2.2.2.2 k hk
  refine ⟨?_, ?_, ?_⟩
  · rw [oat_setLink ha']
    split
    · rename_i e
      have hs := h.2.2.2.2 a ha'
      have ho := hs.1
      unfold ObjOk at ho
      rw [if_neg hka] at ho
      obtain ⟨h1, h2, h3, h4, h5, h6, h7, h8⟩ := ho
      unfold ObjOk
      refine ⟨h1, ?_⟩
      rw [if_neg (show ¬ ({ oat l a with links := (oat l a).links.set j (b : Int) } : Obj).kind = 0 from hka)]
      refine ⟨h2, h3, h4, h5, h6, ?_, h8⟩
      obtain ⟨q1, q2, q3, q4, q5, q6⟩ := h7
      refine ⟨fun x hx => ?_, q2, q3, by show ((oat l a).links.set j _).length = 2; rw [List.length_set]; exact q4, q5, q6⟩
      rcases List.mem_or_eq_of_mem_set hx with hx | hx
      · exact q1 x hx
      · omega
    · exact hs.1
  · rw [setLink_kind ha', setLink_inn ha', setLink_kind ha']
    exact hs.2.1
  · intro x hx h0
    rw [setLink_kind ha']
    rcases setLink_link ha' j b k x hx with q | q
    · exact hs.2.2 x q h0
    · rw [q, Int.toNat_natCast]; exact hkb
theorem ArenaOk.movedIn {l : List Obj} (h : ArenaOk l) {a b : Nat} (ha : a < 10) (h0 : 0 < a) (hb : b < 10) (hka : (oat l a).kind ≠ 0) (hkb : (oat l b).kind ≠ 0) : ArenaOk (setIn l a b) := by
  have ha' : a < l.length := by rw [h.1]; exact ha
  have hne : ∀ k, k ≠ a → oat (setIn l a b) k = oat l k := fun k hk => by rw [oat_setIn ha', if_neg hk]
  refine ⟨by show (l.set a _).length = 10; rw [List.length_set]; exact h.1, by rw [setIn_kind ha']; exact h.2.1, by rw [hne 0 (by omega)]; exact h.2.2.1, by rw [setIn_til ha']; exact h.2.2.2.1, fun k hk => ?_⟩
  have hk : k < l.length := by have : (l.set a { oat l a with inn := (b : Int) }).length = l.length := List.length_set; exact this ▸ hk
  have hs := h.2.2.2.2 k hk
  unfold SlotOk
  by_cases e : k = a
  · subst e
    rw [oat_setIn ha', if_pos rfl]
    refine ⟨?_, fun _ _ _ => ?_, fun x hx q => ?_⟩
    · have ho := hs.1
      unfold ObjOk at ho
      rw [if_neg hka] at ho
      obtain ⟨h1, h2, h3, h4, h5, h6, h7, h8⟩ := ho
      unfold ObjOk
      refine ⟨h1, ?_⟩
      rw [if_neg (show ¬ ({ oat l k with inn := (b : Int) } : Obj).kind = 0 from hka)]
      exact ⟨h2, by simp only; omega, h4, h5, h6, h7, h8⟩
    · simp only
      rw [setIn_kind ha', Int.toNat_natCast]; exact hkb
    · rw [setIn_kind ha']
      exact hs.2.2 x hx q
  · rw [hne k e]
    refine ⟨hs.1, ?_, fun x hx q => ?_⟩
    · rw [setIn_kind ha']; exact hs.2.1
    · rw [setIn_kind ha']; exact hs.2.2 x hx q
theorem gcShade_at {h : Heap} (hH : HeapOk h) {b : Nat} (hb : b < 10) : gcShade h (b : Int) = shadeP h b := by
  unfold gcShade
  rw [if_pos ⟨hH, by omega, by omega⟩, Int.toNat_natCast]
theorem exp_of {l l' : List Obj} {k : Nat} {now : Int} (h1 : (oat l' k).kind = (oat l k).kind) (h2 : (oat l' k).til = (oat l k).til) : expired (oat l' k) now = expired (oat l k) now := by unfold expired; rw [h1, h2]
/-- A link laid. -/
theorem safe_link {h : Heap} {now : Int} {a j b : Nat} (hS : GcSafe h now) (ra : Rch h.arena now a) (rb : Rch h.arena now b) : GcSafe ⟨setLink (gcShade h (b : Int)).arena a j b, (gcShade h (b : Int)).gc⟩ now := by
  have hH := hS.1
  have ha := ra.lt
  have hb := rb.lt
  rw [gcShade_at hH hb]
  have s := shadeP_spec hH.1 hH.2.2.2 hb
  have ha' : a < (shadeP h b).arena.length := by rw [s.ok.1]; exact ha
  refine safe_laid hS hb rb rfl (s.ok.linked ha hb (by rw [s.same.kind]; exact rch_kind hH.1 ra) (by rw [s.same.kind]; exact rch_kind hH.1 rb)) (fun k => setLink_mark ha' j b k) (fun k => ?_) (fun i k _ _ e => ?_)
  · rw [exp_of (setLink_kind ha' j b k) (setLink_til ha' j b k), s.same.exp]
  · unfold isEdge at e
    simp only at e
    rw [setLink_kind ha', setLink_kind ha', setLink_inn ha'] at e
    rcases e with e | e
    · exact .inl ((s.same.edge i k).1 (.inl e))
    · rcases setLink_link ha' j b i _ e with e | e
      · exact .inl ((s.same.edge i k).1 (.inr e))
      · exact .inr (by omega)
/-- A thing moved. -/
theorem safe_move {h : Heap} {now : Int} {a b : Nat} (hS : GcSafe h now) (h0 : 0 < a) (ra : Rch h.arena now a) (rb : Rch h.arena now b) : GcSafe ⟨setIn (gcShade h (a : Int)).arena a b, (gcShade h (a : Int)).gc⟩ now := by
  have hH := hS.1
  have ha := ra.lt
  have hb := rb.lt
  rw [gcShade_at hH ha]
  have s := shadeP_spec hH.1 hH.2.2.2 ha
  have ha' : a < (shadeP h a).arena.length := by rw [s.ok.1]; exact ha
  refine safe_laid hS ha ra rfl (s.ok.movedIn ha h0 hb (by rw [s.same.kind]; exact rch_kind hH.1 ra) (by rw [s.same.kind]; exact rch_kind hH.1 rb)) (fun k => setIn_mark ha' b k) (fun k => ?_) (fun i k _ _ e => ?_)
  · rw [exp_of (setIn_kind ha' b k) (setIn_til ha' b k), s.same.exp]
  · unfold isEdge at e
    simp only at e
    rw [setIn_kind ha', setIn_kind ha', setIn_links ha'] at e
    by_cases hk : k = a
    · exact .inr hk
    · left
      rw [oat_setIn ha', if_neg hk] at e
      exact (s.same.edge i k).1 e
theorem room_spec {l : List Obj} {k : Nat} (h : room l = some k) : k < 10 ∧ 0 < k ∧ (oat l k).kind = 0 ∧ (oat l k).gen < 999 := by
  unfold room at h
  have h1 := List.mem_of_find?_eq_some h
  have h2 := List.find?_some h
  rw [List.mem_range] at h1
  unfold isRoom at h2
  simp only [Bool.and_eq_true, decide_eq_true_eq] at h2
  exact ⟨h1, h2.1.1, h2.1.2, h2.2⟩
theorem putPlace_spec {l : List Obj} {o : Obj} {k : Nat} (h : putPlace l o = k) : ArenaOk l ∧ o.kind ≠ 0 ∧ ArenaOk (putAt l o k) ∧ k < 10 ∧ 0 < k ∧ (oat l k).kind = 0 := by
  unfold putPlace at h
  split at h
  · rename_i c
    split at h
    · rename_i i hi
      split at h
      · rename_i hok
        have e : i = k := by omega
        subst e
        have := room_spec hi
        exact ⟨c.1, c.2, hok, this.1, this.2.1, this.2.2.1⟩
      · omega
    · omega
  · omega
/-- A box made. -/
theorem safe_born {h : Heap} {now : Int} {a k : Nat} {o : Obj} (hS : GcSafe h now) (hka : (oat h.arena a).kind = 1) (hok : o.kind = 1) (hoin : o.inn = a) (holinks : o.links = [-1, -1]) (hp : putPlace h.arena o = k) :
    GcSafe (gcBorn ⟨putAt h.arena o k, h.gc⟩ (k : Int)) now := by
  have hH := hS.1
  obtain ⟨hA, _, hA2, hk, hk0, hkk⟩ := putPlace_spec hp
  have hk' : k < h.arena.length := by rw [hA.1]; exact hk
  have hk2 : k < (putAt h.arena o k).length := by rw [hA2.1]; exact hk
  have hH1 : HeapOk ⟨putAt h.arena o k, h.gc⟩ := ⟨hA2, hH.2.1, hH.2.2.1, hH.2.2.2⟩
  have hput : ∀ i, oat (putAt h.arena o k) i = if i = k then { o with gen := (oat h.arena k).gen + 1 } else oat h.arena i := fun i => oat_set hk' i
  have hkind1 : (oat (putAt h.arena o k) k).kind = 1 := by rw [hput, if_pos rfl]; exact hok
  have hborn : gcBorn ⟨putAt h.arena o k, h.gc⟩ (k : Int) = ⟨setMark (putAt h.arena o k) k (decide (h.gc.phase = 0) || decide (h.gc.pos ≤ k)), h.gc⟩ := by
    unfold gcBorn
    rw [if_pos ⟨hH1, ⟨by omega, by omega⟩, by rw [Int.toNat_natCast, hkind1]; decide⟩, Int.toNat_natCast]
  rw [hborn]
  have hak : a ≠ k := fun e => by rw [e, hkk] at hka; cases hka
  generalize hm : (decide (h.gc.phase = 0) || decide (h.gc.pos ≤ k)) = m
  have hat : ∀ i, i ≠ k → oat (setMark (putAt h.arena o k) k m) i = oat h.arena i := fun i hi => by rw [oat_mark hk2, if_neg hi, hput, if_neg hi]
  have hatk : oat (setMark (putAt h.arena o k) k m) k = { o with gen := (oat h.arena k).gen + 1, mark := m } := by rw [oat_mark hk2, if_pos rfl, hput, if_pos rfl]
  have hslot : ∀ i, i < 10 → SlotOk h.arena i := fun i hi => hA.2.2.2.2 i (by rw [hA.1]; exact hi)
  have eFrom : ∀ j, j < 10 → ¬ isEdge (setMark (putAt h.arena o k) k m) k j := by
    intro j hj e
    rcases e with ⟨e1, e2, e3, _⟩ | e
    · by_cases hjk : j = k
      · subst hjk
        rw [hatk] at e3
        simp only at e3
        omega
      · rw [hat j hjk] at e2 e3
        have := (hslot j hj).2.1 e1 e2 (by omega)
        rw [e3, Int.toNat_natCast] at this
        exact this hkk
    · rw [hatk] at e
      simp only at e
      rw [holinks] at e
      simp at e
  have eOld : ∀ i j, i ≠ k → j ≠ k → (isEdge (setMark (putAt h.arena o k) k m) i j ↔ isEdge h.arena i j) := by
    intro i j hi hj
    unfold isEdge
    rw [hat i hi, hat j hj]
  have rOld : ∀ i, Rch (setMark (putAt h.arena o k) k m) now i → i = k ∨ Rch h.arena now i := by
    intro i r
    induction r with
    | root => exact .inr .root
    | step i j _ hi hj e x ih =>
      by_cases hjk : j = k
      · exact .inl hjk
      · right
        by_cases hik : i = k
        · subst hik
          exact absurd e (eFrom j hj)
        · rw [hat j hjk] at x
          exact .step i j (ih.resolve_left hik) hi hj ((eOld i j hik hjk).1 e) x
  have hmk : m = true → (oat (setMark (putAt h.arena o k) k m) k).mark = true := fun e => by rw [hatk]; exact e
  refine ⟨⟨hA2.marked hk (.inl (by rw [hkind1]; decide)), hH.2.1, hH.2.2.1, hH.2.2.2⟩, ?_⟩
  rcases heap_phase hH with hp | hp
  · refine (markSafe (by exact hp)).2 fun i hi r bl ng j hj e h0 rj => ?_
    simp only at r bl ng e rj ⊢
    by_cases hik : i = k
    · subst hik; exact absurd e (eFrom j hj)
    by_cases hjk : j = k
    · subst hjk
      refine hmk ?_
      rw [← hm, Bool.or_eq_true, decide_eq_true_eq]
      exact .inl ‹h.gc.phase = 0›
    rw [hat i hik] at bl
    rw [hat j hjk]
    exact (markSafe hp).1 hS.2 i hi ((rOld i r).resolve_left hik) bl ng j hj ((eOld i j hik hjk).1 e) h0 ((rOld j rj).resolve_left hjk)
  · have hW := (sweepSafe hp).1 hS.2
    refine (sweepSafe (by exact hp)).2 fun i hi => ?_
    simp only
    by_cases hik : i = k
    · subst hik
      refine ⟨fun q => ?_, fun q _ _ => ?_⟩
      · rw [hatk]
        simp only
        rw [← hm]
        simp only [Bool.or_eq_false_iff, decide_eq_false_iff_not]
        omega
      · refine hmk ?_
        rw [← hm]
        simp only [Bool.or_eq_true, decide_eq_true_eq]
        exact .inr q
    · rw [hat i hik]
      exact ⟨(hW i hi).1, fun q h0 r => (hW i hi).2 q h0 ((rOld i r).resolve_left hik)⟩
end Go.Proofs.Ytandadfmmohhhaa.E
