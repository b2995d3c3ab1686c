import Derived.Test.YtjjmjfoejpjopaaNumT
namespace Go.Proofs.Ytjjmjfoejpjopaa.E
open Go Go.RowKit
section
variable {P : Program} {n : Nat} {N : Cont} {B : List (Nat × Cont)} {R : Cont} {w0 : World} {σ : Fr} {L : List Atom}

theorem SW_regionAX {id : Nat} {ops : List Oper} (X J : List Atom) (hm : P.follows .mixedOrders = true) (hL : Imp w0 L (X ++ J)) (h : SA P n ops N w0 ops.length (Array.replicate ops.length false) σ X J) : SW P n (.region id ops.toArray true) N B R w0 σ L := by
  unfold SW W
  intro w k
  refine wp_region_any hm ?_
  rw [List.size_toArray]
  unfold SA at h
  exact AC_sound _ _ _ _ _ _ h (hL w k).drew
variable {α : Type} [Lod α]
theorem row_of {s : Sl α} {w : World} (h : (Row s).holds w) (hn : 0 < s.n) : ∃ cur, s.row w s.blk s.off cur := by
  obtain ⟨_, h3⟩ := h
  rcases h3 with ⟨_, h4⟩ | ⟨g, o, cur, hr⟩
  · omega
  · have hb : s.blk = g := by simp [Sl.blk, hr.1]
    have ho : s.off = o := by simp [Sl.off, hr.1]
    exact ⟨cur, by rw [hb, ho]; exact hr⟩
theorem Val_ixR {T e : TypeId} {sz by_ : Nat} [hT : SlT P T e sz by_] {s : Sl α} (k : Nat) (hk : L[k]? = some (Row s)) {x y : Operand} (hx : ev n σ x = s.val) {z : Int} (hy : ev n σ y = .int .i64 z) (i : Nat) (hz : z = (i : Int)) (hi : i < s.n) :
    Val P n w0 σ L (.indexAddr T x y) (.pointer (some ⟨s.blk, s.off + i * sz, none⟩)) := by
  unfold Val
  intro _ _ _ _ w st
  obtain ⟨cur, hr⟩ := row_of (st.holds _ (List.mem_of_getElem? hk)) (by omega)
  have h5 := hr.1
  obtain ⟨inf, hinf, hisz, _⟩ := hT.info
  subst hz
  have h1 : (0 : Int) ≤ (i : Int) ∧ (i : Int) < (s.n : Int) := by omega
  have h2 := size_run (P := P) (T := e) (s := sz) (w := w) (by simp [hinf, hisz])
  simp only [execOp, hx, hy, Sl.val, h5, Instr.indexAt, asIntOf, Sem.run_bind, Sem.run_pure, Result.andThen_ok, run_underlying hT.und, h2, if_pos h1, Int.toNat_natCast, Addr.add_eq]
theorem SW_fact {c : Code} {p : Prop} (hp : ∀ w, St w0 w L → p) (h : p → SW P n c N B R w0 σ L) : SW P n c N B R w0 σ L := by
  unfold SW at h ⊢
  exact fun w k => h (hp w k) w k

abbrev Lies (s : Sl α) : Prop := s.ao = some ⟨s.blk, s.off, none⟩
theorem Imp.unfocusR (s : Sl α) (i : Nat) (hi : i < s.n) (y : α) : Imp w0 (Own y :: Row (s.upd i y) :: OwnL (s.l.take i) :: OwnL (s.l.drop (i + 1)) :: L) (Own (s.upd i y) :: L) := by
  have hi' : i < (s.upd i y).n := hi
  have h := Imp.unfocus (w0 := w0) (L := L) (s.upd i y) i hi' y (by rw [Sl.upd_nth])
  rw [Sl.upd_upd] at h
  have e1 : (s.upd i y).l.take i = s.l.take i := List.take_set_of_le (Nat.le_refl _)
  have e2 : (s.upd i y).l.drop (i + 1) = s.l.drop (i + 1) := List.drop_set_of_lt (Nat.lt_succ_self _)
  rw [e1, e2] at h
  exact h
end
end Go.Proofs.Ytjjmjfoejpjopaa.E
