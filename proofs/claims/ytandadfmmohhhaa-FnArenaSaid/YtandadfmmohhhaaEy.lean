/-
  More of the walk: rows without their elements' parts, and regions that draw their order with some of the memory turning.
-/
import Derived.Test.YtandadfmmohhhaaNum
namespace Go.Proofs.Ytandadfmmohhhaa.E
open Go Go.RowKit
section
variable {P : Program} {n : Nat} {N : Cont} {B : List (Nat × Cont)} {R : Cont} {w0 : World} {σ : Fr} {L : List Atom}
/-- A region that draws its order: X may turn, J stays as long as it may be read. -/
theorem SW_regionAX {id : Nat} {ops : List Oper} (X J : List Atom) (hm : P.follows .mixedOrders = true) (hL : Imp w0 L (X ++ J)) (h : SA P n ops N w0 ops.length (Array.replicate ops.length false) σ X J) : SW P n (.region id ops.toArray true) N B R w0 σ L := by
  unfold SW W
  intro w k
  refine wp_region_any hm ?_
  rw [List.size_toArray]
  unfold SA at h
  exact AC_sound _ _ _ _ _ _ h (hL w k).drew
variable {α : Type} [Lod α]
theorem row_of {s : Sl α} {w : World} (h : (Row s).holds w) (hn : 0 < s.n) : ∃ cur, s.row w s.blk s.off cur := by
  obtain ⟨_, h3⟩ := h
  rcases h3 with ⟨_, h4⟩ | ⟨g, o, cur, hr⟩
  · omega
  · have hb : s.blk = g := by simp [Sl.blk, hr.1]
    have ho : s.off = o := by simp [Sl.off, hr.1]
    exact ⟨cur, by rw [hb, ho]; exact hr⟩
theorem Val_ixR {T e : TypeId} {sz by_ : Nat} [hT : SlT P T e sz by_] {s : Sl α} (k : Nat) (hk : L[k]? = some (Row s)) {x y : Operand} (hx : ev n σ x = s.val) {z : Int} (hy : ev n σ y = .int .i64 z) (i : Nat) (hz : z = (i : Int)) (hi : i < s.n) :
    Val P n w0 σ L (.indexAddr T x y) (.pointer (some ⟨s.blk, s.off + i * sz, none⟩)) := by
  unfold Val
  intro _ _ _ _ w st
  obtain ⟨cur, hr⟩ := row_of (st.holds _ (List.mem_of_getElem? hk)) (by omega)
  have h5 := hr.1
  obtain ⟨inf, hinf, hisz, _⟩ := hT.info
  subst hz
  have h1 : (0 : Int) ≤ (i : Int) ∧ (i : Int) < (s.n : Int) := by omega
  have h2 := size_run (P := P) (T := e) (s := sz) (w := w) (by simp [hinf, hisz])
  simp only [execOp, hx, hy, Sl.val, h5, Instr.indexAt, asIntOf, Sem.run_bind, Sem.run_pure, Result.andThen_ok, run_underlying hT.und, h2, if_pos h1, Int.toNat_natCast, Addr.add_eq]
theorem Val_ldR {T : TypeId} [hT : Sc P T] {s : Sl α} (k : Nat) (hk : L[k]? = some (Row s)) {x : Operand} {i j sz : Nat} (hx : ev n σ x = .pointer (some ⟨s.blk, s.off + i * sz + j, none⟩)) (hsz : Lod.sz α = sz) (hj : Nat.blt j sz = true) (hi : i < s.n) {v : Value} (hv : (Lod.cells (s.nth i hi))[j]? = some v) :
    Val P n w0 σ L (.load T x) v := by
  unfold Val
  intro _ _ _ _ w st
  obtain ⟨cur, hr⟩ := row_of (st.holds _ (List.mem_of_getElem? hk)) (by omega)
  subst hsz
  have hj' : j < Lod.sz α := by simpa [blt_eq] using hj
  have : w.cell? ⟨s.blk, s.off + i * Lod.sz α + j, none⟩ = some v := by
    rw [cell_of_row w _ _ cur _ (0, 0) hr.2.1, hr.cellAt i hi j hj', hv]
  simp [execOp, hx, Instr.loadAt, Instr.sureAddr, loadVar, hT.isAgg, run_load, this]
theorem SW_fact {c : Code} {p : Prop} (hp : ∀ w, St w0 w L → p) (h : p → SW P n c N B R w0 σ L) : SW P n c N B R w0 σ L := by
  unfold SW at h ⊢
  exact fun w k => h (hp w k) w k
/-- A reckoning, whatever it asks. -/
theorem SA_pv' {all : List Oper} {X J : List Atom} {f : Nat} {listed : Array Bool} (i : Nat) {d : Option Tmp} {op : Op} {ty : TypeId} {pos : String} {aft : Array Edge} {v : Value} (hB : firstB all listed i = true) (ho : all[i]? = some ⟨d, op, ty, pos, aft, none⟩) (hv : ∀ L, Val P n w0 σ L op v)
    (h : SA P n all N w0 f (listed.setIfInBounds i true) (upo σ d v) X J) : SA P n all N w0 (f + 1) listed σ X J := by
  refine SA_first true i hB ho (fun h => by cases h) (fun J' X' => .inl ⟨by simp [Region.wanted], fun w s => ?_⟩) h
  have := hv (X' ++ J')
  unfold Val at this
  unfold Oper.quietAt
  rw [eval_mk, this d ty pos aft w s]
  exact ⟨rfl, rfl⟩
/-- Where a slice that holds something lies. -/
abbrev Lies (s : Sl α) : Prop := s.ao = some ⟨s.blk, s.off, none⟩
omit [Lod α] in
theorem Val_ixP {T e : TypeId} {sz by_ : Nat} [hT : SlT P T e sz by_] {s : Sl α} (h5 : Lies s) {x y : Operand} (hx : ev n σ x = s.val) {z : Int} (hy : ev n σ y = .int .i64 z) (i : Nat) (hz : z = (i : Int)) (hi : i < s.n) :
    Val P n w0 σ L (.indexAddr T x y) (.pointer (some ⟨s.blk, s.off + i * sz, none⟩)) := by
  unfold Val
  intro _ _ _ _ w st
  obtain ⟨inf, hinf, hisz, _⟩ := hT.info
  subst hz
  have h1 : (0 : Int) ≤ (i : Int) ∧ (i : Int) < (s.n : Int) := by omega
  have h2 := size_run (P := P) (T := e) (s := sz) (w := w) (by simp [hinf, hisz])
  simp only [execOp, hx, hy, Sl.val, show s.ao = some ⟨s.blk, s.off, none⟩ from h5, Instr.indexAt, asIntOf, Sem.run_bind, Sem.run_pure, Result.andThen_ok, run_underlying hT.und, h2, if_pos h1, Int.toNat_natCast, Addr.add_eq]
theorem Src.lies {m : Nat} {s : Sl α} (h : Src m w0 L s) (hn : 0 < s.n) (w : World) (k : St w0 w L) : Lies s := (h w k).2.2.2.2.1 (by omega)
theorem Imp.unfocusR (s : Sl α) (i : Nat) (hi : i < s.n) (y : α) : Imp w0 (Own y :: Row (s.upd i y) :: OwnL (s.l.take i) :: OwnL (s.l.drop (i + 1)) :: L) (Own (s.upd i y) :: L) := by
  have hi' : i < (s.upd i y).n := hi
  have h := Imp.unfocus (w0 := w0) (L := L) (s.upd i y) i hi' y (by rw [Sl.upd_nth])
  rw [Sl.upd_upd] at h
  have e1 : (s.upd i y).l.take i = s.l.take i := List.take_set_of_le (Nat.le_refl _)
  have e2 : (s.upd i y).l.drop (i + 1) = s.l.drop (i + 1) := List.drop_set_of_lt (Nat.lt_succ_self _)
  rw [e1, e2] at h
  exact h
end
end Go.Proofs.Ytandadfmmohhhaa.E
