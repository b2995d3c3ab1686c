/-
  The timers that are due.
-/
import Derived.Test.YtandadfmmohhhaaHx
namespace Go.Proofs.Ytandadfmmohhhaa.E
open Go Go.RowKit
set_option maxRecDepth 100000
set_option maxHeartbeats 4000000

def dueBy (now : Int) (l : List Timer) : List Int := (l.filter fun t => decide (t.due ≤ now)).map Timer.id
theorem dueBy_step {now : Int} {s : Sl Timer} {i : Nat} (hi : i < s.n) : dueBy now (s.l.take (i + 1)) = dueBy now (s.l.take i) ++ (if (s.nth i hi).due ≤ now then [(s.nth i hi).id] else []) := by
  rw [List.take_succ_eq_append_getElem (by rw [s.hn]; exact hi), dueBy, List.filter_append, List.map_append]
  congr 1
  show List.map _ (List.filter _ [s.nth i hi]) = _
  by_cases h : (s.nth i hi).due ≤ now <;> simp [h]
theorem dueBy_len (now : Int) (l : List Timer) : (dueBy now l).length ≤ l.length := by
  rw [dueBy, List.length_map]; exact List.length_filter_le _ _
def Sl.emp (b : Nat) : Sl Int := ⟨some ⟨b, 0, none⟩, 0, 0, [], rfl⟩

theorem nums_len (k n : Nat) : (nums k n).length = n := by simp [nums]
theorem Sl.eq_put {α : Type} {s s' : Sl α} {l : List α} (hl : l.length = s.n) (hv : s'.val = s.val) (h : s'.l = l) : s' = s.put l hl := by
  obtain ⟨a, n, c, l', hn⟩ := s
  obtain ⟨a', n', c', l'', hn'⟩ := s'
  simp only [Sl.val, Value.slice.injEq] at hv
  obtain ⟨rfl, rfl, rfl⟩ := hv
  simp only at h
  subst h
  rfl
theorem markInts (s : Sl Int) (k : Nat) (R : List Atom) (w0 : World) (hk : k + s.n ≤ lim) (w : World) (hw : St w0 w (Own s :: R)) :
    C Try.prog 35 #[s.val, .int .i64 k] w fun v w' => ∃ M, (v = .int .i64 ((k + s.n : Nat) : Int) ∧ M = Own (s.put (nums k s.n) (nums_len _ _)) :: R) ∧ St w0 w' M := by
  refine Calls.mono (markIntS s k R w0 hk w hw) ?_
  rintro e W1 ⟨v, rfl, M, ⟨rfl, s', e1, _, e3, rfl⟩, hst⟩
  have := Sl.eq_put (nums_len k s.n) e1 e3
  subst this
  exact ⟨_, rfl, _, ⟨rfl, rfl⟩, hst⟩
theorem heldPut {m : Nat} (s : Sl Int) (k : Nat) (w : World) (hs : Lod.rd m w (s.put (nums k s.n) (nums_len _ _))) (hk : k + s.n ≤ lim) : FI 36 [s.val, .int .i64 k] w ((k + s.n : Nat) : Int) := heldIntS (s.put (nums k s.n) (nums_len _ _)) k w hs rfl hk
end Go.Proofs.Ytandadfmmohhhaa.E
