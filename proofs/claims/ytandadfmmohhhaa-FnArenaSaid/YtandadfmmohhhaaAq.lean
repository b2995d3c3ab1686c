/-
  What is put into an arena and freed of it: plain lists, no program in sight.
-/
import Derived.Test.YtandadfmmohhhaaDb
namespace Go.Proofs.Ytandadfmmohhhaa.E
open Go Go.RowKit
set_option maxRecDepth 100000

theorem arenaOk_len {l : List Obj} (h : ArenaOk l) : l.length = 10 := h.1
theorem put_law {l : List Obj} {o : Obj} (h : 0 ≤ putPlace l o) : ∃ k : Nat, putPlace l o = k ∧ k < 10 ∧ 0 < k ∧ ArenaOk l ∧ ArenaOk (arenaPut l o) ∧ (oat l k).kind = 0 ∧ (oat (arenaPut l o) k).gen = (oat l k).gen + 1 ∧ (oat (arenaPut l o) k).kind = o.kind ∧ o.kind ≠ 0 := by
  have e : putPlace l o = ((putPlace l o).toNat : Int) := by omega
  obtain ⟨hA, hk, hA2, h10, h0, hn⟩ := putPlace_spec e
  have e2 : arenaPut l o = putAt l o (putPlace l o).toNat := if_pos h
  have hl : (putPlace l o).toNat < l.length := by rw [arenaOk_len hA]; exact h10
  have e3 : oat (putAt l o (putPlace l o).toNat) (putPlace l o).toNat = { o with gen := (oat l (putPlace l o).toNat).gen + 1 } := by
    unfold putAt; rw [oat_set hl, if_pos rfl]
  exact ⟨_, e, h10, h0, hA, by rw [e2]; exact hA2, hn, by rw [e2, e3], by rw [e2, e3], hk⟩
theorem freed_free {l : List Obj} {i : Nat} (hi : i < l.length) (k : Nat) (hk : (oat (freed l i) k).kind ≠ 0) : (oat (freed l i) k).inn ≠ i ∧ (i : Int) ∉ (oat (freed l i) k).links := by
  rw [oat_freed hi] at hk ⊢
  split at hk
  · exact absurd rfl hk
  · rename_i e
    rw [if_neg e]
    unfold unlink at hk ⊢
    split at hk
    · rename_i h0; exact absurd h0 hk
    · rename_i h0
      rw [if_neg h0]
      constructor
      · show (if (oat l k).inn = (i : Int) then (-1 : Int) else (oat l k).inn) ≠ i
        split
        · omega
        · assumption
      · intro hm
        obtain ⟨x, _, e2⟩ := List.mem_map.1 hm
        split at e2 <;> omega
theorem free_law {l : List Obj} {i : Int} (h : CanFree l i) : ∃ k : Nat, i = k ∧ k < 10 ∧ 0 < k ∧ ArenaOk l ∧ ArenaOk (arenaFree l i) ∧ (oat (arenaFree l i) k).kind = 0 ∧ (oat (arenaFree l i) k).gen = (oat l k).gen ∧
    ∀ j : Nat, (oat (arenaFree l i) j).kind ≠ 0 → (oat (arenaFree l i) j).inn ≠ k ∧ (k : Int) ∉ (oat (arenaFree l i) j).links := by
  have e2 : arenaFree l i = freed l i.toNat := if_pos h
  have hA := h.1
  have hi := h.2.1
  have hl : i.toNat < l.length := by rw [arenaOk_len hA]; omega
  have e : oat (freed l i.toNat) i.toNat = bareOf (oat l i.toNat).gen := by rw [oat_freed hl, if_pos rfl]
  refine ⟨i.toNat, by omega, by omega, by omega, hA, free_arena hA, by rw [e2, e]; rfl, by rw [e2, e]; rfl, fun j hj => ?_⟩
  rw [e2] at hj ⊢
  exact freed_free hl j hj
theorem goodSlot_freed {l : List Obj} {k : Nat} (h10 : k < 10) (h : (oat l k).kind = 0) (g : Int) : goodSlot l 0 0 (hOf 0 k g) = -1 := by
  unfold goodSlot
  refine if_neg fun e => ?_
  obtain ⟨_, hh, _, hk, _⟩ := e
  refine hk ?_
  have hs : hSlot (hOf 0 k g) = k := by
    unfold hOf at hh ⊢
    split at hh
    · rename_i c
      rw [if_pos c]
      unfold hSlot
      rw [if_pos (by omega)]
      omega
    · omega
  rw [hs]
  exact h
end Go.Proofs.Ytandadfmmohhhaa.E
