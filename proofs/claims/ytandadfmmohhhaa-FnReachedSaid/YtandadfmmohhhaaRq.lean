/-
  What is reached: the plain law.
-/
import Derived.Test.YtandadfmmohhhaaRc
namespace Go.Proofs.Ytandadfmmohhhaa.E
open Go Go.RowKit
set_option maxRecDepth 100000
set_option maxHeartbeats 2000000

theorem mem_edges {l : List Obj} {i k : Nat} : (k : Int) ∈ edgesN l i 10 ↔ k < 10 ∧ isEdge l i k := by
  unfold edgesN
  rw [List.mem_map]
  constructor
  · rintro ⟨j, hj, e⟩
    have : j = k := by omega
    subst this
    rw [List.mem_filter, List.mem_range] at hj
    exact ⟨hj.1, of_decide_eq_true hj.2⟩
  · rintro ⟨h1, h2⟩
    exact ⟨k, List.mem_filter.2 ⟨List.mem_range.2 h1, decide_eq_true h2⟩, rfl⟩
theorem mem_garb {l : List Obj} {now : Int} (hA : ArenaOk l) {k : Nat} : (k : Int) ∈ garbage l now ↔ k < 10 ∧ (oat l k).kind ≠ 0 ∧ ¬ Rch l now k := by
  unfold garbage garbN
  rw [reach_len hA, List.mem_map]
  constructor
  · rintro ⟨j, hj, e⟩
    have : j = k := by omega
    subst this
    rw [List.mem_filter, List.mem_range] at hj
    have h2 := of_decide_eq_true hj.2
    rw [reach_tr hA] at h2
    exact ⟨hj.1, h2⟩
  · rintro ⟨h1, h2⟩
    rw [← reach_tr hA] at h2
    exact ⟨k, List.mem_filter.2 ⟨List.mem_range.2 h1, decide_eq_true h2⟩, rfl⟩
/-- Is slot i the root, or led to by one of the first n slots that is reached? -/
def Led (l : List Obj) (now : Int) (i n : Nat) : Prop := i = 0 ∨ ∃ k, k < n ∧ Rch l now k ∧ (i : Int) ∈ edgesN l k 10
theorem led_step {l : List Obj} {now : Int} {i n : Nat} : Led l now i (n + 1) ↔ Led l now i n ∨ (Rch l now n ∧ (i : Int) ∈ edgesN l n 10) := by
  unfold Led
  constructor
  · rintro (h | ⟨k, hk, r, e⟩)
    · exact .inl (.inl h)
    · by_cases hkn : k = n
      · subst hkn; exact .inr ⟨r, e⟩
      · exact .inl (.inr ⟨k, by omega, r, e⟩)
  · rintro ((h | ⟨k, hk, r, e⟩) | ⟨r, e⟩)
    · exact .inl h
    · exact .inr ⟨k, by omega, r, e⟩
    · exact .inr ⟨n, by omega, r, e⟩
theorem led_live {l : List Obj} {now : Int} {i k : Nat} (r : Rch l now k) (e : (i : Int) ∈ edgesN l k 10) (hx : expired (oat l i) now = false) : Rch l now i := by
  obtain ⟨hi, he⟩ := mem_edges.1 e
  exact .step k i r r.lt hi he hx
theorem rch_led {l : List Obj} {now : Int} {i : Nat} (r : Rch l now i) : Led l now i 10 := by
  cases r with
  | root => exact .inl rfl
  | step k _ rk _ hi he hx => exact .inr ⟨k, rk.lt, rk, mem_edges.2 ⟨hi, he⟩⟩
end Go.Proofs.Ytandadfmmohhhaa.E
