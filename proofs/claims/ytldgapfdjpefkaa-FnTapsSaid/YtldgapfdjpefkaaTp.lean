/-
  Amounts and trees of reserves: plain lists, no program in sight.
-/
import Derived.Test.YtldgapfdjpefkaaIm
namespace Go.Proofs.Ytldgapfdjpefkaa.E
open Go Go.RowKit

abbrev InA (z : Int) : Prop := 0 ≤ z ∧ z ≤ 1000000
def AmtOk (a : Amt) : Prop := InA a.pages ∧ InA a.rent ∧ InA a.cpu
instance (a : Amt) : Decidable (AmtOk a) := by unfold AmtOk; infer_instance
def Amt.add (a b : Amt) : Amt := ⟨a.pages + b.pages, a.rent + b.rent, a.cpu + b.cpu⟩
def amt0 : Amt := ⟨0, 0, 0⟩
def res0 : Res := ⟨false, 0, amt0⟩
/-- The place of a tree. -/
def rat (t : List Res) (i : Nat) : Res := t.getD i res0
def sumN (t : List Res) : Nat → Amt
  | 0 => amt0
  | n + 1 => (sumN t n).add (if (rat t n).live then (rat t n).bal else amt0)
/-- The sum of what lives. -/
def resSum (t : List Res) : Amt := sumN t t.length
/-- Does place i lead to 0 in fewer than n steps, from living parent to living parent? -/
def leads (t : List Res) : Nat → Int → Bool
  | 0, _ => false
  | n + 1, i => decide (i = 0) || (decide (0 ≤ i ∧ i ≤ 4) && (rat t i.toNat).live && leads t n (rat t i.toNat).parent)
/-- Up at most n times, as long as it goes. -/
def hop (t : List Res) : Nat → Int → Int
  | 0, a => a
  | n + 1, a => if 0 < a then hop t n (rat t a.toNat).parent else a
def PlaceOk (t : List Res) (i : Nat) : Prop := if (rat t i).live then AmtOk (rat t i).bal ∧ leads t 5 i = true else rat t i = res0
instance (t : List Res) (i : Nat) : Decidable (PlaceOk t i) := by unfold PlaceOk; infer_instance
/-- A right tree, as the program sees it. -/
def TreeOk (t : List Res) : Prop := t.length = 5 ∧ (rat t 0).live = true ∧ (rat t 0).parent = -1 ∧ (∀ i, i < 5 → PlaceOk t i) ∧ AmtOk (resSum t)
instance (t : List Res) : Decidable (TreeOk t) := by unfold TreeOk; infer_instance
/-- Place i, as the model sees it. -/
def PlaceOkS (t : List Res) (i : Nat) : Prop := ((rat t i).live = true ∨ rat t i = res0) ∧ AmtOk (rat t i).bal ∧
  (0 < i → (rat t i).live = true → (0 ≤ (rat t i).parent ∧ (rat t i).parent ≤ 4) ∧ (rat t i).parent ≠ i ∧ (rat t (rat t i).parent.toNat).live = true)
instance (t : List Res) (i : Nat) : Decidable (PlaceOkS t i) := by unfold PlaceOkS; infer_instance
def HopOk (t : List Res) (i : Nat) : Prop := (rat t i).live = true → hop t 5 i = 0
instance (t : List Res) (i : Nat) : Decidable (HopOk t i) := by unfold HopOk; infer_instance
/-- Four numbers, the parents of 1 to 4. -/
def hopF (a b c d : Fin 5) : Nat → Fin 5 → Fin 5
  | 0, i => i
  | n + 1, i => if i = 0 then i else hopF a b c d n (match i with | 0 => 0 | 1 => a | 2 => b | 3 => c | 4 => d)
theorem hopF_four : ∀ a b c d i : Fin 5, hopF a b c d 5 i = 0 → hopF a b c d 4 i = 0 := by decide +kernel
theorem placeOk_live {t : List Res} {i : Nat} (h : PlaceOkS t i) (hl : (rat t i).live = false) : rat t i = res0 := by
  rcases h.1 with h1 | h1
  · rw [hl] at h1; cases h1
  · exact h1
theorem hop_zero (t : List Res) (n : Nat) : hop t n 0 = 0 := by cases n <;> simp [hop]
theorem hop_more {t : List Res} : ∀ (n : Nat) (a : Int), hop t n a = 0 → hop t (n + 1) a = 0
  | 0, a, h => by
    have h' : a = 0 := h
    subst h'; exact hop_zero t 1
  | n + 1, a, h => by
    unfold hop at h ⊢
    split at h
    · rename_i ha; rw [if_pos ha]; exact hop_more n _ h
    · rename_i ha; rw [if_neg ha]; exact h
theorem leads_hop {t : List Res} : ∀ (n : Nat) (i : Int), leads t (n + 1) i = true → 0 ≤ i → hop t n i = 0
  | 0, i, h, _ => by
    simp [leads] at h
    exact h
  | n + 1, i, h, h0 => by
    by_cases hi : i = 0
    · subst hi; exact hop_zero t _
    · rw [leads] at h
      simp only [hi, decide_false, Bool.false_or, Bool.and_eq_true, decide_eq_true_eq] at h
      have hp : 0 ≤ (rat t i.toNat).parent := by
        have h2 := h.2
        rw [leads] at h2
        simp only [Bool.or_eq_true, Bool.and_eq_true, decide_eq_true_eq] at h2
        omega
      rw [hop, if_pos (by omega)]
      exact leads_hop n _ h.2 hp
theorem hop_leads {t : List Res} (hS : ∀ i, i < 5 → PlaceOkS t i) : ∀ (n i : Nat), i < 5 → (rat t i).live = true → hop t n i = 0 → leads t (n + 1) i = true
  | n, 0, _, _, _ => by simp [leads]
  | 0, i + 1, _, _, h => by
    exfalso
    have : ((i + 1 : Nat) : Int) = 0 := h
    omega
  | n + 1, i + 1, hi, hl, h => by
    have hp := (hS (i + 1) hi).2.2 (by omega) hl
    rw [hop, if_pos (by omega)] at h
    rw [Int.toNat_natCast] at h
    have e : (rat t (i + 1)).parent = ((rat t (i + 1)).parent.toNat : Int) := by omega
    rw [e] at h
    have h1 := hop_leads hS n (rat t (i + 1)).parent.toNat (by omega) hp.2.2 h
    rw [← e] at h1
    rw [leads, Int.toNat_natCast, hl, h1]
    simp
    omega
theorem hop_F {t : List Res} (hp : ∀ j, 0 < j → j < 5 → 0 ≤ (rat t j).parent ∧ (rat t j).parent ≤ 4) : ∃ a b c d : Fin 5, ∀ n (i : Fin 5), hop t n (i.val : Int) = ((hopF a b c d n i).val : Int) := by
  have p1 := hp 1 (by omega) (by omega)
  have p2 := hp 2 (by omega) (by omega)
  have p3 := hp 3 (by omega) (by omega)
  have p4 := hp 4 (by omega) (by omega)
  refine ⟨⟨(rat t 1).parent.toNat, by omega⟩, ⟨(rat t 2).parent.toNat, by omega⟩, ⟨(rat t 3).parent.toNat, by omega⟩, ⟨(rat t 4).parent.toNat, by omega⟩, fun n => ?_⟩
  induction n with
  | zero => intro i; rfl
  | succ n ih =>
    intro i
    match i with
    | 0 => show hop t (n + 1) 0 = _; rw [hop_zero]; rfl
    | 1 =>
      have := ih ⟨(rat t 1).parent.toNat, by omega⟩
      rw [show (((⟨(rat t 1).parent.toNat, by omega⟩ : Fin 5).val : Nat) : Int) = (rat t 1).parent from Int.toNat_of_nonneg p1.1] at this
      exact this
    | 2 =>
      have := ih ⟨(rat t 2).parent.toNat, by omega⟩
      rw [show (((⟨(rat t 2).parent.toNat, by omega⟩ : Fin 5).val : Nat) : Int) = (rat t 2).parent from Int.toNat_of_nonneg p2.1] at this
      exact this
    | 3 =>
      have := ih ⟨(rat t 3).parent.toNat, by omega⟩
      rw [show (((⟨(rat t 3).parent.toNat, by omega⟩ : Fin 5).val : Nat) : Int) = (rat t 3).parent from Int.toNat_of_nonneg p3.1] at this
      exact this
    | 4 =>
      have := ih ⟨(rat t 4).parent.toNat, by omega⟩
      rw [show (((⟨(rat t 4).parent.toNat, by omega⟩ : Fin 5).val : Nat) : Int) = (rat t 4).parent from Int.toNat_of_nonneg p4.1] at this
      exact this
theorem amtOk0 : AmtOk amt0 := by decide
theorem leads_self {t : List Res} {i : Int} (hi : i ≠ 0) (hp : (rat t i.toNat).parent = i) : ∀ n, leads t n i = false
  | 0 => rfl
  | n + 1 => by rw [leads, hp, leads_self hi hp n]; simp [hi]
/-- The two ways of telling a right tree agree. -/
theorem places_iff {t : List Res} (h0 : (rat t 0).live = true) : (∀ i, i < 5 → PlaceOk t i) ↔ (∀ i, i < 5 → PlaceOkS t i) ∧ ∀ i, i < 5 → HopOk t i := by
  constructor
  · intro h
    have hlive : ∀ i, i < 5 → (rat t i).live = true → AmtOk (rat t i).bal ∧ leads t 5 i = true := fun i hi hl => by
      have := h i hi
      unfold PlaceOk at this
      rwa [if_pos hl] at this
    refine ⟨fun i hi => ?_, fun i hi hl => hop_more 4 i (leads_hop 4 i (hlive i hi hl).2 (by omega))⟩
    cases hl : (rat t i).live with
    | false =>
      have h1 := h i hi
      unfold PlaceOk at h1
      rw [if_neg (by rw [hl]; simp)] at h1
      exact ⟨.inr h1, by rw [h1]; exact amtOk0, fun _ h2 => by rw [hl] at h2; cases h2⟩
    | true =>
      obtain ⟨h1, h2⟩ := hlive i hi hl
      refine ⟨.inl hl, h1, fun hpos _ => ?_⟩
      have h3 := h2
      rw [leads] at h3
      simp only [Bool.or_eq_true, Bool.and_eq_true, decide_eq_true_eq, Int.toNat_natCast] at h3
      have h4 := (h3.resolve_left (by omega)).2
      have hne : (rat t i).parent ≠ i := fun e => by
        have := leads_self (t := t) (i := i) (by omega) (by rw [Int.toNat_natCast]; exact e) 5
        rw [h2] at this; cases this
      rw [leads] at h4
      simp only [Bool.or_eq_true, Bool.and_eq_true, decide_eq_true_eq] at h4
      rcases h4 with h4 | h4
      · exact ⟨by omega, hne, by rw [h4]; exact h0⟩
      · exact ⟨h4.1.1, hne, h4.1.2⟩
  · rintro ⟨hS, hH⟩ i hi
    unfold PlaceOk
    cases hl : (rat t i).live with
    | false => rw [if_neg (by simp)]; exact placeOk_live (hS i hi) hl
    | true =>
      rw [if_pos rfl]
      refine ⟨(hS i hi).2.1, hop_leads hS 4 i hi hl ?_⟩
      have hp : ∀ j, 0 < j → j < 5 → 0 ≤ (rat t j).parent ∧ (rat t j).parent ≤ 4 := fun j h1 h2 => by
        cases hj : (rat t j).live with
        | false => rw [placeOk_live (hS j h2) hj]; decide
        | true => exact ((hS j h2).2.2 h1 hj).1
      obtain ⟨a, b, c, d, hF⟩ := hop_F hp
      have h5 := hH i hi hl
      have e5 := hF 5 ⟨i, hi⟩
      have e4 := hF 4 ⟨i, hi⟩
      have h6 : hopF a b c d 5 ⟨i, hi⟩ = 0 := by
        apply Fin.ext
        have : hop t 5 ((⟨i, hi⟩ : Fin 5).val : Int) = 0 := h5
        rw [this] at e5
        show (hopF a b c d 5 ⟨i, hi⟩).val = 0
        omega
      have h7 := hopF_four a b c d ⟨i, hi⟩ h6
      rw [h7] at e4
      exact e4
end Go.Proofs.Ytldgapfdjpefkaa.E
