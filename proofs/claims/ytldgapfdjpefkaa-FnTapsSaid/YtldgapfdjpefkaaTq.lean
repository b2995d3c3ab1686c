/-
  Amounts paid in and out, taps: plain lists, no program in sight.
-/
import Derived.Test.YtldgapfdjpefkaaTp
namespace Go.Proofs.Ytldgapfdjpefkaa.E
open Go Go.RowKit

def AmtFits (a c : Amt) : Prop := AmtOk a ∧ AmtOk c ∧ a.pages ≤ c.pages ∧ a.rent ≤ c.rent ∧ a.cpu ≤ c.cpu
instance (a c : Amt) : Decidable (AmtFits a c) := by unfold AmtFits; infer_instance
def Amt.sub (a c : Amt) : Amt := ⟨a.pages - c.pages, a.rent - c.rent, a.cpu - c.cpu⟩
def amtOne (which n : Int) : Amt := if which = 0 then ⟨n, 0, 0⟩ else if which = 1 then ⟨0, n, 0⟩ else if which = 2 then ⟨0, 0, n⟩ else amt0
def amtPart (a : Amt) (which : Int) : Int := if which = 0 then a.pages else if which = 1 then a.rent else if which = 2 then a.cpu else 0
/-- Numbers whose sums stay small. -/
def Small (a : Amt) : Prop := (-1000000000 ≤ a.pages ∧ a.pages ≤ 1000000000) ∧ (-1000000000 ≤ a.rent ∧ a.rent ≤ 1000000000) ∧ (-1000000000 ≤ a.cpu ∧ a.cpu ≤ 1000000000)
theorem AmtOk.small {a : Amt} (h : AmtOk a) : Small a := by unfold AmtOk InA at h; unfold Small; omega
theorem AmtOk.add_small {a c : Amt} (h : AmtOk a) (k : AmtOk c) : Small (a.add c) := by unfold AmtOk InA at h k; unfold Small Amt.add; simp only; omega
/-- Of at most n right amounts. -/
def Upto (n : Nat) (a : Amt) : Prop := (0 ≤ a.pages ∧ a.pages ≤ 1000000 * (n : Int)) ∧ (0 ≤ a.rent ∧ a.rent ≤ 1000000 * (n : Int)) ∧ (0 ≤ a.cpu ∧ a.cpu ≤ 1000000 * (n : Int))
theorem Upto.small {n : Nat} {a : Amt} (h : Upto n a) (hn : n ≤ 20) : Small a := by unfold Upto at h; unfold Small; omega
theorem Upto.zero : Upto 0 amt0 := by simp [Upto, amt0]
theorem Upto.add {n : Nat} {a c : Amt} (h : Upto n a) (k : AmtOk c) : Upto (n + 1) (a.add c) := by unfold Upto at h ⊢; unfold AmtOk InA at k; unfold Amt.add; simp only; omega
theorem amt_add0 (a : Amt) : a.add amt0 = a := by cases a; simp [Amt.add, amt0]
/-- A right tree's sum so far. -/
theorem sumN_upto {t : List Res} (h : ∀ i, i < 5 → (rat t i).live = true → AmtOk (rat t i).bal) : ∀ n, n ≤ 5 → Upto n (sumN t n)
  | 0, _ => Upto.zero
  | n + 1, hn => by
    have ih := sumN_upto h n (by omega)
    unfold sumN
    cases hl : (rat t n).live with
    | true => rw [if_pos rfl]; exact ih.add (h n (by omega) hl)
    | false => rw [if_neg (by simp)]; exact ih.add amtOk0
theorem TreeOk.bal {t : List Res} (h : TreeOk t) (i : Nat) (hi : i < 5) : AmtOk (rat t i).bal := by
  have := h.2.2.2.1 i hi
  unfold PlaceOk at this
  split at this
  · exact this.1
  · rw [this]; exact amtOk0
/-- a is part of c. -/
def Amt.le (a c : Amt) : Prop := a.pages ≤ c.pages ∧ a.rent ≤ c.rent ∧ a.cpu ≤ c.cpu
theorem sumN_le {t : List Res} (h : ∀ i, i < 5 → (rat t i).live = true → AmtOk (rat t i).bal) {i : Nat} (hl : (rat t i).live = true) : ∀ n, n ≤ 5 → i < n → Amt.le (rat t i).bal (sumN t n)
  | 0, _, hi => absurd hi (Nat.not_lt_zero _)
  | n + 1, hn, hi => by
    have hu := sumN_upto h n (by omega)
    unfold sumN
    rcases Nat.lt_succ_iff_lt_or_eq.1 hi with h1 | rfl
    · have ih := sumN_le h hl n (by omega) h1
      have hb : AmtOk (if (rat t n).live = true then (rat t n).bal else amt0) := by
        split
        · exact h n (by omega) ‹_›
        · exact amtOk0
      unfold AmtOk InA at hb
      unfold Amt.le at ih ⊢
      unfold Amt.add; simp only; omega
    · rw [if_pos hl]
      unfold Upto at hu
      unfold Amt.le Amt.add; simp only; omega
theorem TreeOk.part {t : List Res} (h : TreeOk t) {i : Nat} (hi : i < 5) (hl : (rat t i).live = true) : Amt.le (rat t i).bal (resSum t) := by
  unfold resSum
  rw [h.1]
  exact sumN_le (fun j hj _ => h.bal j hj) hl 5 (Nat.le_refl _) hi

def IsLive (t : List Res) (i : Int) : Prop := (0 ≤ i ∧ i ≤ 4) ∧ (rat t i.toNat).live = true
instance (t : List Res) (i : Int) : Decidable (IsLive t i) := by unfold IsLive; infer_instance
def setBal (t : List Res) (i : Nat) (a : Amt) : List Res := t.set i { rat t i with bal := a }
def CanPay (t : List Res) (i : Int) (a : Amt) : Prop := TreeOk t ∧ IsLive t i ∧ AmtFits a (rat t i.toNat).bal
instance (t : List Res) (i : Int) (a : Amt) : Decidable (CanPay t i a) := by unfold CanPay; infer_instance
def treePay (t : List Res) (i : Int) (a : Amt) : List Res := if CanPay t i a then setBal t i.toNat ((rat t i.toNat).bal.sub a) else t
def CanBack (t : List Res) (a : Amt) : Prop := TreeOk t ∧ AmtOk a ∧ AmtOk ((resSum t).add a)
instance (t : List Res) (a : Amt) : Decidable (CanBack t a) := by unfold CanBack; infer_instance
def backTo (t : List Res) (i : Int) : Nat := if IsLive t i then i.toNat else 0
def treeBack (t : List Res) (i : Int) (a : Amt) : List Res := if CanBack t a then setBal t (backTo t i) ((rat t (backTo t i)).bal.add a) else t
def treeSum (t : List Res) : Amt := if TreeOk t then resSum t else amt0
theorem treeSum_ok (t : List Res) : AmtOk (treeSum t) := by
  unfold treeSum
  split
  · rename_i h; exact h.2.2.2.2
  · exact amtOk0
theorem backTo_lt (t : List Res) (i : Int) : backTo t i < 5 := by
  unfold backTo
  split
  · rename_i h; have := h.1; omega
  · omega
theorem backTo_live {t : List Res} (h : TreeOk t) (i : Int) : (rat t (backTo t i)).live = true := by
  unfold backTo
  split
  · rename_i k; exact k.2
  · exact h.2.1
/-- What comes back fits where it goes. -/
theorem CanBack.fits {t : List Res} {a : Amt} (h : CanBack t a) (i : Int) : AmtOk ((rat t (backTo t i)).bal.add a) := by
  have h1 := h.1.part (backTo_lt t i) (backTo_live h.1 i)
  have h2 := h.1.bal _ (backTo_lt t i)
  have h3 := h.2.1
  have h4 := h.2.2
  unfold Amt.le at h1
  unfold AmtOk InA at *
  unfold Amt.add at *
  simp only at *
  omega
/-- The sum of the first n trees. -/
def tat (l : List (List Res)) (i : Nat) : List Res := l.getD i []
def treesN (l : List (List Res)) : Nat → Amt
  | 0 => amt0
  | n + 1 => (treesN l n).add (treeSum (tat l n))
def treesSum (l : List (List Res)) : Amt := treesN l (min l.length 3)
theorem treesN_upto (l : List (List Res)) : ∀ n, Upto n (treesN l n)
  | 0 => Upto.zero
  | n + 1 => (treesN_upto l n).add (treeSum_ok _)

def TapOk (t : Tap) : Prop := (0 ≤ t.res ∧ t.res ≤ 4) ∧ (0 ≤ t.toRes ∧ t.toRes ≤ 4) ∧ (0 ≤ t.toPart ∧ t.toPart ≤ 2) ∧ (0 ≤ t.which ∧ t.which ≤ 2) ∧ (t.kind = 1 ∧ (0 ≤ t.rate ∧ t.rate ≤ 1000) ∨ t.kind = 2 ∧ (0 ≤ t.rate ∧ t.rate ≤ 100))
instance (t : Tap) : Decidable (TapOk t) := by unfold TapOk; infer_instance
def tapFlow (t : Tap) (a : Amt) : Int := if TapOk t ∧ AmtOk a then (if t.kind = 1 then min t.rate (amtPart a t.which) else t.rate * amtPart a t.which / 100) else 0
theorem amtPart_ok {a : Amt} (h : AmtOk a) (k : Int) : 0 ≤ amtPart a k ∧ amtPart a k ≤ 1000000 := by
  unfold AmtOk InA at h
  unfold amtPart
  repeat' split
  all_goals omega
theorem tapFlow_le (t : Tap) {a : Amt} (h : AmtOk a) : 0 ≤ tapFlow t a ∧ tapFlow t a ≤ amtPart a t.which := by
  have hp := amtPart_ok h t.which
  unfold tapFlow
  split
  · rename_i hk
    have hr := hk.1.2.2.2.2
    split
    · omega
    · have h0 : 0 ≤ t.rate ∧ t.rate ≤ 100 := by omega
      have h1 : 0 ≤ t.rate * amtPart a t.which := Int.mul_nonneg h0.1 hp.1
      have h2 : t.rate * amtPart a t.which ≤ 100 * amtPart a t.which := Int.mul_le_mul_of_nonneg_right h0.2 hp.1
      omega
  · omega
theorem amtOne_fits {a : Amt} (h : AmtOk a) {k n : Int} (hk : 0 ≤ k ∧ k ≤ 2) (hn : 0 ≤ n ∧ n ≤ amtPart a k) : AmtFits (amtOne k n) a := by
  unfold AmtOk InA at h
  have hk' : k = 0 ∨ k = 1 ∨ k = 2 := by omega
  rcases hk' with rfl | rfl | rfl <;> simp [AmtFits, AmtOk, InA, amtOne, amtPart] at hn ⊢ <;> omega

/-- May the tap be moved? -/
def CanMove (l : List (List Res)) (p : Int) (t : Tap) : Prop := (∀ x ∈ l, TreeOk x) ∧ l.length ≤ 3 ∧ TapOk t ∧ (0 ≤ p ∧ p < l.length) ∧ t.toPart < l.length ∧ IsLive (tat l p.toNat) t.res
instance (l : List (List Res)) (p : Int) (t : Tap) : Decidable (CanMove l p t) := by unfold CanMove; infer_instance
def moveN (l : List (List Res)) (p : Int) (t : Tap) : Int := tapFlow t (rat (tat l p.toNat) t.res.toNat).bal
def moveA (l : List (List Res)) (p : Int) (t : Tap) : Amt := amtOne t.which (moveN l p t)
def movePaid (l : List (List Res)) (p : Int) (t : Tap) : List (List Res) := l.set p.toNat (treePay (tat l p.toNat) t.res (moveA l p t))
def Moves (l : List (List Res)) (p : Int) (t : Tap) : Prop := CanMove l p t ∧ CanBack (tat (movePaid l p t) t.toPart.toNat) (moveA l p t)
instance (l : List (List Res)) (p : Int) (t : Tap) : Decidable (Moves l p t) := by unfold Moves; infer_instance
def moved (l : List (List Res)) (p : Int) (t : Tap) : List (List Res) := (movePaid l p t).set t.toPart.toNat (treeBack (tat (movePaid l p t) t.toPart.toNat) t.toRes (moveA l p t))
def tapMove (l : List (List Res)) (p : Int) (t : Tap) : List (List Res) := if Moves l p t then moved l p t else l
def tapTold (l : List (List Res)) (p : Int) (t : Tap) : Int := if Moves l p t then moveN l p t else 0
theorem tat_mem {l : List (List Res)} {i : Nat} (hi : i < l.length) : tat l i ∈ l := by
  unfold tat
  rw [List.getD_eq_getElem?_getD, List.getElem?_eq_getElem hi]
  exact List.getElem_mem hi
/-- What a tap takes there is. -/
theorem CanMove.pays {l : List (List Res)} {p : Int} {t : Tap} (h : CanMove l p t) : CanPay (tat l p.toNat) t.res (moveA l p t) := by
  obtain ⟨h1, h2, h3, h4, h5, h6⟩ := h
  have hT := h1 _ (tat_mem (l := l) (i := p.toNat) (by omega))
  have hb := hT.bal t.res.toNat (by have := h6.1; omega)
  exact ⟨hT, h6, amtOne_fits hb h3.2.2.2.1 (tapFlow_le t hb)⟩
end Go.Proofs.Ytldgapfdjpefkaa.E
