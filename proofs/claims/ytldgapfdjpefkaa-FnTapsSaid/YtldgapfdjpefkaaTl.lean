/-
  What a tap does to the sum of the trees: plain lists, no program in sight.
-/
import Derived.Test.YtldgapfdjpefkaaTq
namespace Go.Proofs.Ytldgapfdjpefkaa.E
open Go Go.RowKit

theorem setBal_len (t : List Res) (i : Nat) (a : Amt) : (setBal t i a).length = t.length := by unfold setBal; simp
theorem rat_setBal {t : List Res} {i : Nat} (hi : i < t.length) (a : Amt) (j : Nat) : rat (setBal t i a) j = if j = i then { rat t i with bal := a } else rat t j := by
  unfold setBal rat
  rw [List.getD_eq_getElem?_getD, List.getElem?_set]
  by_cases h : j = i
  · subst h; simp [hi]
  · rw [if_neg (fun e => h e.symm), if_neg h, List.getD_eq_getElem?_getD]
theorem setBal_self {t : List Res} {i : Nat} (hi : i < t.length) : setBal t i (rat t i).bal = t := by
  unfold setBal
  have : rat t i = t[i] := by unfold rat; rw [List.getD_eq_getElem?_getD, List.getElem?_eq_getElem hi]; rfl
  rw [this]
  exact List.set_getElem_self hi
theorem setBal_live {t : List Res} {i : Nat} (hi : i < t.length) (a : Amt) (j : Nat) : (rat (setBal t i a) j).live = (rat t j).live := by
  rw [rat_setBal hi]; split
  · rename_i e; rw [e]
  · rfl
theorem setBal_parent {t : List Res} {i : Nat} (hi : i < t.length) (a : Amt) (j : Nat) : (rat (setBal t i a) j).parent = (rat t j).parent := by
  rw [rat_setBal hi]; split
  · rename_i e; rw [e]
  · rfl
theorem leads_setBal {t : List Res} {i : Nat} (hi : i < t.length) (a : Amt) : ∀ (n : Nat) (j : Int), leads (setBal t i a) n j = leads t n j
  | 0, _ => rfl
  | n + 1, j => by rw [leads, leads, setBal_live hi, setBal_parent hi, leads_setBal hi a n]
theorem sumN_setBal {t : List Res} {i : Nat} (hi : i < t.length) (hl : (rat t i).live = true) (a : Amt) : ∀ n,
    (sumN (setBal t i a) n).pages = (sumN t n).pages + (if i < n then a.pages - (rat t i).bal.pages else 0) ∧
    (sumN (setBal t i a) n).rent = (sumN t n).rent + (if i < n then a.rent - (rat t i).bal.rent else 0) ∧
    (sumN (setBal t i a) n).cpu = (sumN t n).cpu + (if i < n then a.cpu - (rat t i).bal.cpu else 0)
  | 0 => by simp [sumN]
  | n + 1 => by
    obtain ⟨h1, h2, h3⟩ := sumN_setBal hi hl a n
    unfold sumN Amt.add
    rw [setBal_live hi, rat_setBal hi]
    by_cases h : n = i
    · subst h
      simp only [if_pos, hl, Nat.lt_irrefl, Nat.lt_succ_self, if_false] at h1 h2 h3 ⊢
      omega
    · simp only [h, if_false]
      by_cases h' : i < n
      · have h'' : i < n + 1 := by omega
        simp only [h', h'', if_true] at h1 h2 h3 ⊢
        omega
      · have h'' : ¬ i < n + 1 := by omega
        simp only [h', h'', if_false] at h1 h2 h3 ⊢
        omega
theorem resSum_setBal {t : List Res} {i : Nat} (hi : i < t.length) (hl : (rat t i).live = true) (a : Amt) : resSum (setBal t i a) = ((resSum t).add a).sub (rat t i).bal := by
  obtain ⟨h1, h2, h3⟩ := sumN_setBal hi hl a t.length
  simp only [hi, if_true] at h1 h2 h3
  unfold resSum
  rw [setBal_len]
  generalize sumN (setBal t i a) t.length = x at *
  cases x
  simp only [Amt.sub, Amt.add, Amt.mk.injEq] at *
  omega
theorem TreeOk.setBal {t : List Res} (h : TreeOk t) {i : Nat} (hi : i < 5) (hl : (rat t i).live = true) {a : Amt} (ha : AmtOk a) (hs : AmtOk (resSum (setBal t i a))) : TreeOk (setBal t i a) := by
  obtain ⟨h1, h2, h3, h4, h5⟩ := h
  have hi' : i < t.length := by omega
  refine ⟨by rw [setBal_len, h1], by rw [setBal_live hi', h2], by rw [setBal_parent hi', h3], fun j hj => ?_, hs⟩
  have hp := h4 j hj
  unfold PlaceOk at hp ⊢
  rw [setBal_live hi', leads_setBal hi', rat_setBal hi']
  by_cases hji : j = i
  · subst hji
    rw [if_pos hl] at hp
    rw [if_pos hl, if_pos rfl]
    exact ⟨ha, hp.2⟩
  · simp only [if_neg hji]
    exact hp
theorem treePay_len (t : List Res) (i : Int) (a : Amt) : (treePay t i a).length = t.length := by unfold treePay; split <;> simp [setBal_len]
theorem treeBack_len (t : List Res) (i : Int) (a : Amt) : (treeBack t i a).length = t.length := by unfold treeBack; split <;> simp [setBal_len]
theorem CanPay.ok {t : List Res} {i : Int} {a : Amt} (h : CanPay t i a) : TreeOk (treePay t i a) ∧ resSum (treePay t i a) = (resSum t).sub a := by
  have h0 := h
  obtain ⟨hT, hl, hf⟩ := h
  have hi : i.toNat < 5 := by have := hl.1; omega
  have hi' : i.toNat < t.length := by rw [hT.1]; exact hi
  have e : resSum (treePay t i a) = (resSum t).sub a := by
    unfold treePay
    rw [if_pos h0, resSum_setBal hi' hl.2]
    simp only [Amt.sub, Amt.add, Amt.mk.injEq]
    omega
  refine ⟨?_, e⟩
  have hp := hT.part hi hl.2
  have hs := hT.2.2.2.2
  have hs' : AmtOk (resSum (treePay t i a)) := by
    rw [e]
    unfold AmtFits AmtOk InA at hf
    unfold Amt.le at hp
    unfold AmtOk InA at hs ⊢
    unfold Amt.sub
    simp only
    omega
  unfold treePay at hs' ⊢
  rw [if_pos h0] at hs' ⊢
  refine hT.setBal hi hl.2 ?_ hs'
  unfold AmtFits AmtOk InA at hf
  unfold AmtOk InA Amt.sub
  simp only
  omega
theorem CanBack.ok {t : List Res} {a : Amt} (h : CanBack t a) (i : Int) : TreeOk (treeBack t i a) ∧ resSum (treeBack t i a) = (resSum t).add a := by
  have hT := h.1
  have hi := backTo_lt t i
  have hl := backTo_live hT i
  have hi' : backTo t i < t.length := by rw [hT.1]; exact hi
  have e : resSum (treeBack t i a) = (resSum t).add a := by
    unfold treeBack
    rw [if_pos h, resSum_setBal hi' hl]
    simp only [Amt.sub, Amt.add, Amt.mk.injEq]
    omega
  refine ⟨?_, e⟩
  have hs' : AmtOk (resSum (treeBack t i a)) := by rw [e]; exact h.2.2
  unfold treeBack at hs' ⊢
  rw [if_pos h] at hs' ⊢
  exact hT.setBal hi hl (h.fits i) hs'

theorem tat_set {l : List (List Res)} {i : Nat} (hi : i < l.length) (t : List Res) (j : Nat) : tat (l.set i t) j = if j = i then t else tat l j := by
  unfold tat
  rw [List.getD_eq_getElem?_getD, List.getElem?_set]
  by_cases h : j = i
  · subst h; simp [hi]
  · rw [if_neg (fun e => h e.symm), if_neg h, List.getD_eq_getElem?_getD]
theorem set_tat {l : List (List Res)} {i : Nat} (hi : i < l.length) : l.set i (tat l i) = l := by
  have : tat l i = l[i] := by unfold tat; rw [List.getD_eq_getElem?_getD, List.getElem?_eq_getElem hi]; rfl
  rw [this]
  simp
theorem treesN_set {l : List (List Res)} {i : Nat} (hi : i < l.length) (t : List Res) : ∀ n,
    (treesN (l.set i t) n).pages = (treesN l n).pages + (if i < n then (treeSum t).pages - (treeSum (tat l i)).pages else 0) ∧
    (treesN (l.set i t) n).rent = (treesN l n).rent + (if i < n then (treeSum t).rent - (treeSum (tat l i)).rent else 0) ∧
    (treesN (l.set i t) n).cpu = (treesN l n).cpu + (if i < n then (treeSum t).cpu - (treeSum (tat l i)).cpu else 0)
  | 0 => by simp [treesN]
  | n + 1 => by
    obtain ⟨h1, h2, h3⟩ := treesN_set hi t n
    unfold treesN Amt.add
    rw [tat_set hi]
    by_cases h : n = i
    · subst h
      simp only [if_pos, Nat.lt_irrefl, Nat.lt_succ_self, if_false] at h1 h2 h3 ⊢
      omega
    · simp only [h, if_false]
      by_cases h' : i < n
      · have h'' : i < n + 1 := by omega
        simp only [h', h'', if_true] at h1 h2 h3 ⊢
        omega
      · have h'' : ¬ i < n + 1 := by omega
        simp only [h', h'', if_false] at h1 h2 h3 ⊢
        omega
theorem treesSum_set {l : List (List Res)} {i : Nat} (hi : i < l.length) (h3 : l.length ≤ 3) (t : List Res) : treesSum (l.set i t) = ((treesSum l).add (treeSum t)).sub (treeSum (tat l i)) := by
  obtain ⟨h1, h2, h4⟩ := treesN_set hi t l.length
  simp only [hi, if_true] at h1 h2 h4
  have e1 : treesSum (l.set i t) = treesN (l.set i t) l.length := by unfold treesSum; rw [List.length_set, Nat.min_eq_left h3]
  have e2 : treesSum l = treesN l l.length := by unfold treesSum; rw [Nat.min_eq_left h3]
  rw [e1, e2]
  generalize treesN (l.set i t) l.length = x at *
  cases x
  simp only [Amt.sub, Amt.add, Amt.mk.injEq] at *
  omega
theorem movePaid_len (l : List (List Res)) (p : Int) (t : Tap) : (movePaid l p t).length = l.length := by unfold movePaid; simp
theorem moved_len (l : List (List Res)) (p : Int) (t : Tap) : (moved l p t).length = l.length := by unfold moved; simp [movePaid_len]
theorem tapMove_len (l : List (List Res)) (p : Int) (t : Tap) : (tapMove l p t).length = l.length := by
  unfold tapMove; split
  · exact moved_len l p t
  · rfl
/-- The trees of a move that is made. -/
theorem Moves.trees {l : List (List Res)} {p : Int} {t : Tap} (h : Moves l p t) : (∀ x ∈ tapMove l p t, TreeOk x) ∧ treesSum (tapMove l p t) = treesSum l ∧
    (∀ i : Nat, (i : Int) ≠ p → (i : Int) ≠ t.toPart → tat (tapMove l p t) i = tat l i) := by
  have h0 := h
  obtain ⟨hc, hb⟩ := h
  have hpay := hc.pays
  obtain ⟨c1, c2, c3, c4, c5, c6⟩ := hc
  obtain ⟨k1, k2⟩ := hpay.ok
  obtain ⟨k3, k4⟩ := hb.ok t.toRes
  have hto := c3.2.2.1
  have hp' : p.toNat < l.length := by omega
  have hq' : t.toPart.toNat < (movePaid l p t).length := by rw [movePaid_len]; omega
  have hT : TreeOk (tat l p.toNat) := c1 _ (tat_mem hp')
  have s1 : treesSum (movePaid l p t) = (treesSum l).sub (moveA l p t) := by
    unfold movePaid
    rw [treesSum_set hp' c2]
    unfold treeSum
    rw [if_pos k1, if_pos hT, k2]
    simp only [Amt.sub, Amt.add, Amt.mk.injEq]
    omega
  unfold tapMove
  rw [if_pos h0]
  refine ⟨fun x hx => ?_, ?_, fun i hi1 hi2 => ?_⟩
  · unfold moved at hx
    rcases List.mem_or_eq_of_mem_set hx with hx | rfl
    · unfold movePaid at hx
      rcases List.mem_or_eq_of_mem_set hx with hx | rfl
      · exact c1 x hx
      · exact k1
    · exact k3
  · unfold moved
    rw [treesSum_set hq' (by rw [movePaid_len]; exact c2), s1]
    unfold treeSum
    rw [if_pos k3, if_pos hb.1, k4]
    generalize treesSum l = y
    cases y
    simp only [Amt.sub, Amt.add, Amt.mk.injEq]
    omega
  · unfold moved
    rw [tat_set hq', if_neg (by omega)]
    unfold movePaid
    rw [tat_set hp', if_neg (by omega)]
theorem amtOne_zero (k : Int) : amtOne k 0 = amt0 := by
  unfold amtOne amt0
  repeat' split
  all_goals rfl
theorem treePay_zero (t : List Res) (i : Int) : treePay t i amt0 = t := by
  unfold treePay
  split
  · rename_i h
    have hi : i.toNat < t.length := by rw [h.1.1]; have := h.2.1.1; omega
    have e : (rat t i.toNat).bal.sub amt0 = (rat t i.toNat).bal := by simp [Amt.sub, amt0]
    rw [e]; exact setBal_self hi
  · rfl
theorem treeBack_zero (t : List Res) (i : Int) : treeBack t i amt0 = t := by
  unfold treeBack
  split
  · rename_i h
    have hi : backTo t i < t.length := by rw [h.1.1]; exact backTo_lt t i
    rw [amt_add0]; exact setBal_self hi
  · rfl
/-- Nothing moved: nothing changed. -/
theorem tapMove_zero {l : List (List Res)} {p : Int} {t : Tap} (h : tapTold l p t = 0) : tapMove l p t = l := by
  unfold tapTold at h
  unfold tapMove
  split
  · rename_i hm
    rw [if_pos hm] at h
    have hq := hm.1.2.2.1.2.2.1
    obtain ⟨⟨_, _, _, c4, c5, _⟩, _⟩ := hm
    have hA : moveA l p t = amt0 := by unfold moveA; rw [h, amtOne_zero]
    have e : movePaid l p t = l := by unfold movePaid; rw [hA, treePay_zero, set_tat (by omega)]
    unfold moved
    rw [hA, treeBack_zero, e, set_tat (by omega)]
  · rfl
theorem tapTold_ge (l : List (List Res)) (p : Int) (t : Tap) : 0 ≤ tapTold l p t := by
  unfold tapTold
  split
  · rename_i hm
    have hp := hm.1.pays
    exact (tapFlow_le t (hp.1.bal t.res.toNat (by have := hp.2.1.1; omega))).1
  · exact Int.le_refl _
end Go.Proofs.Ytldgapfdjpefkaa.E
