/-
  What comes in reads as plain data: integers, bytes, slices and structs of these.
-/
import Derived.Test.YticbocfalhjhaaaNum
import Derived.WalkKit
import Derived.ProofKit
import Derived.OpenShut
import Derived.Deep.Slices
namespace Go.Proofs.Yticbocfalhjhaaa.E
open Go Go.RowKit
set_option maxRecDepth 100000

/-- What is known of the numbers that came in. -/
class Rg (α : Type) where
  rg : α → Prop
instance : Rg Int := ⟨fun x => -9223372036854775808 ≤ x ∧ x ≤ 9223372036854775807⟩
instance : Rg Bool := ⟨fun _ => True⟩
instance : Rg UInt8 := ⟨fun _ => True⟩
instance : Rg Timer := ⟨fun _ => True⟩
instance : Rg Msg := ⟨fun _ => True⟩
instance : Rg Amt := ⟨fun _ => True⟩
instance : Rg Res := ⟨fun _ => True⟩
instance : Rg Tap := ⟨fun _ => True⟩
instance {α : Type} [Rg α] : Rg (Sl α) := ⟨fun s => ∀ x ∈ s.l, Rg.rg x⟩
instance : Rg SpokeL := ⟨fun _ => True⟩
instance : Rg WheelL := ⟨fun _ => True⟩
instance : Rg GcL := ⟨fun _ => True⟩
instance : Rg TreeL := ⟨fun _ => True⟩
instance : Rg LabelL := ⟨fun _ => True⟩
instance : Rg ObjL := ⟨fun x => Rg.rg x.wait⟩
instance : Rg HeapL := ⟨fun x => Rg.rg x.arena⟩
instance : Rg PartL := ⟨fun x => Rg.rg x.heap⟩

class RdC (P : Program) (T : TypeId) (α : Type) [Lod α] [Rg α] : Prop where
  rd : ∀ {H : Type} {enc : TypeId × Value → H} {w : World} {sp : Nat → Bool} {fuel : Nat} {cs : List Value} {x : DataW H × List MemPlace}, DataW.trod enc P w 0 sp true fuel T cs = some x → ∃ y : α, cs = Lod.cells y ∧ Lod.rd maxLen w y ∧ Rg.rg y

theorem cellsOf_of {P : Program} {T : TypeId} {k : Nat} (h : (P.info? T).map (·.size) = some k) : P.cellsOf T = k := by unfold Program.cellsOf; rw [h]; rfl

theorem Addr.add_spot {a : Addr} {k : Nat} (h : a.spot = none) : a.add k = ⟨a.block, a.off + k, none⟩ := by
  obtain ⟨b, o, s⟩ := a
  simp only at h
  subst h
  exact Addr.add_eq b o k

theorem spot_of_cell {w : World} {a : Addr} {v : Value} (h : w.cell? a = some v) : a.spot = none := by
  unfold World.cell? at h
  split at h
  · cases hs : a.spot with
    | none => rfl
    | some s => simp [hs] at h
  · cases h

theorem list_of {α : Type} {Q : Nat → α → Prop} : ∀ n, (∀ i, i < n → ∃ y, Q i y) → ∃ (l : List α) (h : l.length = n), ∀ i (hi : i < n), Q i (l[i]'(by omega))
  | 0, _ => ⟨[], rfl, fun i hi => absurd hi (Nat.not_lt_zero i)⟩
  | n + 1, h => by
    obtain ⟨l, hl, hq⟩ := list_of n (fun i hi => h i (by omega))
    obtain ⟨y, hy⟩ := h n (by omega)
    refine ⟨l ++ [y], by simp [hl], fun i hi => ?_⟩
    by_cases hin : i < n
    · rw [List.getElem_append_left (by omega)]; exact hq i hin
    · have : i = n := by omega
      subst this
      rw [List.getElem_append_right (by omega)]
      simpa [hl] using hy

theorem rd_slice {P : Program} {T e : TypeId} {sz by_ : Nat} {α : Type} [Lod α] [Rg α] [hT : SlT P T e sz by_] [he : RdC P e α] (hsz : Lod.sz α = sz) (hpos : 0 < sz) : RdC P T (Sl α) := ⟨by
  intro H enc w sp fuel cs x h
  obtain ⟨inf, hinf, hisz, _⟩ := hT.info
  have hc : P.cellsOf e = sz := cellsOf_of (by simp [hinf, hisz])
  rcases Deep.open_slice hT.und h with ⟨rfl, _⟩ | ⟨a, len, cap, m, n, D, Pl, rfl, _, hlc, hcm, hm, _, hel⟩
  · refine ⟨⟨none, 0, 0, [], rfl⟩, rfl, ⟨Nat.zero_le _, Nat.le_refl _, Nat.zero_le _, fun _ => rfl, fun h => absurd rfl h, fun i hi => absurd hi (Nat.not_lt_zero i), fun y hy => by cases hy⟩, fun y hy => by cases hy⟩
  · have hlm : len ≤ m := by rw [hm]; split <;> omega
    have key : ∀ i, i < len → ∃ y : α, (Lod.rd maxLen w y ∧ Rg.rg y) ∧ ∀ j, j < sz → w.cell? ((a.add (i * sz)).add j) = (Lod.cells y)[j]? := by
      intro i hi
      obtain ⟨cs', h1, h2⟩ := hel i (by omega)
      rw [hc] at h1
      obtain ⟨y, rfl, hy⟩ := he.rd h2
      exact ⟨y, hy, (World.cells?_some h1).2.2⟩
    have hspot : 0 < len → a.spot = none := by
      intro h0
      obtain ⟨y, _, hy⟩ := key 0 h0
      have h1 := hy 0 hpos
      have : (Lod.cells y)[0]? = some ((Lod.cells y)[0]'(by rw [Lod.len]; omega)) := List.getElem?_eq_getElem _
      rw [this] at h1
      have h2 := spot_of_cell h1
      simpa [Addr.add] using h2
    obtain ⟨l, hl, hq⟩ := list_of (Q := fun i (y : α) => (Lod.rd maxLen w y ∧ Rg.rg y) ∧ ∀ j, j < sz → w.cell? ((a.add (i * sz)).add j) = (Lod.cells y)[j]?) len key
    refine ⟨⟨some a, len, cap, l, hl⟩, rfl, ⟨by show len ≤ maxLen; omega, hlc, hcm, fun h => (by cases h), ?_, ?_, ?_⟩, ?_⟩
    · intro hne
      have h0 := hspot (Nat.pos_of_ne_zero hne)
      show some a = some ⟨a.block, a.off, none⟩
      rw [← h0]
    · intro i hi j hj
      have h1 := (hq i hi).2 j (by rw [← hsz]; exact hj)
      have h0 := hspot (Nat.lt_of_le_of_lt (Nat.zero_le i) hi)
      rw [Addr.add_spot h0, Addr.add_eq, ← hsz] at h1
      exact h1
    · intro y hy
      obtain ⟨i, hi, rfl⟩ := List.getElem_of_mem hy
      have hi' : i < l.length := hi
      exact (hq i (by omega)).1.1
    · intro y hy
      obtain ⟨i, hi, rfl⟩ := List.getElem_of_mem hy
      have hi' : i < l.length := hi
      exact (hq i (by omega)).1.2⟩

theorem trod_fields {H : Type} {enc : TypeId × Value → H} {P : Program} {w : World} {sp : Nat → Bool} {fuel : Nat} {t : TypeId} {fs : Array Field} {cs : List Value} {x : DataW H × List MemPlace} (ht : P.underlying t = some (.struct fs))
    (h : DataW.trod enc P w 0 sp true fuel t cs = some x) : cs.length = P.cellsOf t ∧ ∃ n, ∀ (i : Nat) f, fs.toList[i]? = some f → ∃ x', DataW.trod enc P w 0 sp true n f.type ((cs.drop f.offset).take (P.cellsOf f.type)) = some x' := by
  obtain ⟨xs, n, _, _, h3, h4, h5⟩ := DataW.trod_struct ht h
  refine ⟨h3, n, fun i f hf => ?_⟩
  have hf' : fs[i]? = some f := by rw [← Array.getElem?_toList]; exact hf
  have hi : i < fs.size := (Array.getElem?_eq_some_iff.1 hf').1
  exact ⟨xs[i]'(by rw [h4]; exact hi), by rw [h5 i f hf', List.getElem?_eq_getElem]⟩

instance : RdC Try.prog tyInt Int := ⟨fun h => by
  obtain ⟨z, rfl, _, hw⟩ := DataW.trod_int und_int h
  exact ⟨z, rfl, trivial, bounds_i64 hw⟩⟩
instance : RdC Try.prog tyBool Bool := ⟨fun h => by
  obtain ⟨z, rfl, _⟩ := DataW.trod_bool und_bool h
  exact ⟨z, rfl, trivial, trivial⟩⟩
instance : RdC Try.prog tyByte UInt8 := ⟨fun h => by
  obtain ⟨z, rfl, _, hw⟩ := DataW.trod_int und_byte h
  have hb := bounds_u8 hw
  refine ⟨UInt8.ofNat z.toNat, ?_, trivial, trivial⟩
  show [Value.int .u8 z] = [Value.int .u8 ((UInt8.ofNat z.toNat).toNat : Int)]
  rw [UInt8.toNat_ofNat']
  congr 2
  omega⟩
instance : RdC Try.prog 26 (Sl Int) := rd_slice (e := tyInt) rfl (by decide)
instance : RdC Try.prog 37 (Sl UInt8) := rd_slice (e := tyByte) rfl (by decide)
set_option maxRecDepth 20000 in
instance : RdC Try.prog 69 Timer := ⟨fun {H enc w sp fuel cs x} h => by
  obtain ⟨hl, n, hf⟩ := trod_fields Try.underlying69 h
  rw [cellsOf_of (k := 2) (Ag.size (P := Try.prog) (T := 69))] at hl
  match cs, hl, hf with
  | [c0, c1], _, hf =>
    obtain ⟨x0, h0⟩ := hf 0 _ rfl
    rw [cellsOf_of (k := 1) (Sc.size (P := Try.prog) (T := 3))] at h0
    obtain ⟨y0, e0, r0, g0⟩ := RdC.rd (P := Try.prog) (T := 3) (α := Int) h0
    obtain ⟨x1, h1⟩ := hf 1 _ rfl
    rw [cellsOf_of (k := 1) (Sc.size (P := Try.prog) (T := 3))] at h1
    obtain ⟨y1, e1, r1, g1⟩ := RdC.rd (P := Try.prog) (T := 3) (α := Int) h1
    refine ⟨⟨y0, y1⟩, ?_, trivial, trivial⟩
    show _ = Lod.cells y0 ++ Lod.cells y1
    rw [← e0, ← e1]
    rfl⟩
instance : RdC Try.prog 44 (Sl Timer) := rd_slice (e := 69) rfl (by decide)
end Go.Proofs.Yticbocfalhjhaaa.E
