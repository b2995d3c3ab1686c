/-
  What comes in reads as plain data: integers, bytes, slices and structs of these.
-/
import Derived.Test.YtandadfmmohhhaaNum
import Derived.WalkKit
import Derived.ProofKit
import Derived.OpenShut
import Derived.Deep.Slices
namespace Go.Proofs.Ytandadfmmohhhaa.E
open Go Go.RowKit
set_option maxRecDepth 100000

/-- What is known of the numbers that came in. -/
class Rg (α : Type) where
  rg : α → Prop
instance : Rg Int := ⟨fun x => -9223372036854775808 ≤ x ∧ x ≤ 9223372036854775807⟩
instance : Rg Bool := ⟨fun _ => True⟩
instance : Rg UInt8 := ⟨fun _ => True⟩
instance : Rg Timer := ⟨fun _ => True⟩
instance : Rg Msg := ⟨fun _ => True⟩
instance : Rg Amt := ⟨fun _ => True⟩
instance : Rg Res := ⟨fun _ => True⟩
instance : Rg Tap := ⟨fun _ => True⟩
instance {α : Type} [Rg α] : Rg (Sl α) := ⟨fun s => ∀ x ∈ s.l, Rg.rg x⟩
instance : Rg SpokeL := ⟨fun _ => True⟩
instance : Rg WheelL := ⟨fun _ => True⟩
instance : Rg GcL := ⟨fun _ => True⟩
instance : Rg TreeL := ⟨fun _ => True⟩
instance : Rg LabelL := ⟨fun _ => True⟩
instance : Rg ObjL := ⟨fun x => Rg.rg x.wait⟩
instance : Rg HeapL := ⟨fun x => Rg.rg x.arena⟩
instance : Rg PartL := ⟨fun x => Rg.rg x.heap⟩

class RdC (P : Program) (T : TypeId) (α : Type) [Lod α] [Rg α] : Prop where
  rd : ∀ {H : Type} {enc : TypeId × Value → H} {w : World} {sp : Nat → Bool} {fuel : Nat} {cs : List Value} {x : DataW H × List MemPlace}, DataW.trod enc P w 0 sp true fuel T cs = some x → ∃ y : α, cs = Lod.cells y ∧ Lod.rd maxLen w y ∧ Rg.rg y

theorem cellsOf_of {P : Program} {T : TypeId} {k : Nat} (h : (P.info? T).map (·.size) = some k) : P.cellsOf T = k := by unfold Program.cellsOf; rw [h]; rfl

theorem Addr.add_spot {a : Addr} {k : Nat} (h : a.spot = none) : a.add k = ⟨a.block, a.off + k, none⟩ := by
  obtain ⟨b, o, s⟩ := a
  simp only at h
  subst h
  exact Addr.add_eq b o k

theorem spot_of_cell {w : World} {a : Addr} {v : Value} (h : w.cell? a = some v) : a.spot = none := by
  unfold World.cell? at h
  split at h
  · cases hs : a.spot with
    | none => rfl
    | some s => simp [hs] at h
  · cases h

theorem list_of {α : Type} {Q : Nat → α → Prop} : ∀ n, (∀ i, i < n → ∃ y, Q i y) → ∃ (l : List α) (h : l.length = n), ∀ i (hi : i < n), Q i (l[i]'(by omega))
  | 0, _ => ⟨[], rfl, fun i hi => absurd hi (Nat.not_lt_zero i)⟩
  | n + 1, h => by
    obtain ⟨l, hl, hq⟩ := list_of n (fun i hi => h i (by omega))
    obtain ⟨y, hy⟩ := h n (by omega)
    refine ⟨l ++ [y], by simp [hl], fun i hi => ?_⟩
    by_cases hin : i < n
    · rw [List.getElem_append_left (by omega)]; exact hq i hin
    · have : i = n := by omega
      subst this
      rw [List.getElem_append_right (by omega)]
      simpa [hl] using hy

theorem rd_slice {P : Program} {T e : TypeId} {sz by_ : Nat} {α : Type} [Lod α] [Rg α] [hT : SlT P T e sz by_] [he : RdC P e α] (hsz : Lod.sz α = sz) (hpos : 0 < sz) : RdC P T (Sl α) := ⟨by
  intro H enc w sp fuel cs x h
  obtain ⟨inf, hinf, hisz, _⟩ := hT.info
  have hc : P.cellsOf e = sz := cellsOf_of (by simp [hinf, hisz])
  rcases Deep.open_slice hT.und h with ⟨rfl, _⟩ | ⟨a, len, cap, m, n, D, Pl, rfl, _, hlc, hcm, hm, _, hel⟩
  · refine ⟨⟨none, 0, 0, [], rfl⟩, rfl, ⟨Nat.zero_le _, Nat.le_refl _, Nat.zero_le _, fun _ => rfl, fun h => absurd rfl h, fun i hi => absurd hi (Nat.not_lt_zero i), fun y hy => by cases hy⟩, fun y hy => by cases hy⟩
  · have hlm : len ≤ m := by rw [hm]; split <;> omega
    have key : ∀ i, i < len → ∃ y : α, (Lod.rd maxLen w y ∧ Rg.rg y) ∧ ∀ j, j < sz → w.cell? ((a.add (i * sz)).add j) = (Lod.cells y)[j]? := by
      intro i hi
      obtain ⟨cs', h1, h2⟩ := hel i (by omega)
      rw [hc] at h1
      obtain ⟨y, rfl, hy⟩ := he.rd h2
      exact ⟨y, hy, (World.cells?_some h1).2.2⟩
    have hspot : 0 < len → a.spot = none := by
      intro h0
      obtain ⟨y, _, hy⟩ := key 0 h0
      have h1 := hy 0 hpos
      have : (Lod.cells y)[0]? = some ((Lod.cells y)[0]'(by rw [Lod.len]; omega)) := List.getElem?_eq_getElem _
      rw [this] at h1
      have h2 := spot_of_cell h1
      simpa [Addr.add] using h2
    obtain ⟨l, hl, hq⟩ := list_of (Q := fun i (y : α) => (Lod.rd maxLen w y ∧ Rg.rg y) ∧ ∀ j, j < sz → w.cell? ((a.add (i * sz)).add j) = (Lod.cells y)[j]?) len key
    refine ⟨⟨some a, len, cap, l, hl⟩, rfl, ⟨by show len ≤ maxLen; omega, hlc, hcm, fun h => (by cases h), ?_, ?_, ?_⟩, ?_⟩
    · intro hne
      have h0 := hspot (Nat.pos_of_ne_zero hne)
      show some a = some ⟨a.block, a.off, none⟩
      rw [← h0]
    · intro i hi j hj
      have h1 := (hq i hi).2 j (by rw [← hsz]; exact hj)
      have h0 := hspot (Nat.lt_of_le_of_lt (Nat.zero_le i) hi)
      rw [Addr.add_spot h0, Addr.add_eq, ← hsz] at h1
      exact h1
    · intro y hy
      obtain ⟨i, hi, rfl⟩ := List.getElem_of_mem hy
      have hi' : i < l.length := hi
      exact (hq i (by omega)).1.1
    · intro y hy
      obtain ⟨i, hi, rfl⟩ := List.getElem_of_mem hy
      have hi' : i < l.length := hi
      exact (hq i (by omega)).1.2⟩

theorem trod_fields {H : Type} {enc : TypeId × Value → H} {P : Program} {w : World} {sp : Nat → Bool} {fuel : Nat} {t : TypeId} {fs : Array Field} {cs : List Value} {x : DataW H × List MemPlace} (ht : P.underlying t = some (.struct fs))
    (h : DataW.trod enc P w 0 sp true fuel t cs = some x) : cs.length = P.cellsOf t ∧ ∃ n, ∀ (i : Nat) f, fs.toList[i]? = some f → ∃ x', DataW.trod enc P w 0 sp true n f.type ((cs.drop f.offset).take (P.cellsOf f.type)) = some x' := by
  obtain ⟨xs, n, _, _, h3, h4, h5⟩ := DataW.trod_struct ht h
  refine ⟨h3, n, fun i f hf => ?_⟩
  have hf' : fs[i]? = some f := by rw [← Array.getElem?_toList]; exact hf
  have hi : i < fs.size := (Array.getElem?_eq_some_iff.1 hf').1
  exact ⟨xs[i]'(by rw [h4]; exact hi), by rw [h5 i f hf', List.getElem?_eq_getElem]⟩

instance : RdC Try.prog tyInt Int := ⟨fun h => by
  obtain ⟨z, rfl, _, hw⟩ := DataW.trod_int und_int h
  exact ⟨z, rfl, trivial, bounds_i64 hw⟩⟩
instance : RdC Try.prog tyBool Bool := ⟨fun h => by
  obtain ⟨z, rfl, _⟩ := DataW.trod_bool und_bool h
  exact ⟨z, rfl, trivial, trivial⟩⟩
instance : RdC Try.prog tyByte UInt8 := ⟨fun h => by
  obtain ⟨z, rfl, _, hw⟩ := DataW.trod_int und_byte h
  have hb := bounds_u8 hw
  refine ⟨UInt8.ofNat z.toNat, ?_, trivial, trivial⟩
  show [Value.int .u8 z] = [Value.int .u8 ((UInt8.ofNat z.toNat).toNat : Int)]
  rw [UInt8.toNat_ofNat']
  congr 2
  omega⟩
instance : RdC Try.prog 22 (Sl Int) := rd_slice (e := tyInt) rfl (by decide)
instance : RdC Try.prog 41 (Sl UInt8) := rd_slice (e := tyByte) rfl (by decide)
set_option maxRecDepth 20000 in
instance : RdC Try.prog 101 Msg := ⟨fun {H enc w sp fuel cs x} h => by
  obtain ⟨hl, n, hf⟩ := trod_fields Try.underlying101 h
  rw [cellsOf_of (k := 2) (Ag.size (P := Try.prog) (T := 101))] at hl
  match cs, hl, hf with
  | [c0, c1], _, hf =>
    obtain ⟨x0, h0⟩ := hf 0 _ rfl
    rw [cellsOf_of (k := 1) (Sc.size (P := Try.prog) (T := 3))] at h0
    obtain ⟨y0, e0, r0, g0⟩ := RdC.rd (P := Try.prog) (T := 3) (α := Int) h0
    obtain ⟨x1, h1⟩ := hf 1 _ rfl
    rw [cellsOf_of (k := 1) (Sc.size (P := Try.prog) (T := 3))] at h1
    obtain ⟨y1, e1, r1, g1⟩ := RdC.rd (P := Try.prog) (T := 3) (α := Int) h1
    refine ⟨⟨y0, y1⟩, ?_, trivial, trivial⟩
    show _ = Lod.cells y0 ++ Lod.cells y1
    rw [← e0, ← e1]
    rfl⟩
instance : RdC Try.prog 23 (Sl Msg) := rd_slice (e := 101) rfl (by decide)
set_option maxRecDepth 20000 in
instance : RdC Try.prog 25 ObjL := ⟨fun {H enc w sp fuel cs x} h => by
  obtain ⟨hl, n, hf⟩ := trod_fields Try.underlying25 h
  rw [cellsOf_of (k := 13) (Ag.size (P := Try.prog) (T := 25))] at hl
  match cs, hl, hf with
  | [c0, c1, c2, c3, c4, c5, c6, c7, c8, c9, c10, c11, c12], _, hf =>
    obtain ⟨x0, h0⟩ := hf 0 _ rfl
    rw [cellsOf_of (k := 1) (Sc.size (P := Try.prog) (T := 3))] at h0
    obtain ⟨y0, e0, r0, g0⟩ := RdC.rd (P := Try.prog) (T := 3) (α := Int) h0
    obtain ⟨x1, h1⟩ := hf 1 _ rfl
    rw [cellsOf_of (k := 1) (Sc.size (P := Try.prog) (T := 3))] at h1
    obtain ⟨y1, e1, r1, g1⟩ := RdC.rd (P := Try.prog) (T := 3) (α := Int) h1
    obtain ⟨x2, h2⟩ := hf 2 _ rfl
    rw [cellsOf_of (k := 1) (Sc.size (P := Try.prog) (T := 3))] at h2
    obtain ⟨y2, e2, r2, g2⟩ := RdC.rd (P := Try.prog) (T := 3) (α := Int) h2
    obtain ⟨x3, h3⟩ := hf 3 _ rfl
    rw [cellsOf_of (k := 1) (Sc.size (P := Try.prog) (T := 3))] at h3
    obtain ⟨y3, e3, r3, g3⟩ := RdC.rd (P := Try.prog) (T := 3) (α := Int) h3
    obtain ⟨x4, h4⟩ := hf 4 _ rfl
    rw [cellsOf_of (k := 1) (Sc.size (P := Try.prog) (T := 3))] at h4
    obtain ⟨y4, e4, r4, g4⟩ := RdC.rd (P := Try.prog) (T := 3) (α := Int) h4
    obtain ⟨x5, h5⟩ := hf 5 _ rfl
    rw [cellsOf_of (k := 1) (Sc.size (P := Try.prog) (T := 3))] at h5
    obtain ⟨y5, e5, r5, g5⟩ := RdC.rd (P := Try.prog) (T := 3) (α := Int) h5
    obtain ⟨x6, h6⟩ := hf 6 _ rfl
    rw [cellsOf_of (k := 1) (Sc.size (P := Try.prog) (T := 3))] at h6
    obtain ⟨y6, e6, r6, g6⟩ := RdC.rd (P := Try.prog) (T := 3) (α := Int) h6
    obtain ⟨x7, h7⟩ := hf 7 _ rfl
    rw [cellsOf_of (k := 1) (Sc.size (P := Try.prog) (T := 3))] at h7
    obtain ⟨y7, e7, r7, g7⟩ := RdC.rd (P := Try.prog) (T := 3) (α := Int) h7
    obtain ⟨x8, h8⟩ := hf 8 _ rfl
    rw [cellsOf_of (k := 1) (Sc.size (P := Try.prog) (T := 3))] at h8
    obtain ⟨y8, e8, r8, g8⟩ := RdC.rd (P := Try.prog) (T := 3) (α := Int) h8
    obtain ⟨x9, h9⟩ := hf 9 _ rfl
    rw [cellsOf_of (k := 1) (Sc.size (P := Try.prog) (T := 4))] at h9
    obtain ⟨y9, e9, r9, g9⟩ := RdC.rd (P := Try.prog) (T := 4) (α := Bool) h9
    obtain ⟨x10, h10⟩ := hf 10 _ rfl
    rw [cellsOf_of (k := 1) (Sc.size (P := Try.prog) (T := 22))] at h10
    obtain ⟨y10, e10, r10, g10⟩ := RdC.rd (P := Try.prog) (T := 22) (α := Sl Int) h10
    obtain ⟨x11, h11⟩ := hf 11 _ rfl
    rw [cellsOf_of (k := 1) (Sc.size (P := Try.prog) (T := 22))] at h11
    obtain ⟨y11, e11, r11, g11⟩ := RdC.rd (P := Try.prog) (T := 22) (α := Sl Int) h11
    obtain ⟨x12, h12⟩ := hf 12 _ rfl
    rw [cellsOf_of (k := 1) (Sc.size (P := Try.prog) (T := 23))] at h12
    obtain ⟨y12, e12, r12, g12⟩ := RdC.rd (P := Try.prog) (T := 23) (α := Sl Msg) h12
    refine ⟨⟨y0, y1, y2, y3, y4, y5, y6, y7, y8, y9, y10, y11, y12⟩, ?_, (by
      intro p hp; simp only [List.mem_cons, List.not_mem_nil, or_false] at hp; rcases hp with rfl | rfl | rfl
      · exact r10
      · exact r11
      · exact r12), g6⟩
    show _ = Lod.cells y0 ++ Lod.cells y1 ++ Lod.cells y2 ++ Lod.cells y3 ++ Lod.cells y4 ++ Lod.cells y5 ++ Lod.cells y6 ++ Lod.cells y7 ++ Lod.cells y8 ++ Lod.cells y9 ++ Lod.cells y10 ++ Lod.cells y11 ++ Lod.cells y12
    rw [← e0, ← e1, ← e2, ← e3, ← e4, ← e5, ← e6, ← e7, ← e8, ← e9, ← e10, ← e11, ← e12]
    rfl⟩
instance : RdC Try.prog 34 (Sl ObjL) := rd_slice (e := 25) rfl (by decide)
set_option maxRecDepth 20000 in
instance : RdC Try.prog 55 GcL := ⟨fun {H enc w sp fuel cs x} h => by
  obtain ⟨hl, n, hf⟩ := trod_fields Try.underlying55 h
  rw [cellsOf_of (k := 4) (Ag.size (P := Try.prog) (T := 55))] at hl
  match cs, hl, hf with
  | [c0, c1, c2, c3], _, hf =>
    obtain ⟨x0, h0⟩ := hf 0 _ rfl
    rw [cellsOf_of (k := 1) (Sc.size (P := Try.prog) (T := 3))] at h0
    obtain ⟨y0, e0, r0, g0⟩ := RdC.rd (P := Try.prog) (T := 3) (α := Int) h0
    obtain ⟨x1, h1⟩ := hf 1 _ rfl
    rw [cellsOf_of (k := 1) (Sc.size (P := Try.prog) (T := 3))] at h1
    obtain ⟨y1, e1, r1, g1⟩ := RdC.rd (P := Try.prog) (T := 3) (α := Int) h1
    obtain ⟨x2, h2⟩ := hf 2 _ rfl
    rw [cellsOf_of (k := 1) (Sc.size (P := Try.prog) (T := 3))] at h2
    obtain ⟨y2, e2, r2, g2⟩ := RdC.rd (P := Try.prog) (T := 3) (α := Int) h2
    obtain ⟨x3, h3⟩ := hf 3 _ rfl
    rw [cellsOf_of (k := 1) (Sc.size (P := Try.prog) (T := 22))] at h3
    obtain ⟨y3, e3, r3, g3⟩ := RdC.rd (P := Try.prog) (T := 22) (α := Sl Int) h3
    refine ⟨⟨y0, y1, y2, y3⟩, ?_, (by intro p hp; simp only [List.mem_cons, List.not_mem_nil, or_false] at hp; rcases hp with rfl; exact r3), trivial⟩
    show _ = Lod.cells y0 ++ Lod.cells y1 ++ Lod.cells y2 ++ Lod.cells y3
    rw [← e0, ← e1, ← e2, ← e3]
    rfl⟩
set_option maxRecDepth 20000 in
instance : RdC Try.prog 57 HeapL := ⟨fun {H enc w sp fuel cs x} h => by
  obtain ⟨hl, n, hf⟩ := trod_fields Try.underlying57 h
  rw [cellsOf_of (k := 5) (Ag.size (P := Try.prog) (T := 57))] at hl
  match cs, hl, hf with
  | [c0, c1, c2, c3, c4], _, hf =>
    obtain ⟨x0, h0⟩ := hf 0 _ rfl
    rw [cellsOf_of (k := 1) (Sc.size (P := Try.prog) (T := 34))] at h0
    obtain ⟨y0, e0, r0, g0⟩ := RdC.rd (P := Try.prog) (T := 34) (α := Sl ObjL) h0
    obtain ⟨x1, h1⟩ := hf 1 _ rfl
    rw [cellsOf_of (k := 4) (Ag.size (P := Try.prog) (T := 55))] at h1
    obtain ⟨y1, e1, r1, g1⟩ := RdC.rd (P := Try.prog) (T := 55) (α := GcL) h1
    refine ⟨⟨y0, y1⟩, ?_, (by
      intro p hp; simp only [List.mem_cons, List.not_mem_nil, or_false] at hp; rcases hp with rfl | rfl
      · exact r0
      · exact r1), g0⟩
    show _ = Lod.cells y0 ++ Lod.cells y1
    rw [← e0, ← e1]
    rfl⟩
end Go.Proofs.Ytandadfmmohhhaa.E
