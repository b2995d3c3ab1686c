/-
  More of the walk: cuts at a region or a block, so that ways which meet are walked on once.
-/
import Derived.Test.YtandadfmmohhhaaNum
namespace Go.Proofs.Ytandadfmmohhhaa.E
open Go Go.RowKit
/-- What is left for later. -/
def Later (p : Prop) : Prop := p
theorem Later.go {p : Prop} (h : p) : Later p := h
theorem Later.out {p : Prop} (h : Later p) : p := h
attribute [irreducible] Later
section
variable {P : Program} {n : Nat} {N : Cont} {B : List (Nat × Cont)} {R : Cont} {w0 : World} {σ : Fr} {L : List Atom}
/-- A cut behind 'region id; test'. -/
theorem SW_cutR (id : Nat) {ops : Array Oper} {q : Bool} {c y : Code} (I : Fr → List Atom → Prop) (h1 : SW P n (.seq (.region id ops q) c) (Mid w0 I) B R w0 σ L) (h2 : Later (∀ σ L, I σ L → SW P n y N B R w0 σ L)) : SW P n (.seq (.seq (.region id ops q) c) y) N B R w0 σ L := SW_cut I h1 h2.out
/-- A cut behind a block. -/
theorem SW_cutB (id : Nat) {c y : Code} (I : Fr → List Atom → Prop) (h1 : SW P n (.block id c) (Mid w0 I) B R w0 σ L) (h2 : Later (∀ σ L, I σ L → SW P n y N B R w0 σ L)) : SW P n (.seq (.block id c) y) N B R w0 σ L := SW_cut I h1 h2.out
end
end Go.Proofs.Ytandadfmmohhhaa.E
