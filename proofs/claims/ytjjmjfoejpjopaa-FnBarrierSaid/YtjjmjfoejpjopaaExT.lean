import Derived.Test.YtjjmjfoejpjopaaNumT
namespace Go.Proofs.Ytjjmjfoejpjopaa.E
open Go Go.RowKit

def Later (p : Prop) : Prop := p
theorem Later.go {p : Prop} (h : p) : Later p := h
theorem Later.out {p : Prop} (h : Later p) : p := h
attribute [irreducible] Later
section
variable {P : Program} {n : Nat} {N : Cont} {B : List (Nat × Cont)} {R : Cont} {w0 : World} {σ : Fr} {L : List Atom}

theorem SW_cutR (id : Nat) {ops : Array Oper} {q : Bool} {c y : Code} (I : Fr → List Atom → Prop) (h1 : SW P n (.seq (.region id ops q) c) (Mid w0 I) B R w0 σ L) (h2 : Later (∀ σ L, I σ L → SW P n y N B R w0 σ L)) : SW P n (.seq (.seq (.region id ops q) c) y) N B R w0 σ L := SW_cut I h1 h2.out

end
end Go.Proofs.Ytjjmjfoejpjopaa.E
