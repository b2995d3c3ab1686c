import Derived.Test.YtjjmjfoejpjopaaHxT
namespace Go.Proofs.Ytjjmjfoejpjopaa.E
open Go Go.RowKit
set_option maxRecDepth 100000
set_option maxHeartbeats 4000000

def dueBy (now : Int) (l : List Timer) : List Int := (l.filter fun t => decide (t.due ≤ now)).map Timer.id
def Sl.emp (b : Nat) : Sl Int := ⟨some ⟨b, 0, none⟩, 0, 0, [], rfl⟩

theorem nums_len (k n : Nat) : (nums k n).length = n := by simp [nums]
end Go.Proofs.Ytjjmjfoejpjopaa.E
