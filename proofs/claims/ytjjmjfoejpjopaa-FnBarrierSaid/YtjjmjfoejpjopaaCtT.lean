import Derived.Test.YtjjmjfoejpjopaaMaT
import Derived.Test.YtjjmjfoejpjopaaHxT
namespace Go.Proofs.Ytjjmjfoejpjopaa.E
open Go Go.RowKit

def cO (o : Obj) : Nat := 10 + (o.links.length + o.data.length + 2 * o.queue.length)
def cA (l : List Obj) : Nat := (l.map cO).sum
def tO (o : Obj) : Nat := o.links.length + o.data.length + o.queue.length
def tA (l : List Obj) : Nat := l.length + (l.map tO).sum
end Go.Proofs.Ytjjmjfoejpjopaa.E
