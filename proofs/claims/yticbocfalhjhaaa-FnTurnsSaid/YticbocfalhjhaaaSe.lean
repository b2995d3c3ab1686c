/-
  Structs compared with '=='.
-/
import Derived.Test.YticbocfalhjhaaaNum
namespace Go.Proofs.Yticbocfalhjhaaa.E
open Go Go.RowKit
set_option maxRecDepth 100000

end Go.Proofs.Yticbocfalhjhaaa.E
