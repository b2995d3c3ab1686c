import Derived.Test.YtjjmjfoejpjopaaHgT
namespace Go.Proofs.Ytjjmjfoejpjopaa.E
open Go Go.RowKit
set_option maxRecDepth 100000
set_option maxHeartbeats 4000000

end Go.Proofs.Ytjjmjfoejpjopaa.E
