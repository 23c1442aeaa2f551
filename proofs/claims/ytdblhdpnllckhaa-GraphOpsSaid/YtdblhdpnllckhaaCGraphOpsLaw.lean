/- The statement GraphOpsSaid: for every input that can be read the law returns true, and each argument reads as it did. Conditions: none but the statement's own. -/
import Derived.Test.YtdblhdpnllckhaaCGraphOpsN4
namespace Go.Proofs.Ytdblhdpnllckhaa
open Go AE
theorem graphOps_holds : Rows.GraphOpsSaid := AE.graphOps.proved fun g o hg ho => lim0 (GraphOps_pure g o (gd_graph hg) (gd_op ho))
end Go.Proofs.Ytdblhdpnllckhaa
