/- The statement GraphStaysSaid: for every input that can be read the law returns true, and each argument reads as it did. Conditions: none but the statement's own. -/
import Derived.Test.YtdblhdpnllckhaaCGraphStaysN4
namespace Go.Proofs.Ytdblhdpnllckhaa
open Go AE
theorem graphStays_holds : Rows.GraphStaysSaid := AE.graphStays.proved fun g l o hg hl ho => lim0 (GraphStays_pure g l o (gd_graph hg) (gd_ops hl).1 (gd_ops hl).2 (gd_op ho))
end Go.Proofs.Ytdblhdpnllckhaa
