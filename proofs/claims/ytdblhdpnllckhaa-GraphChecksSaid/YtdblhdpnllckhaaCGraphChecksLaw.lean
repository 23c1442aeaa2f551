/- The statement GraphChecksSaid: for every input that can be read the law returns true, and each argument reads as it did. Conditions: none but the statement's own. -/
import Derived.Test.YtdblhdpnllckhaaCGraphChecksN4
namespace Go.Proofs.Ytdblhdpnllckhaa
open Go AE
theorem graphChecks_holds : Rows.GraphChecksSaid := AE.graphChecks.proved fun a b ha hb => lim0 (GraphChecks_pure a b (gd_graph ha) (gd_graph hb))
end Go.Proofs.Ytdblhdpnllckhaa
