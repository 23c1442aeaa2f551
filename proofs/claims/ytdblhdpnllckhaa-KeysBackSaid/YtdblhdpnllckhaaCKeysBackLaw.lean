/- The statement KeysBackSaid: for every input that can be read the law returns true, and each argument reads as it did. Conditions: none but the statement's own. -/
import Derived.Test.YtdblhdpnllckhaaCKeysBackN5
namespace Go.Proofs.Ytdblhdpnllckhaa
open Go AE
theorem keysBack_holds : Rows.KeysBackSaid := AE.keysBack.proved fun g hg => lim0 (KeysBack_pure g (gd_graph hg))
end Go.Proofs.Ytdblhdpnllckhaa
