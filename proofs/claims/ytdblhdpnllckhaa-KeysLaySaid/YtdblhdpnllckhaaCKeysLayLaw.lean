/- The statement KeysLaySaid: for every input that can be read the law returns true, and each argument reads as it did. Conditions: none but the statement's own. -/
import Derived.Test.YtdblhdpnllckhaaCKeysLayN5
import Derived.Test.YtdblhdpnllckhaaCKeysLayN4
namespace Go.Proofs.Ytdblhdpnllckhaa
open Go AE
theorem keysLay_holds : Rows.KeysLaySaid := AE.keysLay.proved fun g hg => lim0 (KeysLay_pure g (gd_graph hg))
end Go.Proofs.Ytdblhdpnllckhaa
