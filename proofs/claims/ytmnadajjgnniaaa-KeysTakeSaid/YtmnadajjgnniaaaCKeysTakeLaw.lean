/- The statement KeysTakeSaid: for every input that can be read the law returns true, and each argument reads as it did. Conditions: none but the statement's own. -/
import Derived.Test.YtmnadajjgnniaaaCKeysTakeN4
namespace Go.Proofs.Ytmnadajjgnniaaa
open Go AE
theorem keysTake_okMap (l : List TEntry) (h : Gd (.list (.prod .str .str)) l) : okMap l := ⟨by have := h.1; simp only [Sh.bytes] at this; omega, fun x hx => h.2 x hx⟩
theorem keysTake_holds : Rows.KeysTakeSaid := AE.keysTake.proved fun l h => lim0 (KeysTake_pure l (keysTake_okMap l h))
end Go.Proofs.Ytmnadajjgnniaaa
