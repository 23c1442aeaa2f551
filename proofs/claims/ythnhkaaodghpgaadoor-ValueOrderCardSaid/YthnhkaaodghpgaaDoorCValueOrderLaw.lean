/- The statement ValueOrderCardSaid: for any three values that can be read the law returns true, and they read as they did; the listed variables are tied to the program's text. Conditions: none but the statement's own. -/
import Derived.Test.YthnhkaaodghpgaaDoorCValueOrderN3
namespace Go.Proofs.YthnhkaaodghpgaaDoor
open Go AE
theorem valueOrder_holds : Rows.ValueOrderCardSaid := AE.valueOrder.card fun a b c _ _ _ => lim0 (ValueOrder_pure a b c)
end Go.Proofs.YthnhkaaodghpgaaDoor
