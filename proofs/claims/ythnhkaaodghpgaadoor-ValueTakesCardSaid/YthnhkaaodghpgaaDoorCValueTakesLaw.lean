/- The statement ValueTakesCardSaid: for every text that can be read the law returns true, and it reads as it did; the listed variables are tied to the program's text. Conditions: none but the statement's own. -/
import Derived.Test.YthnhkaaodghpgaaDoorCValueTakesN3
namespace Go.Proofs.YthnhkaaodghpgaaDoor
open Go AE
theorem valueTakes_holds : Rows.ValueTakesCardSaid := AE.valueTakes.card fun s h => lim0 (ValueTakes_pure s h)
end Go.Proofs.YthnhkaaodghpgaaDoor
