/- The statement ValueParsesCardSaid: for every text that can be read the law returns true, and it reads as it did; the listed variables are tied to the program's text. Conditions: none but the statement's own. -/
import Derived.Test.YthnhkaaodghpgaaDoorCValueParsesN3
namespace Go.Proofs.YthnhkaaodghpgaaDoor
open Go AE
theorem valueParses_holds : Rows.ValueParsesCardSaid := AE.valueParses.card fun s _ => lim0 (ValueParses_pure s)
end Go.Proofs.YthnhkaaodghpgaaDoor
