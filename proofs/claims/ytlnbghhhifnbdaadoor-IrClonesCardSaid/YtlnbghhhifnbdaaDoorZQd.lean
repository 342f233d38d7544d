/- Functions of the program as plain functions, and contracts of them: printed by the kit's print for this seat, cut into a text of our own. Conditions: the plain function answers. -/
import Derived.Test.YtlnbghhhifnbdaaDoorZPIrTextsx4
namespace Go.Proofs.YtlnbghhhifnbdaaDoor.PIrTexts
open Go.RowKit Go.Proofs.YtlnbghhhifnbdaaDoorW.PrintWords Go.Proofs.YtlnbghhhifnbdaaDoorW.PrintLast Go.Proofs.YtlnbghhhifnbdaaDoorW.PrintMore
attribute [local go_sem] max2_int min2_int max_two min_two max_three min_three max_four min_four
set_option linter.unusedVariables false
set_option linter.unusedSimpArgs false

end Go.Proofs.YtlnbghhhifnbdaaDoor.PIrTexts
