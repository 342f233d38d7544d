/- Proved: contracts of single functions, and words for them, as the kit's print has printed them; names shortened. Conditions: those that each theorem names. -/
import Derived.Test.YthjgakoofmmloaaZPNumberDoesx0
import Derived.Test.YthjgakoofmmloaaZPNumberDoesx12
namespace Go.Proofs.Ythjgakoofmmloaa.PNumberDoes
open Go.RowKit Go.Proofs.YthjgakoofmmloaaW.PrintWords Go.Proofs.YthjgakoofmmloaaW.PrintLast Go.Proofs.YthjgakoofmmloaaW.PrintMore
attribute [local go_sem] max2_int min2_int max_two min_two qQ qR max_four min_four
set_option linter.unusedVariables false
set_option linter.unusedSimpArgs false

end Go.Proofs.Ythjgakoofmmloaa.PNumberDoes
