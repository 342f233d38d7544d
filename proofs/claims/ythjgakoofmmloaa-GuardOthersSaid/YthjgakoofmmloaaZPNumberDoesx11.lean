/- Proved: contracts of single functions, and words for them, as the kit's print has printed them; names shortened. Conditions: those that each theorem names. -/
import Derived.Test.YthjgakoofmmloaaZPNumberDoesx0
import Derived.Test.YthjgakoofmmloaaZPNumberDoesx4
import Derived.Test.YthjgakoofmmloaaZPNumberDoesx10
namespace Go.Proofs.Ythjgakoofmmloaa.PNumberDoes
open Go.RowKit Go.Proofs.YthjgakoofmmloaaW.PrintWords Go.Proofs.YthjgakoofmmloaaW.PrintLast Go.Proofs.YthjgakoofmmloaaW.PrintMore
attribute [local go_sem] max2_int min2_int max_two min_two qQ qR max_four min_four
set_option linter.unusedVariables false
set_option linter.unusedSimpArgs false

-- NOT PRINTED: function 103 (number_sharer_find)

-- NOT PRINTED: function 72 (number_sharer_op)

-- NOT PRINTED: function 32 (number_Do)

-- NOT PRINTED: function 31 (mimesislaw29_awake)

end Go.Proofs.Ythjgakoofmmloaa.PNumberDoes
