/- Nothing is laid in this seat. -/
import Derived.Test.YthjgakoofmmloaaRows
import Derived.WalkKit
import Derived.ProofKit
import Derived.LaidMore
import Derived.OpenShut
import Derived.Stop.Joined
import Derived.Lib.LaidTab
import Derived.WalkSmall
import Derived.RowKit3
import Derived.Below
namespace Go.Proofs.Ythjgakoofmmloaa
end Go.Proofs.Ythjgakoofmmloaa
