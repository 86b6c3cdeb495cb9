/- The reference's engineering texts, read. Printed by gen_rw.py. The reference's engineering texts, shown. Printed by gen_rx.py. -/
import Derived.Test.YtpgdefgdboijlaaGreatDoorRv
import Derived.Test.YtpgdefgdboijlaaGreatDoorPs
import Derived.Test.YtpgdefgdboijlaaGreatDoorRo
import Derived.Deep.DeepCutAuto
import Derived.Deep.LoopGhost
import Derived.BigQuiet
import Derived.Test.YtpgdefgdboijlaaGreatDoorR2
set_option linter.unusedVariables false
set_option maxRecDepth 100000
set_option maxHeartbeats 16000000
namespace Go.Proofs.YtpgdefgdboijlaaGreatDoor
open Go.RowKit
end Go.Proofs.YtpgdefgdboijlaaGreatDoor
namespace Go.Proofs.YtpgdefgdboijlaaGreatDoor
open Go.RowKit
end Go.Proofs.YtpgdefgdboijlaaGreatDoor
