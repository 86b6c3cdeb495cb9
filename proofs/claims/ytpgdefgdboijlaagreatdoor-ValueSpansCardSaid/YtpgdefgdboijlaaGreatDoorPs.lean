/- Plain laws of the reference's powers of ten, of its Read and Show. -/
import Derived.Test.YtpgdefgdboijlaaGreatDoorRu
import Derived.Test.YtpgdefgdboijlaaGreatDoorUa
set_option linter.unusedVariables false
set_option maxRecDepth 100000
set_option maxHeartbeats 16000000
namespace Go.Proofs.YtpgdefgdboijlaaGreatDoor
open Go Go.Lib
end Go.Proofs.YtpgdefgdboijlaaGreatDoor
