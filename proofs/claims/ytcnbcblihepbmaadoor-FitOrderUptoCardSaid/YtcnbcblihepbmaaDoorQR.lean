/- Package stevedoreref01: amounts, for seats that reach no more of it (the texts stand in QA too). -/
import Derived.Test.YtcnbcblihepbmaaDoorQ2
set_option autoImplicit false
set_option linter.unusedVariables false
set_option linter.unusedSimpArgs false
namespace Go.Proofs.YtcnbcblihepbmaaDoor
open Go Go.RowKit
attribute [local irreducible] Quiet OpsR Run CallS opS Gh endQ oblE RunN swp Go.Op.equalIn
end Go.Proofs.YtcnbcblihepbmaaDoor
