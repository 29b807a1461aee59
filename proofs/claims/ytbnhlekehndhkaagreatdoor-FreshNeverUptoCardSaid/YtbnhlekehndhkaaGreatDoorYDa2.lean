import Derived.Test.YtbnhlekehndhkaaGreatDoorYGx0
import Derived.Lib.Hide


/- The document's Right: which dates may be. -/
namespace Go.Proofs.YtbnhlekehndhkaaGreatDoor.Da
open Go.RowKit Go.Proofs.YtbnhlekehndhkaaGreatDoorW.PrintWords Go.Proofs.YtbnhlekehndhkaaGreatDoorW.PrintLast Go.Proofs.YtbnhlekehndhkaaGreatDoorW.PrintMore Go.Proofs.YtbnhlekehndhkaaGreatDoor.G
set_option linter.unusedVariables false
set_option linter.unusedSimpArgs false

abbrev date6 (y m d h mi s : Int) : Value := .agg #[.int .i64 y, .int .i64 m, .int .i64 d, .int .i64 h, .int .i64 mi, .int .i64 s]
end Go.Proofs.YtbnhlekehndhkaaGreatDoor.Da

