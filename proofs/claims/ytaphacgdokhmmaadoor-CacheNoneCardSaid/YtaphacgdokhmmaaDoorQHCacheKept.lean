/- cache.Cache's Kept. -/
import Derived.Test.YtaphacgdokhmmaaDoorQHCacheGet
set_option linter.unusedVariables false
set_option linter.unusedSimpArgs false
namespace Go.Proofs.YtaphacgdokhmmaaDoor.H
open Go.RowKit Go.Proofs.YtaphacgdokhmmaaDoorW.PrintWords Go.Proofs.YtaphacgdokhmmaaDoorW.PrintLast Go.Proofs.YtaphacgdokhmmaaDoorW.PrintMore
open Go.MuLone
open Go.Maps (Keyed IsMap)
end Go.Proofs.YtaphacgdokhmmaaDoor.H
