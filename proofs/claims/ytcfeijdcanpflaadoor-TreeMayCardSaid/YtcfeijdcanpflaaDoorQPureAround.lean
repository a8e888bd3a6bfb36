/- Each node along the path to a place is around it (lists alone). -/
import Derived.Test.YtcfeijdcanpflaaDoorQHPrintPlain
import Derived.Test.YtcfeijdcanpflaaDoorQHTreeGet
set_option linter.unusedVariables false
set_option linter.unusedSimpArgs false
namespace Go.Proofs.YtcfeijdcanpflaaDoor.H
open Go.RowKit Go.Proofs.YtcfeijdcanpflaaDoorW.PrintWords Go.Proofs.YtcfeijdcanpflaaDoorW.PrintLast Go.Proofs.YtcfeijdcanpflaaDoorW.PrintMore
theorem wsum_nonneg : ∀ (l : List S25), goodL l → 0 ≤ wsum l
  | [], _ => by simp [wsum]
  | t :: r, h => by
    simp only [goodL] at h
    have := h.1.w
    have := wsum_nonneg r h.2
    simp only [wsum]
    omega
end Go.Proofs.YtcfeijdcanpflaaDoor.H
