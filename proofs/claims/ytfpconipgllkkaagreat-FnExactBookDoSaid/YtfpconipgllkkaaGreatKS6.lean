/- The two sides find the same books valid. -/
import Derived.Test.YtfpconipgllkkaaGreatV3k
namespace Go.Proofs.YtfpconipgllkkaaGreat
open Go.Sx
set_option maxRecDepth 100000
set_option maxHeartbeats 4000000
set_option linter.unusedVariables false
set_option linter.unusedSimpArgs false
theorem kS (b : VBook) (hw : b.w ≤ 4194304) : EV Tryz.prog E 27 [.val 0 true (b.c .shr)] = some ⟨[(false,[.p (.bool (implB b))])],[]⟩ :=by
  rw [k27 b hw,valid_eq]
end Go.Proofs.YtfpconipgllkkaaGreat

