/- The machine runs function 16. -/
import Derived.Test.YthjlllhfpiejfaaInfluenceKnownD1
import Derived.KernelRfl
namespace Go.Proofs.Ythjlllhfpiejfaa.influenceKnown
open Hx Go
set_option maxRecDepth 100000
theorem Kev16 : endsTrue (evT (ctxOf Kit Kbt) 100000 [] 200 (.fn (.func 16) [] []) [] emptyH) = true := by kernel_rfl
end Go.Proofs.Ythjlllhfpiejfaa.influenceKnown
