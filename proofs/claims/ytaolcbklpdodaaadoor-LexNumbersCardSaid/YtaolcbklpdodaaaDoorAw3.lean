/- The examples of layer 3's laws hold (by the kernel's reckoning of the printed functions). -/
import Derived.Test.YtaolcbklpdodaaaDoorPl
import Derived.Test.YtaolcbklpdodaaaDoorQ9
namespace Go.Proofs.YtaolcbklpdodaaaDoor.M
open Go.RowKit Go.Proofs.YtaolcbklpdodaaaDoorW.PrintWords
theorem awake3_at : hornbooklaw03_awake.f 20 = some true := by decide +kernel
theorem awake3 {k : Nat} (hk : 20 ≤ k) : hornbooklaw03_awake.f k = some true := le_rounds (g := fun k => hornbooklaw03_awake.f k) (fun k => hornbooklaw03_awake.mono k) awake3_at hk
end Go.Proofs.YtaolcbklpdodaaaDoor.M
