/- awake tells yes. -/
import Derived.Test.YteoehlcjllbhfaaGreatDoorXTimesx13
namespace Go.Proofs.YteoehlcjllbhfaaGreatDoor.Awake
open Go.RowKit Go.Proofs.YteoehlcjllbhfaaGreatDoor.XTimes Go.Proofs.YteoehlcjllbhfaaGreatDoorW.PrintWords Go.Proofs.YteoehlcjllbhfaaGreatDoorW.PrintLast
theorem awake_200 : relaylaw02_awake.f 200 = some true := by kernel_rfl
theorem awake : Ev (fun k => relaylaw02_awake.f k) true := Ev.of (fun k => relaylaw02_awake.mono k) awake_200
end Go.Proofs.YteoehlcjllbhfaaGreatDoor.Awake
