import Derived.Test.YtfeoanopdlpabaaGreatDoorX15
import Derived.Test.YtfeoanopdlpabaaGreatDoorCards
import Derived.JoinedOf
import Derived.JoinedCond
import Derived.SevenTiedAt
import Derived.KernelRfl
open Go
namespace Go.Proofs.YtfeoanopdlpabaaGreatDoor.fnExactServerTick
theorem cw:c.wfByText (Rows.OpenSpec.upto Rows.fnExactServerTickSpec)=true:=by kernel_rfl
theorem cm:P.mainIs=some (true, "96fecfa442cb48a6cf30c51d2a1391d3730e43f9b4082fe8c3461e42f3f87ef9".toList):=by kernel_rfl
theorem cl:true=P.looks []:=by kernel_rfl
theorem cs:Tryz.f13.params.toList.all (fun t=> !P.wantsStandIn t)=true:=by kernel_rfl
end Go.Proofs.YtfeoanopdlpabaaGreatDoor.fnExactServerTick
