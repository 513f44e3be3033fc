import Derived.Test.YthgepblcaaiieaaGreatDoorX14
import Derived.Test.YthgepblcaaiieaaGreatDoorCards
import Derived.JoinedOf
import Derived.JoinedCond
import Derived.SevenTiedAt
import Derived.KernelRfl
open Go
namespace Go.Proofs.YthgepblcaaiieaaGreatDoor.fnExactWorldBoard
theorem cw:c.wfByText (Rows.OpenSpec.upto Rows.fnExactWorldBoardSpec)=true:=by kernel_rfl
theorem cm:P.mainIs=some (true, "6aef3ddd2096264d9b6cfe8162685fa6e9f289e38c03af38664f9aaa9f9e128a".toList):=by kernel_rfl
theorem cl:true=P.looks []:=by kernel_rfl
theorem cs:Tryz.f3.params.toList.all (fun t=> !P.wantsStandIn t)=true:=by kernel_rfl
end Go.Proofs.YthgepblcaaiieaaGreatDoor.fnExactWorldBoard
