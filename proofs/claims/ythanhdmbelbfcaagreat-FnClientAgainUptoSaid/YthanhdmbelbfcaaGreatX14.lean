import Derived.Test.YthanhdmbelbfcaaGreatX13
import Derived.Test.YthanhdmbelbfcaaGreatRows
import Derived.JoinedOf
import Derived.JoinedCond
import Derived.KernelRfl
open Go
namespace Go.Proofs.YthanhdmbelbfcaaGreat.fnClientAgain
theorem d1:(c.maps==(Tryz.f5.params.toList++s.plain.varTypes P).any (P.mapsRec ·))=true:=by kernel_rfl
theorem d2:(c.ifaces==(Tryz.f5.params.toList++s.plain.varTypes P).any (P.ifacesRec ·))=true:=by kernel_rfl
theorem d3:(c.mapsOut==P.mapsAmong Tryz.f5.resultTypes.toList)=true:=by kernel_rfl
theorem d4:(c.loops==(Tryz.f5.params.toList++s.plain.varTypes P).any (P.loopsFrom ·))=true:=by kernel_rfl
theorem d5:(c.wideKeys==(Tryz.f5.params.toList++s.plain.varTypes P++Tryz.f5.resultTypes.toList).any (P.wideKeysFrom ·))=true:=by kernel_rfl
theorem d6:s.vars.all (P.varReadable ·)=true:=by kernel_rfl
theorem d7:Tryz.f5.resultTypes.all (fun t=>P.readableRec t&&decide (t<P.types.size))=true:=by kernel_rfl
theorem d8:(c.ifacesOut==Tryz.f5.resultTypes.toList.any (P.ifacesRec ·))=true:=by kernel_rfl
theorem d9:(c.loopsOut==Tryz.f5.resultTypes.toList.any (P.loopsFrom ·))=true:=by kernel_rfl
end Go.Proofs.YthanhdmbelbfcaaGreat.fnClientAgain
