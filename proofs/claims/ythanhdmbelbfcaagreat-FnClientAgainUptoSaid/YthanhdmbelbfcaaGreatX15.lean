import Derived.Test.YthanhdmbelbfcaaGreatX13
import Derived.Test.YthanhdmbelbfcaaGreatRows
import Derived.JoinedOf
import Derived.JoinedCond
import Derived.KernelRfl
open Go
namespace Go.Proofs.YthanhdmbelbfcaaGreat.fnClientAgain
theorem d10:(c.plainKeys==P.plainKeys)=true:=by kernel_rfl
theorem d11:c.shortTexts.isNone=true:=by kernel_rfl
theorem d12:P.stopsHeard=true:=by kernel_rfl
theorem d13:P.mayEnter=true:=by kernel_rfl
theorem d14:(c.lifted==P.liftsFinal)=true:=by kernel_rfl
theorem d15:(P.make==some c.make)=true:=by kernel_rfl
theorem d16:(c.kinds==(if c.domain.isEmpty then [] else Tryz.f5.params.toList.map fun t=>match P.underlying t with | some (.int k)=>some k|_=>none))=true:=by kernel_rfl
theorem d17:(c.pinned==c.pinnedBy)=true:=by kernel_rfl
theorem d18:(c.veiled==(Tryz.f5.params.toList++s.plain.varTypes P++Tryz.f5.resultTypes.toList).any (P.veiledRec ·))=true:=by kernel_rfl
theorem d19:c.veiledFits P Tryz.f5.params.toList (Tryz.f5.params.toList++s.plain.varTypes P++Tryz.f5.resultTypes.toList)=true:=by kernel_rfl
theorem nm:P.funcNamed c.func=some 5:=by kernel_rfl
theorem inst:Tryz.f5.isInstance P c.origin c.targs:=of_decide_eq_true (by kernel_rfl)
theorem wrap:Tryz.f5.isWrapper P c.wrapper c.mainSum:=by unfold Func.isWrapper;first|(rw[if_pos (by decide +kernel)];kernel_rfl)|(rw[if_neg (by decide +kernel)];exact⟨rfl,rfl⟩)
end Go.Proofs.YthanhdmbelbfcaaGreat.fnClientAgain
