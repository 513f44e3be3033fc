import Derived.Test.YthanhdmbelbfcaaGreatRows
import Derived.JoinedOf
import Derived.JoinedCond
import Derived.KernelRfl
open Go
namespace Go.Proofs.YthanhdmbelbfcaaGreat.fnClientAgain
noncomputable abbrev P:=Tryz.pinned.checked.prog
abbrev c:=Rows.fnClientAgainUptoRow
abbrev s:=(Rows.OpenSpec.upto Rows.fnClientAgainSpec).bare
theorem a1:c.wf (OpenSpec.ofChange s)=true:=by kernel_rfl
theorem a2:laidOutB P=true:=by kernel_rfl
theorem a3:mapsRowed P=true:=by kernel_rfl
theorem a4:Tryz.f5.params.all (P.readableRec ·)=true:=by kernel_rfl
theorem a5:namedTie P c.named s.vars=true:=by kernel_rfl
theorem a6:(c.stops == [])=true:=by kernel_rfl
theorem a7:(P.stops == [])=true:=by kernel_rfl
theorem a8:(c.knobs == [])=true:=by kernel_rfl
theorem a9:(P.stopKnobs == [])=true:=by kernel_rfl
theorem b1:(c.inPlace==P.inPlace 5)=true:=by kernel_rfl
theorem b2:(c.unfollowed==P.unfollowed 5)=true:=by kernel_rfl
theorem b3:(c.recurses==P.recurses 5)=true:=by kernel_rfl
theorem b4:(c.named==P.varsNamed 5)=true:=by kernel_rfl
end Go.Proofs.YthanhdmbelbfcaaGreat.fnClientAgain
