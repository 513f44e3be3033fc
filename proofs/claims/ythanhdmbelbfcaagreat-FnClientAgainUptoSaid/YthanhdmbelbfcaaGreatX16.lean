/- The program's ClientAgain answers as the reference's does, and what it leaves is as the law says, for every code within the bound of the statement. Conditions: none beside the statement's own. -/
import Derived.Test.YthanhdmbelbfcaaGreatX12
import Derived.Test.YthanhdmbelbfcaaGreatX14
import Derived.Test.YthanhdmbelbfcaaGreatX15
open Go
namespace Go.Proofs.YthanhdmbelbfcaaGreat.fnClientAgain
theorem Bd {a b:Bool}(h:a=true)(g:b=true):(a&&b)=true:=by rw[h,g];rfl
set_option maxRecDepth 1000000 in
theorem closed:joinedFacts P 5 Tryz.f5 s c=true:=Bd (Bd (Bd (Bd (Bd (Bd (Bd (Bd (Bd (Bd (Bd (Bd (Bd (Bd (Bd (Bd (Bd (Bd (Bd (Bd (Bd (Bd (Bd (Bd (Bd (Bd (Bd (Bd (Bd (Bd (Bd a1 a2) a3) a4) a5) a6) a7) a8) a9) b1) b2) b3) b4) d1) d2) d3) d4) d5) d6) d7) d8) d9) d10) d11) d12) d13) d14) d15) d16) d17) d18) d19
theorem proved:Rows.FnClientAgainUptoSaid:=
 OpenClaim.holds_of_cond 5 Tryz.f5 rfl rfl rfl rfl rfl rfl rfl ⟨rfl,rfl,rfl,rfl,rfl⟩ rfl rfl rfl rfl rfl nm Tryz.func5 closed
  inst wrap
  (fun os started H enc _ F=>lifted os started H enc F)
end Go.Proofs.YthanhdmbelbfcaaGreat.fnClientAgain
