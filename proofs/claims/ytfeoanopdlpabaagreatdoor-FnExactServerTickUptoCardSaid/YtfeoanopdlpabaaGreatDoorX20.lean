/- The program's ServerTick answers as the reference's does and leaves its arguments as they were, for every server within the bound of the statement; the variables that the row lists tied to the program's text. Conditions: none beside the statement's own. -/
import Derived.Test.YtfeoanopdlpabaaGreatDoorX14
import Derived.Test.YtfeoanopdlpabaaGreatDoorX16
import Derived.Test.YtfeoanopdlpabaaGreatDoorX17
import Derived.Test.YtfeoanopdlpabaaGreatDoorX18
import Derived.Test.YtfeoanopdlpabaaGreatDoorX19
open Go
namespace Go.Proofs.YtfeoanopdlpabaaGreatDoor.fnExactServerTick
theorem Aq {a b:Bool}(h:a=true)(g:b=true):(a&&b)=true:=by rw[h,g];rfl
set_option maxRecDepth 1000000 in
theorem closed:joinedFacts P 13 Tryz.f13 s c=true:=Aq (Aq (Aq (Aq (Aq (Aq (Aq (Aq (Aq (Aq (Aq (Aq (Aq (Aq (Aq (Aq (Aq (Aq (Aq (Aq (Aq (Aq (Aq (Aq (Aq (Aq (Aq (Aq (Aq (Aq (Aq a1 a2) a3) a4) a5) a6) a7) a8) a9) b1) b2) b3) b4) d1) d2) d3) d4) d5) d6) d7) d8) d9) d10) d11) d12) d13) d14) d15) d16) d17) d18) d19
theorem said:Rows.FnExactServerTickUptoSaid:=
 OpenClaim.holds_of_cond 13 Tryz.f13 rfl rfl rfl rfl rfl rfl rfl ⟨rfl,rfl,rfl,rfl,rfl⟩ rfl rfl rfl rfl rfl nm Tryz.func13 closed
  inst wrap
  (fun os started H enc _ F=>by rw[OpenClaim.pre_eq_preRow];exact lifted os started H enc F)
theorem proved:Rows.FnExactServerTickUptoCardSaid:=
 Claim7.holds_tied_plain_at .later [] _ _ _ _
  said (fun _ h=>by cases h) cw (fun _ h=>by cases h) fnExactServerTickUpto_row_tie rfl ⟨rfl,rfl⟩ cm rfl
  (fun f fn hf hfn=>by
   obtain rfl:f=13:=(Option.some.inj (nm.symm.trans hf)).symm
   obtain rfl:fn=Tryz.f13:=(Option.some.inj (Tryz.func13.symm.trans hfn)).symm
   exact⟨cl,fun j t ht=>by
    have hm:t∈Tryz.f13.params.toList:=by
     rw[Array.mem_toList_iff];exact Array.mem_of_getElem? ht
    have:=List.all_eq_true.1 cs t hm
    rw[Bool.not_eq_true'] at this
    exact this⟩)
  cg
end Go.Proofs.YtfeoanopdlpabaaGreatDoor.fnExactServerTick
