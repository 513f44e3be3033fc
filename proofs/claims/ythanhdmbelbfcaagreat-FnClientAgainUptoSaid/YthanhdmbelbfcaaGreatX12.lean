import Derived.Test.YthanhdmbelbfcaaGreatX11
import Derived.Test.YthanhdmbelbfcaaGreatRows
open Go Go.Ab
namespace Go.Proofs.YthanhdmbelbfcaaGreat.fnClientAgain
theorem ub (H:Type):UB (H:=H) Rows.uptoBulk Rows.uptoBulkAll:=by
 refine⟨fun d=>?_,fun b=>?_,fun e s=>?_,fun p=>?_,fun d r=>?_⟩
 ·cases d with
  |lit l=>cases l<;>simp[Rows.uptoBulk]
  |_=>simp[Rows.uptoBulk]
 ·simp[Rows.uptoBulk]
 ·simp[Rows.uptoBulk]
 ·simp[Rows.uptoBulk]
 ·simp[Rows.uptoBulkAll]
theorem own:ownKnob Tryz.prog.godebug=none:=by kernel_rfl
theorem laid:laidOutB Tryz.prog=true:=by kernel_rfl
def tys:List Ty:=[.lst (.int .u8)]
theorem afh (iP:List DV)(h1:iP.map (·.t)=tys)(h2:∀d∈iP,lf d.t d.x)(_h3:(iP.map fun d=>ji d.t d.x).sum≤1048576):mq Tryz.prog Walk.Gb 5 (iP.map .v) ⟨[.v ⟨.bool,true⟩],[],[]⟩:=by
 rcases iP with _|⟨⟨t0,x0⟩,_|⟨d,l⟩⟩
 ·simp[tys] at h1
 ·have e:t0 = .lst (.int .u8):=by simpa[tys] using h1
  subst e
  have hb:∀x∈x0,0≤x∧x≤255:=h2 _ (i_.2 rfl)
  exact Walk.ok_q3 x0 (true,()) (Pl.afE hb) []
 ·simp[tys] at h1
theorem par:dI (bh Tryz.prog) tys Tryz.f5.params.toList:=tys_of (by kernel_rfl) (by kernel_rfl)
theorem parB:cH (fun t=>Tryz.prog.readableRec t&&Nat.ble (t+1) Tryz.prog.types.size) Tryz.f5.params.toList=true:=by kernel_rfl
theorem parR (t:TypeId)(h:t∈Tryz.f5.params.toList):Tryz.prog.readableRec t=true∧t<Tryz.prog.types.size:=by
 have:=fR parB t h
 simp only[bB] at this
 exact⟨this.1,fc this.2⟩
theorem res:Tryz.f5.resultTypes = #[4]:=by kernel_rfl
set_option maxRecDepth 100000 in
theorem contract (H:Type)(enc:TypeId×Value→H)(W:World)(base:Nat)(args:Array Value)(ds gs:List (DataW H))(before:List MemPlace)
  (hval:∀(j:Nat) t v,Tryz.f5.params[j]?=some t→args[j]?=some v→Value.okWide Tryz.prog W .any base t v)
  (hW:DataW.Whole enc Tryz.prog Tryz.f5.params.toList Rows.fnClientAgainSpec.vars false W args.toList ds gs before) (hk:Rows.uptoSmall H (ds++gs)=true) :
  Calls Tryz.prog 5 args W fun e W'=>∃v,e = .returned v∧Rows.fnClientAgainSpec.post enc Tryz.prog Tryz.f5 false true false false W args v W':=
 law_ok (ub H) laid par (by intro t ht;simp only[tys,i_] at ht;subst ht;rfl) parR res Tryz.underlying4 rfl
  (by
   intro ds hl
   rcases ds with _|⟨d,_|⟨d',l⟩⟩
   ·simp[tys] at hl
   ·exact⟨rfl,rfl,rfl⟩
   ·simp[tys] at hl)
  afh hval hW (zl79 hk) trivial
set_option maxRecDepth 100000 in
theorem lifted (os:Os)(started:os.Started)(H:Type)(enc:TypeId×Value→H)(F:Stop.Interp) :
  ReturnsInHanded {} Tryz.checked os 5 .any ((Rows.OpenSpec.upto Rows.fnClientAgainSpec).pre6 enc Tryz.prog Tryz.f5 Rows.fnClientAgainUptoRow.domain false) (((Rows.OpenSpec.upto Rows.fnClientAgainSpec).at F).post enc Tryz.prog Tryz.f5 false true false false):=by
 refine returnsInHanded_of_cond (C:=Tryz.checked) (s:=Rows.OpenSpec.upto Rows.fnClientAgainSpec) (k:=Rows.uptoSmall) rfl own started (by kernel_rfl) Tryz.func5
  (OpenSpec.witness (enc:=enc) (C:=Tryz.checked) (s:=Rows.OpenSpec.upto Rows.fnClientAgainSpec) (k:=Rows.uptoSmall) rfl false ⟨#[],#[.slice none 0 0],[]⟩ 8 (by kernel_rfl) (by kernel_rfl) (by kernel_rfl)
   (x:=([.nil],[],[])) (by kernel_rfl) rfl (by kernel_rfl)) ?_
 intro W base args ds gs before hval hW _ hk _
 exact contract H enc W base args ds gs before hval hW hk
end Go.Proofs.YthanhdmbelbfcaaGreat.fnClientAgain
