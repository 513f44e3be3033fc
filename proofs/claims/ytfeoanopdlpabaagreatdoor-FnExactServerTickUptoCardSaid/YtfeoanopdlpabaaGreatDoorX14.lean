import Derived.Test.YtfeoanopdlpabaaGreatDoorX13
import Derived.Test.YtfeoanopdlpabaaGreatDoorCards
import Derived.Test.YtfeoanopdlpabaaGreatDoorTie
import Derived.Deep.DeepWitnessRowRef
import Derived.Stop.LaidErr
import Derived.Lay
import Derived.LaidLaws
open Go Go.Ab
namespace Go.Proofs.YtfeoanopdlpabaaGreatDoor.fnExactServerTick
theorem ub (H:Type):UB (H:=H) Rows.uptoBulk Rows.uptoBulkAll:=by
 refine⟨fun d=>?_,fun b=>?_,fun e s=>?_,fun p=>?_,fun d r=>?_⟩
 ·cases d with
  |lit l=>cases l<;>simp[Rows.uptoBulk]
  |_=>simp[Rows.uptoBulk]
 ·simp[Rows.uptoBulk]
 ·simp[Rows.uptoBulk]
 ·simp[Rows.uptoBulk]
 ·simp[Rows.uptoBulkAll]
theorem own:ownKnob Tryz.prog.godebug=none:=by kernel_rfl
theorem laid:laidOutB Tryz.prog=true:=by kernel_rfl
abbrev Lq:=Rows.fnExactServerTickUptoRow.laid
theorem ty1:(Tryz.prog.globals[1]?).map (·.type)=some 380:=by kernel_rfl
theorem ty4:(Tryz.prog.globals[4]?).map (·.type)=some 416:=by kernel_rfl
theorem ty2:(Tryz.prog.globals[2]?).map (·.type)=some 284:=by kernel_rfl
theorem ty3:(Tryz.prog.globals[3]?).map (·.type)=some 284:=by kernel_rfl
theorem g2:Tryz.prog.globalNamed "strconv.ErrSyntax" = some 2:=by kernel_rfl
theorem g3:Tryz.prog.globalNamed "strconv.ErrRange" = some 3:=by kernel_rfl
theorem star: "*" ++ "errors.errorString" = "*errors.errorString" :=by decide
theorem ac2 (u:TypeId)(h:Tryz.prog.typeName? 3 u=some "*errors.errorString"):u=431:=
 typeName_ptr_named (nm:= "errors.errorString") (by rw[star];kernel_rfl) (by kernel_rfl) (by decide) u (by rw[star];exact h)
set_option maxRecDepth 100000 in
theorem gb_of {W:World}(h:laidMetH Tryz.prog Lq W)(hsh:W.ShapedOpen Tryz.prog):EC.Gb.ok W (· < W.heap.size):=by
 have h0:laidMet Tryz.prog [("math/bits.deBruijn32tab",Rows.laid_math_bits_deBruijn32tab),("math/bits.deBruijn64tab",Rows.laid_math_bits_deBruijn64tab),("internal/strconv.uint64pow10",Rows.laid_internal_strconv_uint64pow10),("strconv.ErrRange",Rows.laid_strconv_ErrRange),("strconv.ErrSyntax",Rows.laid_strconv_ErrSyntax),("loop.example/wellhead/impl.shaStep",Rows.laid_loop_example_wellhead_impl_shaStep)] W:=h
 have hp:Lib.TabIs Tryz.prog W "internal/strconv.uint64pow10" .u64 Lib.pow10Tab:=
  Lib.tabIs_of_head EC.PV ty4 Tryz.underlying416 Tryz.underlying331 (by kernel_rfl) (by kernel_rfl) h0.tail.tail
 have hs:Lib.TabIs Tryz.prog W "loop.example/wellhead/impl.shaStep" .u32 Wh.Fj:=
  Lib.tabIs_of_head EC.PW ty1 Tryz.underlying380 Tryz.underlying345 (by kernel_rfl) (by kernel_rfl) h0.tail.tail.tail.tail.tail
 have e3:EC.LW W 3:=by
  obtain⟨a,s,hv,_⟩:=laid_sentinel h0.tail.tail.tail g3 ty3 Tryz.underlying284 ac2 Tryz.underlying431 Tryz.underlying432 rfl rfl Tryz.underlying9 (by kernel_rfl) (by kernel_rfl)
  exact⟨_,by simpa using World.var?_cell g3 hv 0,.inr ⟨_,_,rfl⟩⟩
 have e2:EC.LW W 2:=by
  obtain⟨a,s,hv,_⟩:=laid_sentinel h0.tail.tail.tail.tail g2 ty2 Tryz.underlying284 ac2 Tryz.underlying431 Tryz.underlying432 rfl rfl Tryz.underlying9 (by kernel_rfl) (by kernel_rfl)
  exact⟨_,by simpa using World.var?_cell g2 hv 0,.inr ⟨_,_,rfl⟩⟩
 have hlt:4<W.heap.size:=by
  have:=World.block_lt_of_cell? _ _ (hp.cell EC.PV 0 (by rw[Lib.pow10Tab_length];omega))
  exact this
 exact⟨⟨by omega,by omega,by omega,by omega,hlt⟩,Tryz.agi.s1_3 W hsh,hs,e2,e3,hp⟩
def tys:List Ty:=[eA]
theorem afB (iM:List DV)(h1:iM.map (·.t)=tys)(h2:∀d∈iM,lf d.t d.x)(h3:(iM.map fun d=>iK d.t d.x).sum≤1048576):Holds Tryz.prog EC.Gb 13 (iM.map .v) ⟨[.v ⟨.bool,true⟩],[],[]⟩:=by
 rcases iM with _|⟨⟨t0,x0⟩,_|⟨d,l⟩⟩
 ·simp[tys] at h1
 ·have e:t0=eA:=by simpa[tys] using h1
  subst e
  have hb:iK eA x0≤1048576:=by simpa using h3
  exact EC.ok_q5 x0 (true,()) (Pl.aga x0 hb) []
 ·simp[tys] at h1
theorem par:dN (aJ Tryz.prog) tys Tryz.f13.params.toList:=tys_of (by kernel_rfl) (by kernel_rfl)
theorem parB:cN (fun t=>Tryz.prog.readableRec t&&Nat.ble (t+1) Tryz.prog.types.size) Tryz.f13.params.toList=true:=by kernel_rfl
theorem parR (t:TypeId)(h:t∈Tryz.f13.params.toList):Tryz.prog.readableRec t=true∧t<Tryz.prog.types.size:=by
 have:=fW parB t h
 simp only[aF] at this
 exact⟨this.1,fu this.2⟩
theorem varB:(Tryz.prog.readableRec 380&&Nat.ble (380+1) Tryz.prog.types.size)=true:=by kernel_rfl
set_option maxRecDepth 100000 in
theorem varR:∀n∈Rows.fnExactServerTickSpec.vars,∀g t,Tryz.prog.globalNamed n=some g→(Tryz.prog.globals[g]?).map (·.type)=some t→Tryz.prog.readableRec t=true∧t<Tryz.prog.types.size:=by
 intro n hn g t hg ht
 have e:n = "loop.example/wellhead/impl.shaStep" :=by simpa[Rows.fnExactServerTickSpec] using hn
 subst e
 obtain rfl:=zl114 (EC.PW.symm.trans hg)
 obtain rfl:=zl114 (ty1.symm.trans ht)
 exact⟨(Bool.and_eq_true_iff.1 varB).1,fu (Bool.and_eq_true_iff.1 varB).2⟩
theorem res:Tryz.f13.resultTypes = #[4]:=by kernel_rfl
set_option maxRecDepth 100000 in
theorem contract (H:Type)(enc:TypeId×Value→H)(W:World)(base:Nat)(args:Array Value)(ds gs:List (DataW H))(before:List MemPlace)
  (hval:∀(j:Nat) t v,Tryz.f13.params[j]?=some t→args[j]?=some v→Value.okWide Tryz.prog W .any base t v)
  (hW:DataW.Whole enc Tryz.prog Tryz.f13.params.toList Rows.fnExactServerTickSpec.vars false W args.toList ds gs before) (hk:Rows.uptoSmall H (ds++gs)=true)
  (hL:laidMetH Tryz.prog Lq W) (hsh:W.ShapedOpen Tryz.prog) :
  Calls Tryz.prog 13 args W fun e W'=>∃v,e = .returned v∧Rows.fnExactServerTickSpec.post enc Tryz.prog Tryz.f13 false true false false W args v W':=
 law_okV (ub H) laid par (by intro t ht;simp only[tys,eH] at ht;subst ht;rfl) parR res Tryz.underlying4 varR
  (by
   intro ds gs hl hg
   rcases ds with _|⟨d0,_|⟨d1,l⟩⟩
   ·simp[tys] at hl
   ·rcases gs with _|⟨g,_|⟨g',l⟩⟩
    ·simp[Rows.fnExactServerTickSpec] at hg
    ·exact⟨rfl,rfl,rfl⟩
    ·simp[Rows.fnExactServerTickSpec] at hg
   ·simp[tys] at hl)
  afB hval hW (zl79 hk) (gb_of hL hsh)
def Nx:Array Value:= #[.agg #[.bool false,.int .i64 0,.string ⟨#[]⟩,.int .i64 0,.slice none 0 0,.slice none 0 0,.int .i64 0,.slice none 0 0,.slice none 0 0]]
def adK {H:Type}:List (DataW H):=[.agg [.lit (.bool false),.lit (.int .i64 0),.lit (.string []),.agg [.lit (.int .i64 0),.nil],.agg [.nil,.lit (.int .i64 0)],.nil,.nil]]
theorem af_ (os:Os):laidMet Tryz.prog Lq ((World.laidAll Tryz.prog os Lq).forCall (fun _ _=>0) ⟨#[],Nx,[]⟩).memory:=
 laidMet_laidAll Nx (by kernel_rfl) (by kernel_rfl)
theorem reads (os:Os){H:Type}(enc:TypeId×Value→H):∃places,DataW.whole enc Tryz.prog ((World.laidAll Tryz.prog os Lq).forCall (fun _ _=>0) ⟨#[],Nx,[]⟩).memory Tryz.f13.params.toList Rows.fnExactServerTickSpec.vars false Nx.toList 8=some (adK,[Rows.laid_loop_example_wellhead_impl_shaStep],places):=
 ⟨((List.range 64).map fun i=>MemPlace.cell 1 i),by kernel_rfl⟩
set_option maxRecDepth 100000 in
theorem lifted (os:Os)(started:os.Started)(H:Type)(enc:TypeId×Value→H)(F:Stop.Interp) :
  ReturnsInHanded {} Tryz.checked os 13 .any ((Rows.OpenSpec.upto Rows.fnExactServerTickSpec).preRow enc Tryz.prog Tryz.f13 Rows.fnExactServerTickUptoRow.domain false Lq) (((Rows.OpenSpec.upto Rows.fnExactServerTickSpec).at F).post enc Tryz.prog Tryz.f13 false true false false):=by
 obtain⟨places,hx⟩:=reads os enc
 refine returnsInHanded_of_row (C:=Tryz.checked) (s:=Rows.OpenSpec.upto Rows.fnExactServerTickSpec) own started (by kernel_rfl) Tryz.func13
  (witness_row_atRef (enc:=enc) (C:=Tryz.checked) false (World.laidAll Tryz.prog os Lq) Nx (World.laidAll_os _ _ _) (by kernel_rfl) (by kernel_rfl) (by kernel_rfl)
   (OpenSpec.preRow_of_cond 8 hx (by kernel_rfl) (fun k hk=>by cases hk;kernel_rfl) (by kernel_rfl) (af_ os))) ?_
 intro W base args ds gs before hval hW _ hk _ hL hsh _
 exact contract H enc W base args ds gs before hval hW (hk _ rfl) hL hsh
end Go.Proofs.YtfeoanopdlpabaaGreatDoor.fnExactServerTick
