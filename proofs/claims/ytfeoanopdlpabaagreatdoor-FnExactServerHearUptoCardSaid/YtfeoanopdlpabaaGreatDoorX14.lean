import Derived.Test.YtfeoanopdlpabaaGreatDoorX13
import Derived.Test.YtfeoanopdlpabaaGreatDoorCards
import Derived.Test.YtfeoanopdlpabaaGreatDoorTie
import Derived.Deep.DeepWitnessRowRef
import Derived.Stop.LaidErr
import Derived.Lay
import Derived.LaidLaws
open Go Go.Ab
namespace Go.Proofs.YtfeoanopdlpabaaGreatDoor.fnExactServerHear
theorem ub (H:Type):UB (H:=H) Rows.uptoBulk Rows.uptoBulkAll:=by
 refine⟨fun d=>?_,fun b=>?_,fun e s=>?_,fun p=>?_,fun d r=>?_⟩
 ·cases d with
  |lit l=>cases l<;>simp[Rows.uptoBulk]
  |_=>simp[Rows.uptoBulk]
 ·simp[Rows.uptoBulk]
 ·simp[Rows.uptoBulk]
 ·simp[Rows.uptoBulk]
 ·simp[Rows.uptoBulkAll]
theorem own:ownKnob Tryz.prog.godebug=none:=by kernel_rfl
theorem laid:laidOutB Tryz.prog=true:=by kernel_rfl
abbrev Hx:=Rows.fnExactServerHearUptoRow.laid
theorem ty1:(Tryz.prog.globals[1]?).map (·.type)=some 380:=by kernel_rfl
theorem ty4:(Tryz.prog.globals[4]?).map (·.type)=some 416:=by kernel_rfl
theorem ty2:(Tryz.prog.globals[2]?).map (·.type)=some 284:=by kernel_rfl
theorem ty3:(Tryz.prog.globals[3]?).map (·.type)=some 284:=by kernel_rfl
theorem g2:Tryz.prog.globalNamed "strconv.ErrSyntax" = some 2:=by kernel_rfl
theorem g3:Tryz.prog.globalNamed "strconv.ErrRange" = some 3:=by kernel_rfl
theorem star: "*" ++ "errors.errorString" = "*errors.errorString" :=by decide
theorem Y3 (u:TypeId)(h:Tryz.prog.typeName? 3 u=some "*errors.errorString"):u=431:=
 typeName_ptr_named (nm:= "errors.errorString") (by rw[star];kernel_rfl) (by kernel_rfl) (by decide) u (by rw[star];exact h)
set_option maxRecDepth 100000 in
theorem gb_of {W:World}(h:laidMetH Tryz.prog Hx W)(hsh:W.ShapedOpen Tryz.prog):B4.Gb.ok W (· < W.heap.size):=by
 have h0:laidMet Tryz.prog [("math/bits.deBruijn32tab",Rows.laid_math_bits_deBruijn32tab),("math/bits.deBruijn64tab",Rows.laid_math_bits_deBruijn64tab),("internal/strconv.uint64pow10",Rows.laid_internal_strconv_uint64pow10),("strconv.ErrRange",Rows.laid_strconv_ErrRange),("strconv.ErrSyntax",Rows.laid_strconv_ErrSyntax),("loop.example/wellhead/impl.shaStep",Rows.laid_loop_example_wellhead_impl_shaStep)] W:=h
 have hp:Lib.TabIs Tryz.prog W "internal/strconv.uint64pow10" .u64 Lib.pow10Tab:=
  Lib.tabIs_of_head B4.Lu ty4 Tryz.underlying416 Tryz.underlying331 (by kernel_rfl) (by kernel_rfl) h0.tail.tail
 have hs:Lib.TabIs Tryz.prog W "loop.example/wellhead/impl.shaStep" .u32 Wh.Cy:=
  Lib.tabIs_of_head B4.Lv ty1 Tryz.underlying380 Tryz.underlying345 (by kernel_rfl) (by kernel_rfl) h0.tail.tail.tail.tail.tail
 have e3:B4.HT W 3:=by
  obtain⟨a,s,hv,_⟩:=laid_sentinel h0.tail.tail.tail g3 ty3 Tryz.underlying284 Y3 Tryz.underlying431 Tryz.underlying432 rfl rfl Tryz.underlying9 (by kernel_rfl) (by kernel_rfl)
  exact⟨_,by simpa using World.var?_cell g3 hv 0,.inr ⟨_,_,rfl⟩⟩
 have e2:B4.HT W 2:=by
  obtain⟨a,s,hv,_⟩:=laid_sentinel h0.tail.tail.tail.tail g2 ty2 Tryz.underlying284 Y3 Tryz.underlying431 Tryz.underlying432 rfl rfl Tryz.underlying9 (by kernel_rfl) (by kernel_rfl)
  exact⟨_,by simpa using World.var?_cell g2 hv 0,.inr ⟨_,_,rfl⟩⟩
 have hlt:4<W.heap.size:=by
  have:=World.block_lt_of_cell? _ _ (hp.cell B4.Lu 0 (by rw[Lib.pow10Tab_length];omega))
  exact this
 exact⟨⟨by omega,by omega,by omega,by omega,hlt⟩,Tryz.abM.s1_3 W hsh,hs,e2,e3,hp⟩
def tys:List Ty:=[fk,fT]
theorem abe (dM:List DV)(h1:dM.map (·.t)=tys)(h2:∀d∈dM,iV d.t d.x)(h3:(dM.map fun d=>fR d.t d.x).sum≤1048576):Holds Tryz.prog B4.Gb 11 (dM.map .v) ⟨[.v ⟨.bool,true⟩],[],[]⟩:=by
 rcases dM with _|⟨⟨t0,x0⟩,_|⟨⟨t1,x1⟩,_|⟨d,l⟩⟩⟩
 ·simp[tys] at h1
 ·simp[tys] at h1
 ·have e:t0=fk∧t1=fT:=by simpa[tys] using h1
  obtain⟨e0,e1⟩:=e
  subst e0 e1
  have hb:fR fk x0+fR fT x1≤1048576:=by simpa using h3
  exact B4.ok_q9 (x0,x1) (true,()) (Pl.abG x0 x1 hb) []
 ·simp[tys] at h1
theorem par:cB (aF Tryz.prog) tys Tryz.f11.params.toList:=tys_of (by kernel_rfl) (by kernel_rfl)
theorem parB:cn (fun t=>Tryz.prog.readableRec t&&Nat.ble (t+1) Tryz.prog.types.size) Tryz.f11.params.toList=true:=by kernel_rfl
theorem parR (t:TypeId)(h:t∈Tryz.f11.params.toList):Tryz.prog.readableRec t=true∧t<Tryz.prog.types.size:=by
 have:=eG parB t h
 simp only[Bool.and_eq_true] at this
 exact⟨this.1,Nat.le_of_ble_eq_true this.2⟩
theorem varB:(Tryz.prog.readableRec 380&&Nat.ble (380+1) Tryz.prog.types.size)=true:=by kernel_rfl
set_option maxRecDepth 100000 in
theorem varR:∀n∈Rows.fnExactServerHearSpec.vars,∀g t,Tryz.prog.globalNamed n=some g→(Tryz.prog.globals[g]?).map (·.type)=some t→Tryz.prog.readableRec t=true∧t<Tryz.prog.types.size:=by
 intro n hn g t hg ht
 have e:n = "loop.example/wellhead/impl.shaStep" :=by simpa[Rows.fnExactServerHearSpec] using hn
 subst e
 obtain rfl:=Option.some.inj (B4.Lv.symm.trans hg)
 obtain rfl:=Option.some.inj (ty1.symm.trans ht)
 exact⟨(Bool.and_eq_true_iff.1 varB).1,Nat.le_of_ble_eq_true (Bool.and_eq_true_iff.1 varB).2⟩
theorem res:Tryz.f11.resultTypes = #[4]:=by kernel_rfl
set_option maxRecDepth 100000 in
theorem contract (H:Type)(enc:TypeId×Value→H)(W:World)(base:Nat)(args:Array Value)(ds gs:List (DataW H))(before:List MemPlace)
  (hval:∀(j:Nat) t v,Tryz.f11.params[j]?=some t→args[j]?=some v→Value.okWide Tryz.prog W .any base t v)
  (hW:DataW.Whole enc Tryz.prog Tryz.f11.params.toList Rows.fnExactServerHearSpec.vars false W args.toList ds gs before) (hk:Rows.uptoSmall H (ds++gs)=true)
  (hL:laidMetH Tryz.prog Hx W) (hsh:W.ShapedOpen Tryz.prog) :
  Calls Tryz.prog 11 args W fun e W'=>∃v,e = .returned v∧Rows.fnExactServerHearSpec.post enc Tryz.prog Tryz.f11 false true false false W args v W':=
 law_okV (ub H) laid par (by intro t ht;simp only[tys,List.mem_cons,List.not_mem_nil,or_false] at ht;rcases ht with rfl|rfl<;>rfl) parR res Tryz.underlying4 varR
  (by
   intro ds gs hl hg
   rcases ds with _|⟨d0,_|⟨d1,_|⟨d2,l⟩⟩⟩
   ·simp[tys] at hl
   ·simp[tys] at hl
   ·rcases gs with _|⟨g,_|⟨g',l⟩⟩
    ·simp[Rows.fnExactServerHearSpec] at hg
    ·exact⟨rfl,rfl,rfl⟩
    ·simp[Rows.fnExactServerHearSpec] at hg
   ·simp[tys] at hl)
  abe hval hW (of_decide_eq_true hk) (gb_of hL hsh)
def Jn:Array Value:= #[.agg #[.bool false,.int .i64 0,.string ⟨#[]⟩,.int .i64 0,.slice none 0 0,.slice none 0 0,.int .i64 0,.slice none 0 0,.slice none 0 0],.agg #[.int .i64 0,.int .i64 0,.int .i64 0,.int .i64 0,.int .i64 0,.string ⟨#[]⟩,.string ⟨#[]⟩]]
def Zv {H:Type}:List (DataW H):=[.agg [.lit (.bool false),.lit (.int .i64 0),.lit (.string []),.agg [.lit (.int .i64 0),.nil],.agg [.nil,.lit (.int .i64 0)],.nil,.nil],.agg [.lit (.int .i64 0),.lit (.int .i64 0),.lit (.int .i64 0),.lit (.int .i64 0),.lit (.int .i64 0),.lit (.string []),.lit (.string [])]]
theorem abF (os:Os):laidMet Tryz.prog Hx ((World.laidAll Tryz.prog os Hx).forCall (fun _ _=>0) ⟨#[],Jn,[]⟩).memory:=
 laidMet_laidAll Jn (by kernel_rfl) (by kernel_rfl)
theorem reads (os:Os){H:Type}(enc:TypeId×Value→H):∃places,DataW.whole enc Tryz.prog ((World.laidAll Tryz.prog os Hx).forCall (fun _ _=>0) ⟨#[],Jn,[]⟩).memory Tryz.f11.params.toList Rows.fnExactServerHearSpec.vars false Jn.toList 8=some (Zv,[Rows.laid_loop_example_wellhead_impl_shaStep],places):=
 ⟨((List.range 64).map fun i=>MemPlace.cell 1 i),by kernel_rfl⟩
set_option maxRecDepth 100000 in
theorem lifted (os:Os)(started:os.Started)(H:Type)(enc:TypeId×Value→H)(F:Stop.Interp) :
  ReturnsInHanded {} Tryz.checked os 11 .any ((Rows.OpenSpec.upto Rows.fnExactServerHearSpec).preRow enc Tryz.prog Tryz.f11 Rows.fnExactServerHearUptoRow.domain false Hx) (((Rows.OpenSpec.upto Rows.fnExactServerHearSpec).at F).post enc Tryz.prog Tryz.f11 false true false false):=by
 obtain⟨places,hx⟩:=reads os enc
 refine returnsInHanded_of_row (C:=Tryz.checked) (s:=Rows.OpenSpec.upto Rows.fnExactServerHearSpec) own started (by kernel_rfl) Tryz.func11
  (witness_row_atRef (enc:=enc) (C:=Tryz.checked) false (World.laidAll Tryz.prog os Hx) Jn (World.laidAll_os _ _ _) (by kernel_rfl) (by kernel_rfl) (by kernel_rfl)
   (OpenSpec.preRow_of_cond 8 hx (by kernel_rfl) (fun k hk=>by cases hk;kernel_rfl) (by kernel_rfl) (abF os))) ?_
 intro W base args ds gs before hval hW _ hk _ hL hsh _
 exact contract H enc W base args ds gs before hval hW (hk _ rfl) hL hsh
end Go.Proofs.YtfeoanopdlpabaaGreatDoor.fnExactServerHear
