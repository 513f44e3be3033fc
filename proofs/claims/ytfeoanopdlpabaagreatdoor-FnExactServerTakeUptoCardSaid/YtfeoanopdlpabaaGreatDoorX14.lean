import Derived.Test.YtfeoanopdlpabaaGreatDoorX13
import Derived.Test.YtfeoanopdlpabaaGreatDoorCards
import Derived.Test.YtfeoanopdlpabaaGreatDoorTie
import Derived.Deep.DeepWitnessRowRef
import Derived.Stop.LaidErr
import Derived.Lay
import Derived.LaidLaws
open Go Go.Ab
namespace Go.Proofs.YtfeoanopdlpabaaGreatDoor.fnExactServerTake
theorem ub (H:Type):UB (H:=H) Rows.uptoBulk Rows.uptoBulkAll:=by
 refine⟨fun d=>?_,fun b=>?_,fun e s=>?_,fun p=>?_,fun d r=>?_⟩
 ·cases d with
  |lit l=>cases l<;>simp[Rows.uptoBulk]
  |_=>simp[Rows.uptoBulk]
 ·simp[Rows.uptoBulk]
 ·simp[Rows.uptoBulk]
 ·simp[Rows.uptoBulk]
 ·simp[Rows.uptoBulkAll]
theorem own:ownKnob Tryz.prog.godebug=none:=by kernel_rfl
theorem laid:laidOutB Tryz.prog=true:=by kernel_rfl
abbrev Fx:=Rows.fnExactServerTakeUptoRow.laid
theorem ty1:(Tryz.prog.globals[1]?).map (·.type)=some 380:=by kernel_rfl
theorem ty4:(Tryz.prog.globals[4]?).map (·.type)=some 416:=by kernel_rfl
theorem ty2:(Tryz.prog.globals[2]?).map (·.type)=some 284:=by kernel_rfl
theorem ty3:(Tryz.prog.globals[3]?).map (·.type)=some 284:=by kernel_rfl
theorem g2:Tryz.prog.globalNamed "strconv.ErrSyntax" = some 2:=by kernel_rfl
theorem g3:Tryz.prog.globalNamed "strconv.ErrRange" = some 3:=by kernel_rfl
theorem star: "*" ++ "errors.errorString" = "*errors.errorString" :=by decide
theorem V_ (u:TypeId) (h:Tryz.prog.typeName? 3 u=some "*errors.errorString"):u=431:=
 typeName_ptr_named (nm:= "errors.errorString") (by rw[star];kernel_rfl) (by kernel_rfl) (by decide) u (by rw[star];exact h)
set_option maxRecDepth 100000 in
theorem gb_of {W:World} (h:laidMetH Tryz.prog Fx W) (hsh:W.ShapedOpen Tryz.prog):AV.Gb.ok W (· < W.heap.size):=by
 have h0:laidMet Tryz.prog [("math/bits.deBruijn32tab",Rows.laid_math_bits_deBruijn32tab),("math/bits.deBruijn64tab",Rows.laid_math_bits_deBruijn64tab),("internal/strconv.uint64pow10",Rows.laid_internal_strconv_uint64pow10),("strconv.ErrRange",Rows.laid_strconv_ErrRange),("strconv.ErrSyntax",Rows.laid_strconv_ErrSyntax),("loop.example/wellhead/impl.shaStep",Rows.laid_loop_example_wellhead_impl_shaStep)] W:=h
 have hp:Lib.TabIs Tryz.prog W "internal/strconv.uint64pow10" .u64 Lib.pow10Tab:=
  Lib.tabIs_of_head AV.K8 ty4 Tryz.underlying416 Tryz.underlying331 (by kernel_rfl) (by kernel_rfl) h0.tail.tail
 have hs:Lib.TabIs Tryz.prog W "loop.example/wellhead/impl.shaStep" .u32 Wh.Bc:=
  Lib.tabIs_of_head AV.K9 ty1 Tryz.underlying380 Tryz.underlying345 (by kernel_rfl) (by kernel_rfl) h0.tail.tail.tail.tail.tail
 have e3:AV.F5 W 3:=by
  obtain⟨a,s,hv,_⟩:=laid_sentinel h0.tail.tail.tail g3 ty3 Tryz.underlying284 V_ Tryz.underlying431 Tryz.underlying432 rfl rfl Tryz.underlying9 (by kernel_rfl) (by kernel_rfl)
  exact⟨_,by simpa using World.var?_cell g3 hv 0,.inr ⟨_,_,rfl⟩⟩
 have e2:AV.F5 W 2:=by
  obtain⟨a,s,hv,_⟩:=laid_sentinel h0.tail.tail.tail.tail g2 ty2 Tryz.underlying284 V_ Tryz.underlying431 Tryz.underlying432 rfl rfl Tryz.underlying9 (by kernel_rfl) (by kernel_rfl)
  exact⟨_,by simpa using World.var?_cell g2 hv 0,.inr ⟨_,_,rfl⟩⟩
 have hlt:4<W.heap.size:=by
  have:=World.block_lt_of_cell? _ _ (hp.cell AV.K8 0 (by rw[Lib.pow10Tab_length];omega))
  exact this
 exact⟨⟨by omega,by omega,by omega,by omega,hlt⟩,Tryz.Ya.s1_3 W hsh,hs,e2,e3,hp⟩
def tys:List Ty:=[cx,.int .i64,.str]
theorem XJ (dM:List DV) (h1:dM.map (·.t)=tys) (h2:∀d∈dM,iV d.t d.x) (h3:(dM.map fun d=>fR d.t d.x).sum≤1048576):Holds Tryz.prog AV.Gb 7 (dM.map .v) ⟨[.v ⟨.bool,true⟩],[],[]⟩:=by
 rcases dM with _|⟨⟨t0,x0⟩,_|⟨⟨t1,x1⟩,_|⟨⟨t2,x2⟩,_|⟨d,l⟩⟩⟩⟩
 ·simp[tys] at h1
 ·simp[tys] at h1
 ·simp[tys] at h1
 ·have e:t0=cx∧t1 = .int .i64∧t2 = .str:=by simpa[tys] using h1
  obtain⟨e0,e1,e2⟩:=e
  subst e0 e1 e2
  have hb:fR cx x0+(fR (.int .i64) x1+fR .str x2)≤1048576:=by simpa using h3
  have l2:fR .str x2=List.length (α:=UInt8) x2+1:=rfl
  exact AV.ok_q5 (x0,x1,x2) (true,()) (Pl.X5 x0 x1 x2 (by omega) (by omega)) []
 ·simp[tys] at h1
theorem par:cB (aF Tryz.prog) tys Tryz.f7.params.toList:=tys_of (by kernel_rfl) (by kernel_rfl)
theorem parB:cn (fun t=>Tryz.prog.readableRec t&&Nat.ble (t+1) Tryz.prog.types.size) Tryz.f7.params.toList=true:=by kernel_rfl
theorem parR (t:TypeId) (h:t∈Tryz.f7.params.toList):Tryz.prog.readableRec t=true∧t<Tryz.prog.types.size:=by
 have:=eG parB t h
 simp only[Bool.and_eq_true] at this
 exact⟨this.1,Nat.le_of_ble_eq_true this.2⟩
theorem varB:(Tryz.prog.readableRec 380&&Nat.ble (380+1) Tryz.prog.types.size)=true:=by kernel_rfl
set_option maxRecDepth 100000 in
theorem varR:∀n∈Rows.fnExactServerTakeSpec.vars,∀g t,Tryz.prog.globalNamed n=some g→(Tryz.prog.globals[g]?).map (·.type)=some t→Tryz.prog.readableRec t=true∧t<Tryz.prog.types.size:=by
 intro n hn g t hg ht
 have e:n = "loop.example/wellhead/impl.shaStep" :=by simpa[Rows.fnExactServerTakeSpec] using hn
 subst e
 obtain rfl:=Option.some.inj (AV.K9.symm.trans hg)
 obtain rfl:=Option.some.inj (ty1.symm.trans ht)
 exact⟨(Bool.and_eq_true_iff.1 varB).1,Nat.le_of_ble_eq_true (Bool.and_eq_true_iff.1 varB).2⟩
theorem res:Tryz.f7.resultTypes = #[4]:=by kernel_rfl
set_option maxRecDepth 100000 in
theorem contract (H:Type) (enc:TypeId×Value→H) (W:World) (base:Nat) (args:Array Value) (ds gs:List (DataW H)) (before:List MemPlace)
  (hval:∀(j:Nat) t v,Tryz.f7.params[j]?=some t→args[j]?=some v→Value.okWide Tryz.prog W .any base t v)
  (hW:DataW.Whole enc Tryz.prog Tryz.f7.params.toList Rows.fnExactServerTakeSpec.vars false W args.toList ds gs before) (hk:Rows.uptoSmall H (ds++gs)=true)
  (hL:laidMetH Tryz.prog Fx W) (hsh:W.ShapedOpen Tryz.prog) :
  Calls Tryz.prog 7 args W fun e W'=>∃v,e = .returned v∧Rows.fnExactServerTakeSpec.post enc Tryz.prog Tryz.f7 false true false false W args v W':=
 law_okV (ub H) laid par (by intro t ht;simp only[tys,List.mem_cons,List.not_mem_nil,or_false] at ht;rcases ht with rfl|rfl|rfl<;>rfl) parR res Tryz.underlying4 varR
  (by
   intro ds gs hl hg
   rcases ds with _|⟨d0,_|⟨d1,_|⟨d2,_|⟨d3,l⟩⟩⟩⟩
   ·simp[tys] at hl
   ·simp[tys] at hl
   ·simp[tys] at hl
   ·rcases gs with _|⟨g,_|⟨g',l⟩⟩
    ·simp[Rows.fnExactServerTakeSpec] at hg
    ·exact⟨rfl,rfl,rfl⟩
    ·simp[Rows.fnExactServerTakeSpec] at hg
   ·simp[tys] at hl)
  XJ hval hW (of_decide_eq_true hk) (gb_of hL hsh)
def He:Array Value:= #[.agg #[.bool false,.int .i64 0,.string ⟨#[]⟩,.int .i64 0,.slice none 0 0,.slice none 0 0,.int .i64 0,.slice none 0 0,.slice none 0 0],.int .i64 0,.string ⟨#[]⟩]
def Wy {H:Type}:List (DataW H):=[.agg [.lit (.bool false),.lit (.int .i64 0),.lit (.string []),.agg [.lit (.int .i64 0),.nil],.agg [.nil,.lit (.int .i64 0)],.nil,.nil],.lit (.int .i64 0),.lit (.string [])]
theorem X4 (os:Os):laidMet Tryz.prog Fx ((World.laidAll Tryz.prog os Fx).forCall (fun _ _=>0) ⟨#[],He,[]⟩).memory:=
 laidMet_laidAll He (by kernel_rfl) (by kernel_rfl)
theorem reads (os:Os) {H:Type} (enc:TypeId×Value→H):∃places,DataW.whole enc Tryz.prog ((World.laidAll Tryz.prog os Fx).forCall (fun _ _=>0) ⟨#[],He,[]⟩).memory Tryz.f7.params.toList Rows.fnExactServerTakeSpec.vars false He.toList 8=some (Wy,[Rows.laid_loop_example_wellhead_impl_shaStep],places):=
 ⟨((List.range 64).map fun i=>MemPlace.cell 1 i),by kernel_rfl⟩
set_option maxRecDepth 100000 in
theorem lifted (os:Os) (started:os.Started) (H:Type) (enc:TypeId×Value→H) (F:Stop.Interp) :
  ReturnsInHanded {} Tryz.checked os 7 .any ((Rows.OpenSpec.upto Rows.fnExactServerTakeSpec).preRow enc Tryz.prog Tryz.f7 Rows.fnExactServerTakeUptoRow.domain false Fx) (((Rows.OpenSpec.upto Rows.fnExactServerTakeSpec).at F).post enc Tryz.prog Tryz.f7 false true false false):=by
 obtain⟨places,hx⟩:=reads os enc
 refine returnsInHanded_of_row (C:=Tryz.checked) (s:=Rows.OpenSpec.upto Rows.fnExactServerTakeSpec) own started (by kernel_rfl) Tryz.func7
  (witness_row_atRef (enc:=enc) (C:=Tryz.checked) false (World.laidAll Tryz.prog os Fx) He (World.laidAll_os _ _ _) (by kernel_rfl) (by kernel_rfl) (by kernel_rfl)
   (OpenSpec.preRow_of_cond 8 hx (by kernel_rfl) (fun k hk=>by cases hk;kernel_rfl) (by kernel_rfl) (X4 os))) ?_
 intro W base args ds gs before hval hW _ hk _ hL hsh _
 exact contract H enc W base args ds gs before hval hW (hk _ rfl) hL hsh
end Go.Proofs.YtfeoanopdlpabaaGreatDoor.fnExactServerTake
