import Derived.Test.YthgepblcaaiieaaGreatDoorX12
import Derived.Test.YthgepblcaaiieaaGreatDoorCards
import Derived.Test.YthgepblcaaiieaaGreatDoorTie
import Derived.Deep.DeepWitnessRowRef
import Derived.Stop.LaidErr
import Derived.Lay
import Derived.LaidLaws
import Derived.LaidMore
open Go Go.Ab
namespace Go.Proofs.YthgepblcaaiieaaGreatDoor.fnExactWorldBoard
theorem ub (H:Type):UB (H:=H) Rows.uptoBulk Rows.uptoBulkAll:=by
 refine⟨fun d=>?_,fun b=>?_,fun e s=>?_,fun p=>?_,fun d r=>?_⟩
 ·cases d with
  |lit l=>cases l<;>simp[Rows.uptoBulk]
  |_=>simp[Rows.uptoBulk]
 ·simp[Rows.uptoBulk]
 ·simp[Rows.uptoBulk]
 ·simp[Rows.uptoBulk]
 ·simp[Rows.uptoBulkAll]
theorem own:ownKnob Tryz.prog.godebug=none:=by kernel_rfl
theorem laid:laidOutB Tryz.prog=true:=by kernel_rfl
abbrev G0:=Rows.fnExactWorldBoardUptoRow.laid
theorem ty0:(Tryz.prog.globals[0]?).map (·.type)=some 106:=by kernel_rfl
theorem ty1:(Tryz.prog.globals[2]?).map (·.type)=some 244:=by kernel_rfl
theorem ty4:(Tryz.prog.globals[3]?).map (·.type)=some 250:=by kernel_rfl
theorem ty2:(Tryz.prog.globals[4]?).map (·.type)=some 186:=by kernel_rfl
theorem ty3:(Tryz.prog.globals[5]?).map (·.type)=some 186:=by kernel_rfl
theorem g0:Tryz.prog.globalNamed "loop.example/wellhead/impl.stateNames" = some 0:=by kernel_rfl
theorem g2:Tryz.prog.globalNamed "strconv.ErrSyntax" = some 4:=by kernel_rfl
theorem g3:Tryz.prog.globalNamed "strconv.ErrRange" = some 5:=by kernel_rfl
theorem star: "*" ++ "errors.errorString" = "*errors.errorString" :=by decide
theorem abA (u:TypeId)(h:Tryz.prog.typeName? 3 u=some "*errors.errorString"):u=274:=
 typeName_ptr_named (nm:= "errors.errorString") (by rw[star];kernel_rfl) (by kernel_rfl) (by decide) u (by rw[star];exact h)
theorem akx {W:World}{rest:List (String×DataW Unit)}{n:String}{g:Nat}{t:TypeId}{xs:List (List UInt8)}(hne:0<xs.length)(hg:Tryz.prog.globalNamed n=some g)(ht:(Tryz.prog.globals[g]?).map (·.type)=some t)
  (hs:Tryz.prog.underlying t=some (.slice 9)) (hc:Tryz.prog.cellsOf 9=1) (h:laidMet Tryz.prog ((n,.slice (xs.map fun s=>.lit (.string s)) [])::rest) W):af W (· < W.heap.size) (.ref (.lst .str)) xs [.pointer (some ⟨g,0,none⟩)]:=by
 obtain⟨ps,⟨g',t',cs,fuel,p,q,h1,h2,h3,h4,_⟩,_⟩:=h
 obtain rfl:=zl114 (hg.symm.trans h1)
 obtain rfl:=zl114 (ht.symm.trans h2)
 obtain⟨a,cap,e1,e2,e3⟩:=open_row hs hc h4
 have hlen:(xs.map fun s=>(DataW.lit (.string s):DataW Unit)).length=xs.length:=by simp
 rw[hlen] at e1 e2
 have cell (i:Nat) (s:List UInt8) (hi:xs[i]?=some s):W.cell? (a.add i)=some (.string ⟨s.toArray⟩):=by
  obtain⟨v,m,q',k1,k2⟩:=e3 i (.lit (.string s)) (by rw[List.getElem?_map,hi];rfl)
  obtain⟨z,k3,k4,_⟩:=DataW.trod_string Tryz.underlying9 k2
  simp only[eG,dY] at k3
  simp only[eE,DataW.lit.injEq,Lit.string.injEq] at k4
  rw[k1,k3,k4.1]
 obtain⟨s0,hs0⟩:∃s,xs[0]?=some s:=⟨xs[0],by simp[hne]⟩
 have c0:=cell 0 s0 hs0
 have a0:a.add 0=a:=by simp[Addr.add]
 rw[a0] at c0
 have hsp:a.spot=none:=by
  unfold World.cell? at c0
  split at c0
  ·split at c0
   ·cases c0
   ·rename_i h;simpa using h
  ·cases c0
 obtain⟨B,o,sp⟩:=a
 obtain rfl:sp=none:=hsp
 have hB:B<W.heap.size:=World.block_lt_of_cell? _ _ c0
 have hv:=World.var?_cell h1 h3 0
 have hv0:W.cell? ⟨g,0,none⟩=some (.slice (some ⟨B,o,none⟩) xs.length cap):=by
  rw[hv]
  have:cs = #[.slice (some ⟨B,o,none⟩) xs.length cap]:=by
   apply eU
   simpa using e1
  rw[this];rfl
 have hG:g<W.heap.size:=World.block_lt_of_cell? _ _ hv0
 simp only[af]
 refine⟨g,0,rfl,hG,by decide,[.slice (some ⟨B,o,none⟩) xs.length cap],rfl,?_,some ⟨B,o,none⟩,cap,rfl,e2,.inr ⟨B,o,rfl,hB,?_⟩⟩
 ·intro j hj
  obtain rfl:j=0:=by have:(Ty.lst Ty.str).size=1:=rfl;omega
  exact hv0
 ·intro i s hi
  refine⟨[.string ⟨s.toArray⟩],rfl,?_,rfl⟩
  intro j hj
  obtain rfl:j=0:=by have:Ty.str.size=1:=rfl;omega
  have:=cell i s hi
  have e:(⟨B,o,none⟩:Addr).add i=⟨B,o+i,none⟩:=by
   unfold Addr.add;split
   ·rename_i h;subst h;rfl
   ·rfl
  rw[e] at this
  have s1:Ty.str.size=1:=rfl
  simpa[s1] using this
set_option maxRecDepth 100000 in
theorem gb_of {W:World}(h:laidMetH Tryz.prog G0 W)(hsh:W.ShapedOpen Tryz.prog):CY.Gb.ok W (· < W.heap.size):=by
 have h0:laidMet Tryz.prog [("math/bits.deBruijn32tab",Rows.laid_math_bits_deBruijn32tab),("math/bits.deBruijn64tab",Rows.laid_math_bits_deBruijn64tab),("internal/strconv.uint64pow10",Rows.laid_internal_strconv_uint64pow10),("strconv.ErrRange",Rows.laid_strconv_ErrRange),("strconv.ErrSyntax",Rows.laid_strconv_ErrSyntax),("loop.example/wellhead/impl.stateNames",Rows.laid_loop_example_wellhead_impl_stateNames),("loop.example/wellhead/impl.shaStep",Rows.laid_loop_example_wellhead_impl_shaStep)] W:=h
 have hp:Lib.TabIs Tryz.prog W "internal/strconv.uint64pow10" .u64 Lib.pow10Tab:=
  Lib.tabIs_of_head CY.Sw ty4 Tryz.underlying250 Tryz.underlying220 (by kernel_rfl) (by kernel_rfl) h0.tail.tail
 have hs:Lib.TabIs Tryz.prog W "loop.example/wellhead/impl.shaStep" .u32 Wh.C4:=
  Lib.tabIs_of_head CY.OD ty1 Tryz.underlying244 Tryz.underlying210 (by kernel_rfl) (by kernel_rfl) h0.tail.tail.tail.tail.tail.tail
 have e3:CY.Jq W 5:=by
  obtain⟨a,s,hv,_⟩:=laid_sentinel h0.tail.tail.tail g3 ty3 Tryz.underlying186 abA Tryz.underlying274 Tryz.underlying276 rfl rfl Tryz.underlying9 (by kernel_rfl) (by kernel_rfl)
  exact⟨_,by simpa using World.var?_cell g3 hv 0,.inr ⟨_,_,rfl⟩⟩
 have e2:CY.Jq W 4:=by
  obtain⟨a,s,hv,_⟩:=laid_sentinel h0.tail.tail.tail.tail g2 ty2 Tryz.underlying186 abA Tryz.underlying274 Tryz.underlying276 rfl rfl Tryz.underlying9 (by kernel_rfl) (by kernel_rfl)
  exact⟨_,by simpa using World.var?_cell g2 hv 0,.inr ⟨_,_,rfl⟩⟩
 have hn:af W (· < W.heap.size) (.ref (.lst .str)) Wh.FV [.pointer (some ⟨0,0,none⟩)]:=
  akx (by decide) g0 ty0 Tryz.underlying106 (by kernel_rfl) h0.tail.tail.tail.tail.tail
 have hlt:5<W.heap.size:=by
  obtain⟨ev,hv,_⟩:=e3
  exact World.block_lt_of_cell? _ _ hv
 exact⟨⟨by omega,by omega,by omega,by omega,by omega,hlt⟩,Go.Proofs.cell_of_shapedOpen_int (zero:= #[.int .i64 0]) (t:=3) hsh (zl79 (by kernel_rfl)) (by kernel_rfl) rfl (by kernel_rfl) (by kernel_rfl) Tryz.underlying3,hs,e2,e3,hp,hn⟩
def tys:List Ty:=[bV]
theorem adZ (iM:List DV)(h1:iM.map (·.t)=tys)(h2:∀d∈iM,lf d.t d.x)(h3:(iM.map fun d=>iK d.t d.x).sum≤1048576):Holds Tryz.prog CY.Gb 3 (iM.map .v) ⟨[.v ⟨.bool,true⟩],[],[]⟩:=by
 rcases iM with _|⟨⟨t0,x0⟩,_|⟨d,l⟩⟩
 ·simp[tys] at h1
 ·have e:t0=bV:=by simpa[tys] using h1
  subst e
  have hb:iK bV x0≤1048576:=by simpa using h3
  exact CY.ok_q5 x0 (true,()) (Pl.aey x0 hb) []
 ·simp[tys] at h1
theorem par:dN (aJ Tryz.prog) tys Tryz.f3.params.toList:=tys_of (by kernel_rfl) (by kernel_rfl)
theorem parB:cN (fun t=>Tryz.prog.readableRec t&&Nat.ble (t+1) Tryz.prog.types.size) Tryz.f3.params.toList=true:=by kernel_rfl
theorem parR (t:TypeId)(h:t∈Tryz.f3.params.toList):Tryz.prog.readableRec t=true∧t<Tryz.prog.types.size:=by
 have:=fW parB t h
 simp only[aF] at this
 exact⟨this.1,fu this.2⟩
theorem varB:(Tryz.prog.readableRec 244&&Nat.ble (244+1) Tryz.prog.types.size)=true:=by kernel_rfl
theorem varC:(Tryz.prog.readableRec 106&&Nat.ble (106+1) Tryz.prog.types.size)=true:=by kernel_rfl
set_option maxRecDepth 100000 in
theorem varR:∀n∈Rows.fnExactWorldBoardSpec.vars,∀g t,Tryz.prog.globalNamed n=some g→(Tryz.prog.globals[g]?).map (·.type)=some t→Tryz.prog.readableRec t=true∧t<Tryz.prog.types.size:=by
 intro n hn g t hg ht
 have e:n = "loop.example/wellhead/impl.shaStep" ∨ n = "loop.example/wellhead/impl.stateNames" :=by simpa[Rows.fnExactWorldBoardSpec] using hn
 rcases e with e|e
 ·subst e
  obtain rfl:=zl114 (CY.OD.symm.trans hg)
  obtain rfl:=zl114 (ty1.symm.trans ht)
  exact⟨(Bool.and_eq_true_iff.1 varB).1,fu (Bool.and_eq_true_iff.1 varB).2⟩
 ·subst e
  obtain rfl:=zl114 (g0.symm.trans hg)
  obtain rfl:=zl114 (ty0.symm.trans ht)
  exact⟨(Bool.and_eq_true_iff.1 varC).1,fu (Bool.and_eq_true_iff.1 varC).2⟩
theorem res:Tryz.f3.resultTypes = #[4]:=by kernel_rfl
set_option maxRecDepth 100000 in
theorem contract (H:Type)(enc:TypeId×Value→H)(W:World)(base:Nat)(args:Array Value)(ds gs:List (DataW H))(before:List MemPlace)
  (hval:∀(j:Nat) t v,Tryz.f3.params[j]?=some t→args[j]?=some v→Value.okWide Tryz.prog W .any base t v)
  (hW:DataW.Whole enc Tryz.prog Tryz.f3.params.toList Rows.fnExactWorldBoardSpec.vars false W args.toList ds gs before) (hk:Rows.uptoSmall H (ds++gs)=true)
  (hL:laidMetH Tryz.prog G0 W) (hsh:W.ShapedOpen Tryz.prog) :
  Calls Tryz.prog 3 args W fun e W'=>∃v,e = .returned v∧Rows.fnExactWorldBoardSpec.post enc Tryz.prog Tryz.f3 false true false false W args v W':=
 law_okV (ub H) laid par (by intro t ht;simp only[tys,eH] at ht;subst ht;rfl) parR res Tryz.underlying4 varR
  (by
   intro ds gs hl hg
   rcases ds with _|⟨d0,_|⟨d1,l⟩⟩
   ·simp[tys] at hl
   ·rcases gs with _|⟨g,_|⟨g',_|⟨g'',l⟩⟩⟩
    ·simp[Rows.fnExactWorldBoardSpec] at hg
    ·simp[Rows.fnExactWorldBoardSpec] at hg
    ·exact⟨rfl,rfl,rfl⟩
    ·simp[Rows.fnExactWorldBoardSpec] at hg
   ·simp[tys] at hl)
  adZ hval hW (zl79 hk) (gb_of hL hsh)
def Ht:Array Value:= #[.agg #[.bool false,.int .i64 0,.string ⟨#[]⟩,.int .i64 0,.slice none 0 0,.slice none 0 0,.int .i64 0,.slice none 0 0,.slice none 0 0,.slice none 0 0,.slice none 0 0,.slice none 0 0]]
def ab8 {H:Type}:List (DataW H):=[.agg [.agg [.lit (.bool false),.lit (.int .i64 0),.lit (.string []),.agg [.lit (.int .i64 0),.nil],.agg [.nil,.lit (.int .i64 0)],.nil,.nil],.nil,.nil,.nil]]
theorem aex (os:Os):laidMet Tryz.prog G0 ((World.laidAll Tryz.prog os G0).forCall (fun _ _=>0) ⟨#[],Ht,[]⟩).memory:=
 laidMet_laidAll Ht (by kernel_rfl) (by kernel_rfl)
theorem reads (os:Os){H:Type}(enc:TypeId×Value→H):∃places,DataW.whole enc Tryz.prog ((World.laidAll Tryz.prog os G0).forCall (fun _ _=>0) ⟨#[],Ht,[]⟩).memory Tryz.f3.params.toList Rows.fnExactWorldBoardSpec.vars false Ht.toList 8=some (ab8,[Rows.laid_loop_example_wellhead_impl_shaStep,Rows.laid_loop_example_wellhead_impl_stateNames],places):=
 ⟨((DataW.whole enc Tryz.prog ((World.laidAll Tryz.prog os G0).forCall (fun _ _=>0) ⟨#[],Ht,[]⟩).memory Tryz.f3.params.toList Rows.fnExactWorldBoardSpec.vars false Ht.toList 8).getD ([],[],[])).2.2,by kernel_rfl⟩
set_option maxRecDepth 100000 in
theorem lifted (os:Os)(started:os.Started)(H:Type)(enc:TypeId×Value→H)(F:Stop.Interp) :
  ReturnsInHanded {} Tryz.checked os 3 .any ((Rows.OpenSpec.upto Rows.fnExactWorldBoardSpec).preRow enc Tryz.prog Tryz.f3 Rows.fnExactWorldBoardUptoRow.domain false G0) (((Rows.OpenSpec.upto Rows.fnExactWorldBoardSpec).at F).post enc Tryz.prog Tryz.f3 false true false false):=by
 obtain⟨places,hx⟩:=reads os enc
 refine returnsInHanded_of_row (C:=Tryz.checked) (s:=Rows.OpenSpec.upto Rows.fnExactWorldBoardSpec) own started (by kernel_rfl) Tryz.func3
  (witness_row_atRef (enc:=enc) (C:=Tryz.checked) false (World.laidAll Tryz.prog os G0) Ht (World.laidAll_os _ _ _) (by kernel_rfl) (by kernel_rfl) (by kernel_rfl)
   (OpenSpec.preRow_of_cond 8 hx (by kernel_rfl) (fun k hk=>by cases hk;kernel_rfl) (by kernel_rfl) (aex os))) ?_
 intro W base args ds gs before hval hW _ hk _ hL hsh _
 exact contract H enc W base args ds gs before hval hW (hk _ rfl) hL hsh
end Go.Proofs.YthgepblcaaiieaaGreatDoor.fnExactWorldBoard
